/- Own texts of this claim, in build order: Mr, Rk. -/
import Derived.Test.YtbnbklbpkpibmaaDoorX4
import Derived.Test.YtbnbklbpkpibmaaDoorRows
import Derived.Lib.LaidTab
import Derived.MakeChecks
import Derived.LaidMore
section
set_option maxRecDepth 100000
set_option maxHeartbeats 4000000
set_option autoImplicit false
set_option linter.unusedVariables false
set_option linter.unusedSimpArgs false
namespace Go.LX
open Go.Proofs

theorem flP_cons (p : Pr) (l : List Pr) : flP (p :: l) = .str p.1 :: .str p.2 :: flP l := by
  obtain ⟨a, b⟩ := p
  rfl
theorem flP_set (v : List UInt8) : ∀ (l : List Pr) (k : Nat), k < l.length → (flP l).set (k * 2 + 1) (.str v) = flP (l.set k ((l.getD k ([], [])).1, v))
  | [], k, h => by simp at h
  | p :: l, 0, h => by
    rw [flP_cons]
    show _ = flP ((p.1, v) :: l)
    rw [flP_cons]
    rfl
  | p :: l, k + 1, h => by
    rw [flP_cons, show (k + 1) * 2 + 1 = (k * 2 + 1) + 1 + 1 by omega]
    show CV.str p.1 :: CV.str p.2 :: (flP l).set (k * 2 + 1) (.str v) = flP (p :: l.set k ((l.getD k ([], [])).1, v))
    rw [flP_set v l k (by simpa using h), flP_cons]
theorem flP_cut (l : List Pr) {k : Nat} (h : k < l.length) : (flP l).take (k * 2) ++ ((flP l).drop ((k + 1) * 2)).take ((l.length - (k + 1)) * 2) = flP (l.take k ++ l.drop (k + 1)) := by
  have h1 := flP_take l (k := k) (by omega)
  have h2 := flP_drop l (k := k + 1) (by omega)
  rw [Nat.mul_comm 2] at h1 h2
  rw [h1, h2, flP_app]
  congr 1
  refine List.take_of_length_le ?_
  rw [flP_len, List.length_drop]
  omega
theorem flP_ins (l : List Pr) {k : Nat} (h : k < l.length) (p : Pr) : ([] ++ ((flP l).take ((k + 1) * 2)).drop (0 * 2)) ++ [CV.str p.1, CV.str p.2] ++ ((flP l).take (l.length * 2)).drop ((k + 1) * 2) = flP (l.take (k + 1) ++ [p] ++ l.drop (k + 1)) := by
  have h1 := flP_take l (k := k + 1) (by omega)
  have h2 := flP_drop l (k := k + 1) (by omega)
  rw [Nat.mul_comm 2] at h1 h2
  have h3 : (flP l).take (l.length * 2) = flP l := List.take_of_length_le (by rw [flP_len]; omega)
  rw [h3, h1, h2, flP_app, flP_app, Nat.zero_mul, List.drop_zero, List.nil_append]
  rfl
def pairs8S : Spec := fun args H Q => match args, H with
  | [.sl 2 n cs f, .sl 2 n' cs' f'], [] => ∃ l m : List Pr, n = l.length ∧ cs = flP l ∧ n' = m.length ∧ cs' = flP m ∧ l.length ≤ 100000 ∧ m.length ≤ 100000 ∧ Q (.bool (decide (l = m))) []
  | _, _ => False
theorem pairs8_c : Meets Tryd.prog [] 15 pairs8S := by
  refine meets_of Γok Tryd.func15 rfl ?_
  intro args H Q h
  unfold pairs8S at h
  split at h
  case h_2 => exact h.elim
  rename_i n cs f n' cs' f'
  obtain ⟨l, m, rfl, rfl, rfl, rfl, hl, hm, h⟩ := h
  by_cases hll : l.length = m.length
  case neg =>
    have c0 : (!decide (((l.length : Nat) : Int) = ((m.length : Nat) : Int))) = true := by
      rw [decide_eq_false (by omega)]
      rfl
    rw [decide_eq_false (fun e => hll (by rw [e]))] at h
    (refine sx_sound Γok _ ?_; conv => whnf)
    (repeat (first | (refine Both.of_true c0 ?_; conv => whnf) | (exact Out.same; conv => whnf) | (exact Out1.same; conv => whnf) | (refine QAnd.mk ?_ ?_; conv => whnf) | (apply QStepH.go; conv => whnf) | (refine Both.lit_true ?_; conv => whnf) | (refine Both.lit_false ?_; conv => whnf) | (apply QStep.go; conv => whnf) | (refine Need.au ?_; conv => whnf) | (refine ⟨_, rfl, ?_⟩; conv => whnf)))
    exact ⟨_, _, WeakV.drop rfl, h⟩
  have c0 : (!decide (((l.length : Nat) : Int) = ((m.length : Nat) : Int))) = false := by
    rw [decide_eq_true (by omega)]
    rfl
  (refine sx_sound Γok _ ?_; conv => whnf)
  (repeat (first | (refine Both.of_false c0 ?_; conv => whnf) | (exact Out.same; conv => whnf) | (exact Out1.same; conv => whnf) | (refine QAnd.mk ?_ ?_; conv => whnf) | (apply QStepH.go; conv => whnf) | (refine Both.lit_true ?_; conv => whnf) | (refine Both.lit_false ?_; conv => whnf) | (apply QStep.go; conv => whnf) | (refine Need.au ?_; conv => whnf) | (refine ⟨_, rfl, ?_⟩; conv => whnf)))
  refine loop_rule (fun k : Nat => ⟨[.sl 2 l.length (flP l) f, .sl 2 m.length (flP m) f', .any, .any, .any, .int .i64 (k : Int), .any, .any, .any, .any, .any, .any, .any, .any, .any, .any, .any, .any, .any, .any, .any, .any, .any, .any, .any, .any], []⟩) (fun k => k ≤ l.length ∧ ∀ j, j < k → l.getD j ([], []) = m.getD j ([], [])) (fun k => l.length - k) 0 ⟨Nat.zero_le _, fun j hj => absurd hj (Nat.not_lt_zero _)⟩ (Weak.auto ?_) ?_
  · (repeat' ((conv => whnf); first | exact True.intro | (refine And.intro ?_ ?_)))
    all_goals first | rfl | exact .eq rfl
  rintro k ⟨hk, hpre⟩
  (refine sx_sound Γok _ ?_; conv => whnf)
  (repeat (first | (exact Out.same; conv => whnf) | (exact Out1.same; conv => whnf) | (refine QAnd.mk ?_ ?_; conv => whnf) | (apply QStepH.go; conv => whnf) | (refine Both.lit_true ?_; conv => whnf) | (refine Both.lit_false ?_; conv => whnf) | (apply QStep.go; conv => whnf) | (refine Need.au ?_; conv => whnf) | (refine ⟨_, rfl, ?_⟩; conv => whnf)))
  refine Both.dec (fun hlt => ?_) (fun hge => ?_)
  rotate_left
  · have heq : l = m := list_ext hll (fun j hj => hpre j (by omega))
    rw [decide_eq_true heq] at h
    (conv => whnf)
    (repeat (first | (exact Out.same; conv => whnf) | (exact Out1.same; conv => whnf) | (refine QAnd.mk ?_ ?_; conv => whnf) | (apply QStepH.go; conv => whnf) | (refine Both.lit_true ?_; conv => whnf) | (refine Both.lit_false ?_; conv => whnf) | (apply QStep.go; conv => whnf) | (refine Need.au ?_; conv => whnf) | (refine ⟨_, rfl, ?_⟩; conv => whnf)))
    exact ⟨_, _, WeakV.drop rfl, h⟩
  have hkl : k < l.length := by omega
  have hat := flP_at l hkl
  have hatm := flP_at m (k := k) (by omega)
  have hin : ti27.size = 2 ∧ (0 : Int) ≤ (k : Int) ∧ (k : Int) < ((l.length : Nat) : Int) := ⟨rfl, by omega, by omega⟩
  have hinm : ti27.size = 2 ∧ (0 : Int) ≤ (k : Int) ∧ (k : Int) < ((m.length : Nat) : Int) := ⟨rfl, by omega, by omega⟩
  have hwr : IntKind.i64.wrap ((k : Int) + 1) = ((k + 1 : Nat) : Int) := by rw [wrap_i64 (by omega) (by omega)]; rfl
  have hpe := pair_eq (l.getD k ([], [])) (m.getD k ([], []))
  have hnx : l.getD k ([], []) = m.getD k ([], []) → ∀ j, j < k + 1 → l.getD j ([], []) = m.getD j ([], []) := fun e j hj => by
    rcases Nat.lt_or_ge j k with h9 | h9
    · exact hpre j h9
    · rw [show j = k by omega]
      exact e
  have hne : l.getD k ([], []) ≠ m.getD k ([], []) → l ≠ m := fun e q => e (by rw [q])
  revert hat hatm hnx hpe hne
  generalize l.getD k ([], []) = p
  generalize m.getD k ([], []) = q
  intro hat hatm hpe hnx hne
  by_cases hpq : p = q
  · have c1 : (!(decide (p.1 = q.1) && (decide (p.2 = q.2) && true))) = false := by rw [hpe, decide_eq_true hpq]; rfl
    (conv => whnf)
    (refine DrawVC.any Γok (by kernel_rfl) (by kernel_rfl) (by kernel_rfl) (by rfl) ?_; conv => whnf)
    (repeat (first | (refine Need.mk hin ?_; conv => whnf) | (refine Need.mk hinm ?_; conv => whnf) | (refine ⟨_, hat, ?_⟩; conv => whnf) | (refine ⟨_, hatm, ?_⟩; conv => whnf) | (refine Both.of_false c1 ?_; conv => whnf) | (exact Out.same; conv => whnf) | (exact Out1.same; conv => whnf) | (refine QAnd.mk ?_ ?_; conv => whnf) | (apply QStepH.go; conv => whnf) | (refine Both.lit_true ?_; conv => whnf) | (refine Both.lit_false ?_; conv => whnf) | (apply QStep.go; conv => whnf) | (refine Need.au ?_; conv => whnf) | (refine ⟨_, rfl, ?_⟩; conv => whnf)))
    refine ⟨k + 1, ⟨hkl, hnx hpq⟩, by show l.length - (k + 1) < l.length - k; omega, Weak.auto ?_⟩
    (repeat' ((conv => whnf); first | exact True.intro | (refine And.intro ?_ ?_)))
    all_goals first | rfl | exact .eq rfl | exact congrArg (SV.int .i64) hwr
  · have c1 : (!(decide (p.1 = q.1) && (decide (p.2 = q.2) && true))) = true := by rw [hpe, decide_eq_false hpq]; rfl
    rw [decide_eq_false (hne hpq)] at h
    (conv => whnf)
    (refine DrawVC.any Γok (by kernel_rfl) (by kernel_rfl) (by kernel_rfl) (by rfl) ?_; conv => whnf)
    (repeat (first | (refine Need.mk hin ?_; conv => whnf) | (refine Need.mk hinm ?_; conv => whnf) | (refine ⟨_, hat, ?_⟩; conv => whnf) | (refine ⟨_, hatm, ?_⟩; conv => whnf) | (refine Both.of_true c1 ?_; conv => whnf) | (exact Out.same; conv => whnf) | (exact Out1.same; conv => whnf) | (refine QAnd.mk ?_ ?_; conv => whnf) | (apply QStepH.go; conv => whnf) | (refine Both.lit_true ?_; conv => whnf) | (refine Both.lit_false ?_; conv => whnf) | (apply QStep.go; conv => whnf) | (refine Need.au ?_; conv => whnf) | (refine ⟨_, rfl, ?_⟩; conv => whnf)))
    exact ⟨_, _, WeakV.drop rfl, h⟩
theorem pairs8_k : Contract Tryd.prog [] 15 pairs8S := ⟨⟨⟨_, rfl, rfl, rfl⟩⟩, pairs8_c⟩
def lawChS : Spec := fun args H Q => match args, H with
  | [.sl 2 n cs f, .int .i64 at_, .str v, .int .u8 how], [] => ∃ l : List Pr, n = l.length ∧ cs = flP l ∧ Q (.bool true) []
  | _, _ => False
theorem changes_law {y0 : CV} {cs0 : List CV} (hK : KAt y0 cs0) : Meets Tryd.prog [(0, y0 :: cs0)] 4 lawChS := by
  refine meets_of Γok Tryd.func4 rfl ?_
  intro args H Q h
  unfold lawChS at h
  split at h
  case h_2 => exact h.elim
  rename_i n cs f at_ v how
  obtain ⟨l, rfl, rfl, h⟩ := h
  (refine sx_sound Γok _ ?_; conv => whnf)
  (repeat (first | (exact Out.same; conv => whnf) | (exact Out1.same; conv => whnf) | (refine QAnd.mk ?_ ?_; conv => whnf) | (apply QStepH.go; conv => whnf) | (refine Both.lit_true ?_; conv => whnf) | (refine Both.lit_false ?_; conv => whnf) | (apply QStep.go; conv => whnf) | (refine Need.au ?_; conv => whnf) | (refine ⟨_, rfl, ?_⟩; conv => whnf) | (refine CallVC.auto (awake8_k hK) ?_; conv => whnf)))
  refine CallVC.auto (few8_k.gl (G := [(0, y0 :: cs0)])) ⟨l, rfl, rfl, ?_⟩
  intro r hr
  (conv => whnf)
  cases r with
  | false =>
    (repeat (first | (exact Out.same; conv => whnf) | (exact Out1.same; conv => whnf) | (refine QAnd.mk ?_ ?_; conv => whnf) | (apply QStepH.go; conv => whnf) | (refine Both.lit_true ?_; conv => whnf) | (refine Both.lit_false ?_; conv => whnf) | (apply QStep.go; conv => whnf) | (refine Need.au ?_; conv => whnf) | (refine ⟨_, rfl, ?_⟩; conv => whnf)))
    exact ⟨_, _, WeakV.drop rfl, h⟩
  | true =>
  obtain ⟨h40, hsm⟩ := hr rfl
  clear hr
  have hok : ∀ p ∈ l, okP p := fun p hp => by
    have := hsm p hp
    exact ⟨by omega, by omega⟩
  have hlm : l.length ≤ 9223372036854775807 := by omega
  have hl6 : l.length < 60000 := by omega
  have hcl := chk_short (l := l)
  (repeat (first | (exact Out.same; conv => whnf) | (exact Out1.same; conv => whnf) | (refine QAnd.mk ?_ ?_; conv => whnf) | (apply QStepH.go; conv => whnf) | (refine Both.lit_true ?_; conv => whnf) | (refine Both.lit_false ?_; conv => whnf) | (apply QStep.go; conv => whnf) | (refine Need.au ?_; conv => whnf) | (refine ⟨_, rfl, ?_⟩; conv => whnf)))
  refine CallVC.auto (rchk_k.gl (G := [(0, y0 :: cs0)])) ⟨l, rfl, rfl, hlm, ?_⟩
  generalize chkV l = ck at hcl ⊢
  (conv => whnf)
  (repeat (first | (exact Out.same; conv => whnf) | (exact Out1.same; conv => whnf) | (refine QAnd.mk ?_ ?_; conv => whnf) | (apply QStepH.go; conv => whnf) | (refine Both.lit_true ?_; conv => whnf) | (refine Both.lit_false ?_; conv => whnf) | (apply QStep.go; conv => whnf) | (refine Need.au ?_; conv => whnf) | (refine ⟨_, rfl, ?_⟩; conv => whnf)))
  refine Both.dec_not (fun hbad => ?_) (fun hgood => ?_)
  · (conv => whnf)
    (repeat (first | (exact Out.same; conv => whnf) | (exact Out1.same; conv => whnf) | (refine QAnd.mk ?_ ?_; conv => whnf) | (apply QStepH.go; conv => whnf) | (refine Both.lit_true ?_; conv => whnf) | (refine Both.lit_false ?_; conv => whnf) | (apply QStep.go; conv => whnf) | (refine Need.au ?_; conv => whnf) | (refine ⟨_, rfl, ?_⟩; conv => whnf) | (refine Both.of_false ?_ ?_; (focus (first | rfl | (simp <;> fail))); conv => whnf) | (refine Both.of_true ?_ ?_; (focus (first | rfl | (simp <;> fail))); conv => whnf)))
    exact ⟨_, _, WeakV.drop rfl, h⟩
  (conv => whnf)
  (repeat (first | (exact Out.same; conv => whnf) | (exact Out1.same; conv => whnf) | (refine QAnd.mk ?_ ?_; conv => whnf) | (apply QStepH.go; conv => whnf) | (refine Both.lit_true ?_; conv => whnf) | (refine Both.lit_false ?_; conv => whnf) | (apply QStep.go; conv => whnf) | (refine Need.au ?_; conv => whnf) | (refine ⟨_, rfl, ?_⟩; conv => whnf)))
  refine Both.dec (fun h1 => ?_) (fun h1 => ?_)
  · (conv => whnf)
    (repeat (first | (exact Out.same; conv => whnf) | (exact Out1.same; conv => whnf) | (refine QAnd.mk ?_ ?_; conv => whnf) | (apply QStepH.go; conv => whnf) | (refine Both.lit_true ?_; conv => whnf) | (refine Both.lit_false ?_; conv => whnf) | (apply QStep.go; conv => whnf) | (refine Need.au ?_; conv => whnf) | (refine ⟨_, rfl, ?_⟩; conv => whnf) | (refine Both.of_false ?_ ?_; (focus (first | rfl | (simp <;> fail))); conv => whnf) | (refine Both.of_true ?_ ?_; (focus (first | rfl | (simp <;> fail))); conv => whnf)))
    exact ⟨_, _, WeakV.drop rfl, h⟩
  (conv => whnf)
  (repeat (first | (exact Out.same; conv => whnf) | (exact Out1.same; conv => whnf) | (refine QAnd.mk ?_ ?_; conv => whnf) | (apply QStepH.go; conv => whnf) | (refine Both.lit_true ?_; conv => whnf) | (refine Both.lit_false ?_; conv => whnf) | (apply QStep.go; conv => whnf) | (refine Need.au ?_; conv => whnf) | (refine ⟨_, rfl, ?_⟩; conv => whnf)))
  refine Both.dec (fun h2 => ?_) (fun h2 => ?_)
  · (conv => whnf)
    (repeat (first | (exact Out.same; conv => whnf) | (exact Out1.same; conv => whnf) | (refine QAnd.mk ?_ ?_; conv => whnf) | (apply QStepH.go; conv => whnf) | (refine Both.lit_true ?_; conv => whnf) | (refine Both.lit_false ?_; conv => whnf) | (apply QStep.go; conv => whnf) | (refine Need.au ?_; conv => whnf) | (refine ⟨_, rfl, ?_⟩; conv => whnf) | (refine Both.of_false ?_ ?_; (focus (first | rfl | (simp <;> fail))); conv => whnf) | (refine Both.of_true ?_ ?_; (focus (first | rfl | (simp <;> fail))); conv => whnf)))
    exact ⟨_, _, WeakV.drop rfl, h⟩
  (conv => whnf)
  (repeat (first | (exact Out.same; conv => whnf) | (exact Out1.same; conv => whnf) | (refine QAnd.mk ?_ ?_; conv => whnf) | (apply QStepH.go; conv => whnf) | (refine Both.lit_true ?_; conv => whnf) | (refine Both.lit_false ?_; conv => whnf) | (apply QStep.go; conv => whnf) | (refine Need.au ?_; conv => whnf) | (refine ⟨_, rfl, ?_⟩; conv => whnf)))
  refine Both.dec (fun h3 => ?_) (fun h3 => ?_)
  · (conv => whnf)
    (repeat (first | (exact Out.same; conv => whnf) | (exact Out1.same; conv => whnf) | (refine QAnd.mk ?_ ?_; conv => whnf) | (apply QStepH.go; conv => whnf) | (refine Both.lit_true ?_; conv => whnf) | (refine Both.lit_false ?_; conv => whnf) | (apply QStep.go; conv => whnf) | (refine Need.au ?_; conv => whnf) | (refine ⟨_, rfl, ?_⟩; conv => whnf) | (refine Both.of_false ?_ ?_; (focus (first | rfl | (simp <;> fail))); conv => whnf) | (refine Both.of_true ?_ ?_; (focus (first | rfl | (simp <;> fail))); conv => whnf)))
    exact ⟨_, _, WeakV.drop rfl, h⟩
  obtain ⟨k, rfl⟩ := Int.eq_ofNat_of_zero_le (show 0 ≤ at_ by omega)
  have hkl : k < l.length := by omega
  have hv64 : v.length ≤ 64 := by omega
  have hs16 := hcl hgood
  have hs1 : ∀ p ∈ l, short p := fun p hp => by
    have := hs16.2 p hp
    exact ⟨by omega, by omega⟩
  have hinj : ∀ m : List Pr, (∀ p ∈ m, short p) → m.length ≤ 41 → bcl (rootT m (rootT l [])) = false → shaD (rootX l) = shaD (rootX m) → l = m := fun m hs2 hm h1 h2 => root_inj hs1 hs2 (by omega) (by omega) h1 h2
  have hkey : (l.getD k ([], [])).1.length ≤ 16 := by
    rw [List.getD_eq_getElem?_getD, List.getElem?_eq_getElem hkl]
    exact (hs16.2 _ (List.getElem_mem hkl)).1
  have hnb : (0 + l.length) * ti27.bytes ≤ 140737488355328 := by
    show (0 + l.length) * 32 ≤ 140737488355328
    omega
  have hw1 : IntKind.i64.wrap ((k : Int) + 1) = ((k + 1 : Nat) : Int) := by rw [wrap_i64 (by omega) (by omega)]; rfl
  clear hcl hsm
  (conv => whnf)
  (repeat (first | (refine Need.mk hnb ?_; conv => whnf) | (exact Out.same; conv => whnf) | (exact Out1.same; conv => whnf) | (refine QAnd.mk ?_ ?_; conv => whnf) | (apply QStepH.go; conv => whnf) | (refine Both.lit_true ?_; conv => whnf) | (refine Both.lit_false ?_; conv => whnf) | (apply QStep.go; conv => whnf) | (refine Need.au ?_; conv => whnf) | (refine ⟨_, rfl, ?_⟩; conv => whnf)))
  refine Both.dec (fun hh0 => ?_) (fun hh0 => ?_)
  · have hst : ti9.size = 1 ∧ ((k : Int)).toNat * 2 + 1 < ([] ++ flP l).length := ⟨rfl, by rw [Int.toNat_natCast, List.nil_append, flP_len]; omega⟩
    have hix : ti27.size = 2 ∧ (0 : Int) ≤ (k : Int) ∧ (k : Int) < ((0 + l.length : Nat) : Int) := ⟨rfl, by omega, by omega⟩
    have hmm : (l.set k ((l.getD k ([], [])).1, v)).length ≤ 41 := by rw [List.length_set]; omega
    have hm6 : (l.set k ((l.getD k ([], [])).1, v)).length < 60000 := by omega
    have hs2 : ∀ p ∈ (l.set k ((l.getD k ([], [])).1, v)), short p := by 
      intro p hp
      rcases List.mem_or_eq_of_mem_set hp with q | q
      · exact hs1 p q
      · rw [q]
        exact ⟨by show (l.getD k ([], [])).1.length < 256; omega, by show v.length < 256; omega⟩
    have hokm : ∀ p ∈ (l.set k ((l.getD k ([], [])).1, v)), okP p := fun p hp => by
      have := hs2 p hp
      unfold short at this
      exact ⟨by omega, by omega⟩
    have hinj := hinj (l.set k ((l.getD k ([], [])).1, v)) hs2 hmm
    obtain ⟨m, hmdef⟩ : ∃ m, (l.set k ((l.getD k ([], [])).1, v)) = m := ⟨_, rfl⟩
    have hn : 0 + l.length = m.length := by rw [← hmdef]; rw [List.length_set]; omega
    have hcs : ((flP l).set (k * 2 + 1) (.str v)) = flP m := by rw [← hmdef]; exact flP_set v l k hkl
    rw [hmdef] at hmm hm6 hs2 hokm hinj
    clear hmdef
    have hsame : l = m → shaD (rootX l) = shaD (rootX m) := fun e => by rw [e]
    (conv => whnf)
    (repeat (first | (refine Need.mk hix ?_; conv => whnf) | (refine Need.mk hst ?_; conv => whnf) | (exact Out.same; conv => whnf) | (exact Out1.same; conv => whnf) | (refine QAnd.mk ?_ ?_; conv => whnf) | (apply QStepH.go; conv => whnf) | (refine Both.lit_true ?_; conv => whnf) | (refine Both.lit_false ?_; conv => whnf) | (apply QStep.go; conv => whnf) | (refine Need.au ?_; conv => whnf) | (refine ⟨_, rfl, ?_⟩; conv => whnf)))
    (repeat (first | (exact Out.same; conv => whnf) | (exact Out1.same; conv => whnf) | (refine QAnd.mk ?_ ?_; conv => whnf) | (apply QStepH.go; conv => whnf) | (refine Both.lit_true ?_; conv => whnf) | (refine Both.lit_false ?_; conv => whnf) | (apply QStep.go; conv => whnf) | (refine Need.au ?_; conv => whnf) | (refine ⟨_, rfl, ?_⟩; conv => whnf)))
    refine CallVC.auto (mroot_k hK) ⟨l, rfl, rfl, hl6, hok, ?_⟩
    (conv => whnf)
    (repeat (first | (exact Out.same; conv => whnf) | (exact Out1.same; conv => whnf) | (refine QAnd.mk ?_ ?_; conv => whnf) | (apply QStepH.go; conv => whnf) | (refine Both.lit_true ?_; conv => whnf) | (refine Both.lit_false ?_; conv => whnf) | (apply QStep.go; conv => whnf) | (refine Need.au ?_; conv => whnf) | (refine ⟨_, rfl, ?_⟩; conv => whnf)))
    refine CallVC.autoW _ (Weak.pubT 1 rfl) (mroot_k hK) ⟨m, hn, hcs, hm6, hokm, ?_⟩
    (conv => whnf)
    (repeat (first | (exact Out.same; conv => whnf) | (exact Out1.same; conv => whnf) | (refine QAnd.mk ?_ ?_; conv => whnf) | (apply QStepH.go; conv => whnf) | (refine Both.lit_true ?_; conv => whnf) | (refine Both.lit_false ?_; conv => whnf) | (apply QStep.go; conv => whnf) | (refine Need.au ?_; conv => whnf) | (refine ⟨_, rfl, ?_⟩; conv => whnf)))
    refine CallVC.auto (pairs8_k.gl (G := [(0, y0 :: cs0)])) ⟨l, m, rfl, rfl, hn, hcs, by omega, by omega, ?_⟩
    (conv => whnf)
    (repeat (first | (exact Out.same; conv => whnf) | (exact Out1.same; conv => whnf) | (refine QAnd.mk ?_ ?_; conv => whnf) | (apply QStepH.go; conv => whnf) | (refine Both.lit_true ?_; conv => whnf) | (refine Both.lit_false ?_; conv => whnf) | (apply QStep.go; conv => whnf) | (refine Need.au ?_; conv => whnf) | (refine ⟨_, rfl, ?_⟩; conv => whnf)))
    by_cases hlm2 : l = m
    · have c5 : decide (decide (shaD (rootX l) = shaD (rootX m)) = decide (l = m)) = true := by rw [decide_eq_true hlm2, decide_eq_true (hsame hlm2)]; rfl
      refine Both.of_true c5 ?_
      (conv => whnf)
      (repeat (first | (exact Out.same; conv => whnf) | (exact Out1.same; conv => whnf) | (refine QAnd.mk ?_ ?_; conv => whnf) | (apply QStepH.go; conv => whnf) | (refine Both.lit_true ?_; conv => whnf) | (refine Both.lit_false ?_; conv => whnf) | (apply QStep.go; conv => whnf) | (refine Need.au ?_; conv => whnf) | (refine ⟨_, rfl, ?_⟩; conv => whnf)))
      exact ⟨_, _, WeakV.drop rfl, h⟩
    by_cases hrt : shaD (rootX l) = shaD (rootX m)
    case neg =>
      have c5 : decide (decide (shaD (rootX l) = shaD (rootX m)) = decide (l = m)) = true := by rw [decide_eq_false hlm2, decide_eq_false hrt]; rfl
      refine Both.of_true c5 ?_
      (conv => whnf)
      (repeat (first | (exact Out.same; conv => whnf) | (exact Out1.same; conv => whnf) | (refine QAnd.mk ?_ ?_; conv => whnf) | (apply QStepH.go; conv => whnf) | (refine Both.lit_true ?_; conv => whnf) | (refine Both.lit_false ?_; conv => whnf) | (apply QStep.go; conv => whnf) | (refine Need.au ?_; conv => whnf) | (refine ⟨_, rfl, ?_⟩; conv => whnf)))
      exact ⟨_, _, WeakV.drop rfl, h⟩
    have c5 : decide (decide (shaD (rootX l) = shaD (rootX m)) = decide (l = m)) = false := by rw [decide_eq_false hlm2, decide_eq_true hrt]; rfl
    have hcl : bcl (rootT m (rootT l [])) = true := by
      cases hb : bcl (rootT m (rootT l [])) with
      | true => rfl
      | false => exact absurd (hinj hb hrt) hlm2
    clear hinj hsame
    refine Both.of_false c5 ?_
    (conv => whnf)
    (repeat (first | (exact Out.same; conv => whnf) | (exact Out1.same; conv => whnf) | (refine QAnd.mk ?_ ?_; conv => whnf) | (apply QStepH.go; conv => whnf) | (refine Both.lit_true ?_; conv => whnf) | (refine Both.lit_false ?_; conv => whnf) | (apply QStep.go; conv => whnf) | (refine Need.au ?_; conv => whnf) | (refine ⟨_, rfl, ?_⟩; conv => whnf) | (refine CallVC.auto (newb_k.gl (G := [(0, y0 :: cs0)])) ?_; conv => whnf)))
    refine CallVC.auto (rroot_k.gl (G := [(0, y0 :: cs0)])) (inB_mk (T := []) ⟨l, rfl, rfl, hl6, hok, ?_⟩)
    (conv => whnf)
    (repeat (first | (exact Out.same; conv => whnf) | (exact Out1.same; conv => whnf) | (refine QAnd.mk ?_ ?_; conv => whnf) | (apply QStepH.go; conv => whnf) | (refine Both.lit_true ?_; conv => whnf) | (refine Both.lit_false ?_; conv => whnf) | (apply QStep.go; conv => whnf) | (refine Need.au ?_; conv => whnf) | (refine ⟨_, rfl, ?_⟩; conv => whnf)))
    refine CallVC.auto (rroot_k.gl (G := [(0, y0 :: cs0)])) (inB_mk ⟨m, hn, hcs, hm6, hokm, ?_⟩)
    generalize hT : rootT m (rootT l []) = T at hcl ⊢
    (conv => whnf)
    (repeat (first | (exact Out.same; conv => whnf) | (exact Out1.same; conv => whnf) | (refine QAnd.mk ?_ ?_; conv => whnf) | (apply QStepH.go; conv => whnf) | (refine Both.lit_true ?_; conv => whnf) | (refine Both.lit_false ?_; conv => whnf) | (apply QStep.go; conv => whnf) | (refine Need.au ?_; conv => whnf) | (refine ⟨_, rfl, ?_⟩; conv => whnf)))
    exact ⟨_, _, WeakV.drop (congrArg SV.bool hcl), h⟩
  (conv => whnf)
  (repeat (first | (exact Out.same; conv => whnf) | (exact Out1.same; conv => whnf) | (refine QAnd.mk ?_ ?_; conv => whnf) | (apply QStepH.go; conv => whnf) | (refine Both.lit_true ?_; conv => whnf) | (refine Both.lit_false ?_; conv => whnf) | (apply QStep.go; conv => whnf) | (refine Need.au ?_; conv => whnf) | (refine ⟨_, rfl, ?_⟩; conv => whnf)))
  refine Both.dec (fun hh1 => ?_) (fun hh1 => ?_)
  · have e1 : (((k : Int)).toNat - ((0 : Int)).toNat) = k := by omega
    have e2 : (IntKind.i64.wrap ((k : Int) + 1)).toNat = k + 1 := by rw [hw1]; omega
    have e3 : ((((0 + l.length : Nat) : Int)).toNat - (IntKind.i64.wrap ((k : Int) + 1)).toNat) = l.length - (k + 1) := by rw [e2]; omega
    have hnc : ti27.size = 2 ∧ (0 : Int) ≤ 0 ∧ (0 : Int) ≤ (k : Int) ∧ (k : Int) ≤ ((0 + l.length : Nat) : Int) := ⟨rfl, by omega, by omega, by omega⟩
    have hnc2 : ti27.size = 2 ∧ (0 : Int) ≤ IntKind.i64.wrap ((k : Int) + 1) ∧ IntKind.i64.wrap ((k : Int) + 1) ≤ ((0 + l.length : Nat) : Int) ∧ ((0 + l.length : Nat) : Int) ≤ ((0 + l.length : Nat) : Int) := ⟨rfl, by rw [hw1]; omega, by rw [hw1]; omega, by omega⟩
    have hsr : ti27.size = 2 ∧ ti27.size = 2 ∧ (IntKind.i64.wrap ((k : Int) + 1)).toNat + ((((0 + l.length : Nat) : Int)).toNat - (IntKind.i64.wrap ((k : Int) + 1)).toNat) ≤ 0 + l.length := ⟨rfl, rfl, by rw [e3, e2]; omega⟩
    have hap : (((k : Int)).toNat - ((0 : Int)).toNat) ≤ 0 + l.length ∧ ((((k : Int)).toNat - ((0 : Int)).toNat) + ((((0 + l.length : Nat) : Int)).toNat - (IntKind.i64.wrap ((k : Int) + 1)).toNat)) * ti27.bytes ≤ 140737488355328 := ⟨by rw [e1]; omega, by
      rw [e1, e3]
      show (k + (l.length - (k + 1))) * 32 ≤ 140737488355328
      omega⟩
    have hmm : (l.take k ++ l.drop (k + 1)).length ≤ 41 := by rw [List.length_append, List.length_take, List.length_drop]; omega
    have hm6 : (l.take k ++ l.drop (k + 1)).length < 60000 := by omega
    have hs2 : ∀ p ∈ (l.take k ++ l.drop (k + 1)), short p := by 
      intro p hp
      rcases List.mem_append.1 hp with q | q
      · exact hs1 p (List.mem_of_mem_take q)
      · exact hs1 p (List.mem_of_mem_drop q)
    have hokm : ∀ p ∈ (l.take k ++ l.drop (k + 1)), okP p := fun p hp => by
      have := hs2 p hp
      unfold short at this
      exact ⟨by omega, by omega⟩
    have hinj := hinj (l.take k ++ l.drop (k + 1)) hs2 hmm
    obtain ⟨m, hmdef⟩ : ∃ m, (l.take k ++ l.drop (k + 1)) = m := ⟨_, rfl⟩
    have hn : (((k : Int)).toNat - ((0 : Int)).toNat) + ((((0 + l.length : Nat) : Int)).toNat - (IntKind.i64.wrap ((k : Int) + 1)).toNat) = m.length := by rw [← hmdef]; rw [e1, e3, List.length_append, List.length_take, List.length_drop]; omega
    have hcs : (flP l).take ((((k : Int)).toNat - ((0 : Int)).toNat) * 2) ++ ((flP l).drop ((IntKind.i64.wrap ((k : Int) + 1)).toNat * 2)).take (((((0 + l.length : Nat) : Int)).toNat - (IntKind.i64.wrap ((k : Int) + 1)).toNat) * 2) = flP m := by rw [← hmdef]; rw [e1, e3, e2]; exact flP_cut l hkl
    rw [hmdef] at hmm hm6 hs2 hokm hinj
    clear hmdef
    have hsame : l = m → shaD (rootX l) = shaD (rootX m) := fun e => by rw [e]
    (conv => whnf)
    (repeat (first | (exact Out.same; conv => whnf) | (exact Out1.same; conv => whnf) | (refine QAnd.mk ?_ ?_; conv => whnf) | (apply QStepH.go; conv => whnf) | (refine Both.lit_true ?_; conv => whnf) | (refine Both.lit_false ?_; conv => whnf) | (apply QStep.go; conv => whnf) | (refine Need.au ?_; conv => whnf) | (refine ⟨_, rfl, ?_⟩; conv => whnf)))
    (refine DrawVC.any Γok (by kernel_rfl) (by kernel_rfl) (by kernel_rfl) (by rfl) ?_; conv => whnf)
    (repeat (first | (refine Need.mk hnc ?_; conv => whnf) | (refine Need.mk hnc2 ?_; conv => whnf) | (refine Need.mk hsr ?_; conv => whnf) | (refine Need.mk hap ?_; conv => whnf) | (exact Out.same; conv => whnf) | (exact Out1.same; conv => whnf) | (refine QAnd.mk ?_ ?_; conv => whnf) | (apply QStepH.go; conv => whnf) | (refine Both.lit_true ?_; conv => whnf) | (refine Both.lit_false ?_; conv => whnf) | (apply QStep.go; conv => whnf) | (refine Need.au ?_; conv => whnf) | (refine ⟨_, rfl, ?_⟩; conv => whnf)))
    (repeat (first | (exact Out.same; conv => whnf) | (exact Out1.same; conv => whnf) | (refine QAnd.mk ?_ ?_; conv => whnf) | (apply QStepH.go; conv => whnf) | (refine Both.lit_true ?_; conv => whnf) | (refine Both.lit_false ?_; conv => whnf) | (apply QStep.go; conv => whnf) | (refine Need.au ?_; conv => whnf) | (refine ⟨_, rfl, ?_⟩; conv => whnf)))
    refine CallVC.auto (mroot_k hK) ⟨l, rfl, rfl, hl6, hok, ?_⟩
    (conv => whnf)
    (repeat (first | (exact Out.same; conv => whnf) | (exact Out1.same; conv => whnf) | (refine QAnd.mk ?_ ?_; conv => whnf) | (apply QStepH.go; conv => whnf) | (refine Both.lit_true ?_; conv => whnf) | (refine Both.lit_false ?_; conv => whnf) | (apply QStep.go; conv => whnf) | (refine Need.au ?_; conv => whnf) | (refine ⟨_, rfl, ?_⟩; conv => whnf)))
    refine CallVC.autoW _ (Weak.pubT 3 rfl) (mroot_k hK) ⟨m, hn, hcs, hm6, hokm, ?_⟩
    (conv => whnf)
    (repeat (first | (exact Out.same; conv => whnf) | (exact Out1.same; conv => whnf) | (refine QAnd.mk ?_ ?_; conv => whnf) | (apply QStepH.go; conv => whnf) | (refine Both.lit_true ?_; conv => whnf) | (refine Both.lit_false ?_; conv => whnf) | (apply QStep.go; conv => whnf) | (refine Need.au ?_; conv => whnf) | (refine ⟨_, rfl, ?_⟩; conv => whnf)))
    refine CallVC.auto (pairs8_k.gl (G := [(0, y0 :: cs0)])) ⟨l, m, rfl, rfl, hn, hcs, by omega, by omega, ?_⟩
    (conv => whnf)
    (repeat (first | (exact Out.same; conv => whnf) | (exact Out1.same; conv => whnf) | (refine QAnd.mk ?_ ?_; conv => whnf) | (apply QStepH.go; conv => whnf) | (refine Both.lit_true ?_; conv => whnf) | (refine Both.lit_false ?_; conv => whnf) | (apply QStep.go; conv => whnf) | (refine Need.au ?_; conv => whnf) | (refine ⟨_, rfl, ?_⟩; conv => whnf)))
    by_cases hlm2 : l = m
    · have c5 : decide (decide (shaD (rootX l) = shaD (rootX m)) = decide (l = m)) = true := by rw [decide_eq_true hlm2, decide_eq_true (hsame hlm2)]; rfl
      refine Both.of_true c5 ?_
      (conv => whnf)
      (repeat (first | (exact Out.same; conv => whnf) | (exact Out1.same; conv => whnf) | (refine QAnd.mk ?_ ?_; conv => whnf) | (apply QStepH.go; conv => whnf) | (refine Both.lit_true ?_; conv => whnf) | (refine Both.lit_false ?_; conv => whnf) | (apply QStep.go; conv => whnf) | (refine Need.au ?_; conv => whnf) | (refine ⟨_, rfl, ?_⟩; conv => whnf)))
      exact ⟨_, _, WeakV.drop rfl, h⟩
    by_cases hrt : shaD (rootX l) = shaD (rootX m)
    case neg =>
      have c5 : decide (decide (shaD (rootX l) = shaD (rootX m)) = decide (l = m)) = true := by rw [decide_eq_false hlm2, decide_eq_false hrt]; rfl
      refine Both.of_true c5 ?_
      (conv => whnf)
      (repeat (first | (exact Out.same; conv => whnf) | (exact Out1.same; conv => whnf) | (refine QAnd.mk ?_ ?_; conv => whnf) | (apply QStepH.go; conv => whnf) | (refine Both.lit_true ?_; conv => whnf) | (refine Both.lit_false ?_; conv => whnf) | (apply QStep.go; conv => whnf) | (refine Need.au ?_; conv => whnf) | (refine ⟨_, rfl, ?_⟩; conv => whnf)))
      exact ⟨_, _, WeakV.drop rfl, h⟩
    have c5 : decide (decide (shaD (rootX l) = shaD (rootX m)) = decide (l = m)) = false := by rw [decide_eq_false hlm2, decide_eq_true hrt]; rfl
    have hcl : bcl (rootT m (rootT l [])) = true := by
      cases hb : bcl (rootT m (rootT l [])) with
      | true => rfl
      | false => exact absurd (hinj hb hrt) hlm2
    clear hinj hsame
    refine Both.of_false c5 ?_
    (conv => whnf)
    (repeat (first | (exact Out.same; conv => whnf) | (exact Out1.same; conv => whnf) | (refine QAnd.mk ?_ ?_; conv => whnf) | (apply QStepH.go; conv => whnf) | (refine Both.lit_true ?_; conv => whnf) | (refine Both.lit_false ?_; conv => whnf) | (apply QStep.go; conv => whnf) | (refine Need.au ?_; conv => whnf) | (refine ⟨_, rfl, ?_⟩; conv => whnf) | (refine CallVC.auto (newb_k.gl (G := [(0, y0 :: cs0)])) ?_; conv => whnf)))
    refine CallVC.auto (rroot_k.gl (G := [(0, y0 :: cs0)])) (inB_mk (T := []) ⟨l, rfl, rfl, hl6, hok, ?_⟩)
    (conv => whnf)
    (repeat (first | (exact Out.same; conv => whnf) | (exact Out1.same; conv => whnf) | (refine QAnd.mk ?_ ?_; conv => whnf) | (apply QStepH.go; conv => whnf) | (refine Both.lit_true ?_; conv => whnf) | (refine Both.lit_false ?_; conv => whnf) | (apply QStep.go; conv => whnf) | (refine Need.au ?_; conv => whnf) | (refine ⟨_, rfl, ?_⟩; conv => whnf)))
    refine CallVC.auto (rroot_k.gl (G := [(0, y0 :: cs0)])) (inB_mk ⟨m, hn, hcs, hm6, hokm, ?_⟩)
    generalize hT : rootT m (rootT l []) = T at hcl ⊢
    (conv => whnf)
    (repeat (first | (exact Out.same; conv => whnf) | (exact Out1.same; conv => whnf) | (refine QAnd.mk ?_ ?_; conv => whnf) | (apply QStepH.go; conv => whnf) | (refine Both.lit_true ?_; conv => whnf) | (refine Both.lit_false ?_; conv => whnf) | (apply QStep.go; conv => whnf) | (refine Need.au ?_; conv => whnf) | (refine ⟨_, rfl, ?_⟩; conv => whnf)))
    exact ⟨_, _, WeakV.drop (congrArg SV.bool hcl), h⟩
  have hat := flP_at l hkl
  have hin : ti27.size = 2 ∧ (0 : Int) ≤ (k : Int) ∧ (k : Int) < ((l.length : Nat) : Int) := ⟨rfl, by omega, by omega⟩
  obtain ⟨key, hke⟩ : ∃ x, (l.getD k ([], [])).1 = x := ⟨_, rfl⟩
  rw [hke] at hat hkey
  by_cases hk16 : 16 ≤ key.length
  · have c16 : decide ((16 : Int) ≤ ((key.length : Nat) : Int)) = true := decide_eq_true (by omega)
    (conv => whnf)
    (repeat (first | (exact Out.same; conv => whnf) | (exact Out1.same; conv => whnf) | (refine QAnd.mk ?_ ?_; conv => whnf) | (apply QStepH.go; conv => whnf) | (refine Both.lit_true ?_; conv => whnf) | (refine Both.lit_false ?_; conv => whnf) | (apply QStep.go; conv => whnf) | (refine Need.au ?_; conv => whnf) | (refine ⟨_, rfl, ?_⟩; conv => whnf)))
    (refine DrawVC.any Γok (by kernel_rfl) (by kernel_rfl) (by kernel_rfl) (by rfl) ?_; conv => whnf)
    (repeat (first | (refine Need.mk hin ?_; conv => whnf) | (refine ⟨_, hat, ?_⟩; conv => whnf) | (refine Both.of_true c16 ?_; conv => whnf) | (exact Out.same; conv => whnf) | (exact Out1.same; conv => whnf) | (refine QAnd.mk ?_ ?_; conv => whnf) | (apply QStepH.go; conv => whnf) | (refine Both.lit_true ?_; conv => whnf) | (refine Both.lit_false ?_; conv => whnf) | (apply QStep.go; conv => whnf) | (refine Need.au ?_; conv => whnf) | (refine ⟨_, rfl, ?_⟩; conv => whnf)))
    exact ⟨_, _, WeakV.drop rfl, h⟩
  have c16 : decide ((16 : Int) ≤ ((key.length : Nat) : Int)) = false := decide_eq_false (by omega)
  have hcat : key.length + ([0] : List UInt8).length ≤ 9223372036854775807 := by
    show key.length + 1 ≤ 9223372036854775807
    omega
  by_cases hlt1 : k + 1 < l.length
  · have c17 : decide (IntKind.i64.wrap ((k : Int) + 1) < ((l.length : Nat) : Int)) = true := decide_eq_true (by rw [hw1]; omega)
    have hin1 : ti27.size = 2 ∧ (0 : Int) ≤ IntKind.i64.wrap ((k : Int) + 1) ∧ IntKind.i64.wrap ((k : Int) + 1) < ((l.length : Nat) : Int) := ⟨rfl, by rw [hw1]; omega, by rw [hw1]; omega⟩
    have hat1 := flP_at l hlt1
    rw [← hw1] at hat1
    (conv => whnf)
    (repeat (first | (exact Out.same; conv => whnf) | (exact Out1.same; conv => whnf) | (refine QAnd.mk ?_ ?_; conv => whnf) | (apply QStepH.go; conv => whnf) | (refine Both.lit_true ?_; conv => whnf) | (refine Both.lit_false ?_; conv => whnf) | (apply QStep.go; conv => whnf) | (refine Need.au ?_; conv => whnf) | (refine ⟨_, rfl, ?_⟩; conv => whnf)))
    (refine DrawVC.any Γok (by kernel_rfl) (by kernel_rfl) (by kernel_rfl) (by rfl) ?_; conv => whnf)
    (repeat (first | (refine Need.mk hin ?_; conv => whnf) | (refine Need.mk hin1 ?_; conv => whnf) | (refine ⟨_, hat, ?_⟩; conv => whnf) | (refine ⟨_, hat1, ?_⟩; conv => whnf) | (refine Both.of_false c16 ?_; conv => whnf) | (refine Both.of_true c17 ?_; conv => whnf) | (refine Need.mk hcat ?_; conv => whnf) | (exact Out.same; conv => whnf) | (exact Out1.same; conv => whnf) | (refine QAnd.mk ?_ ?_; conv => whnf) | (apply QStepH.go; conv => whnf) | (refine Both.lit_true ?_; conv => whnf) | (refine Both.lit_false ?_; conv => whnf) | (apply QStep.go; conv => whnf) | (refine Need.au ?_; conv => whnf) | (refine ⟨_, rfl, ?_⟩; conv => whnf)))
    refine Both.cases (fun hb => ?_) (fun hb => ?_)
    · (conv => whnf)
      (repeat (first | (exact Out.same; conv => whnf) | (exact Out1.same; conv => whnf) | (refine QAnd.mk ?_ ?_; conv => whnf) | (apply QStepH.go; conv => whnf) | (refine Both.lit_true ?_; conv => whnf) | (refine Both.lit_false ?_; conv => whnf) | (apply QStep.go; conv => whnf) | (refine Need.au ?_; conv => whnf) | (refine ⟨_, rfl, ?_⟩; conv => whnf)))
      exact ⟨_, _, WeakV.drop rfl, h⟩
    have e2 : (IntKind.i64.wrap ((k : Int) + 1)).toNat = k + 1 := by rw [hw1]; omega
    have e1 : ((IntKind.i64.wrap ((k : Int) + 1)).toNat - ((0 : Int)).toNat) = k + 1 := by rw [e2]; omega
    have e3 : ((((l.length : Nat) : Int)).toNat - (IntKind.i64.wrap ((k : Int) + 1)).toNat) = l.length - (k + 1) := by rw [e2]; omega
    have hcA : ti27.size = 2 ∧ (0 : Int) ≤ 0 ∧ (0 : Int) ≤ IntKind.i64.wrap ((k : Int) + 1) ∧ IntKind.i64.wrap ((k : Int) + 1) ≤ ((l.length : Nat) : Int) := ⟨rfl, by omega, by rw [hw1]; omega, by rw [hw1]; omega⟩
    have hcB : ti27.size = 2 ∧ (0 : Int) ≤ IntKind.i64.wrap ((k : Int) + 1) ∧ IntKind.i64.wrap ((k : Int) + 1) ≤ ((l.length : Nat) : Int) ∧ ((l.length : Nat) : Int) ≤ ((l.length : Nat) : Int) := ⟨rfl, by rw [hw1]; omega, by rw [hw1]; omega, by omega⟩
    have hb1 : (0 + ((IntKind.i64.wrap ((k : Int) + 1)).toNat - ((0 : Int)).toNat)) * ti27.bytes ≤ 140737488355328 := by
      rw [e1]
      show (0 + (k + 1)) * 32 ≤ 140737488355328
      omega
    have hb2 : (0 + ((IntKind.i64.wrap ((k : Int) + 1)).toNat - ((0 : Int)).toNat) + 1) * ti27.bytes ≤ 140737488355328 := by
      rw [e1]
      show (0 + (k + 1) + 1) * 32 ≤ 140737488355328
      omega
    have hb3 : (0 + ((IntKind.i64.wrap ((k : Int) + 1)).toNat - ((0 : Int)).toNat) + 1 + ((((l.length : Nat) : Int)).toNat - (IntKind.i64.wrap ((k : Int) + 1)).toNat)) * ti27.bytes ≤ 140737488355328 := by
      rw [e1, e3]
      show (0 + (k + 1) + 1 + (l.length - (k + 1))) * 32 ≤ 140737488355328
      omega
    have hmm : (l.take (k + 1) ++ [(key ++ [0], v)] ++ l.drop (k + 1)).length ≤ 41 := by rw [List.length_append, List.length_append, List.length_take, List.length_drop, List.length_singleton]; omega
    have hm6 : (l.take (k + 1) ++ [(key ++ [0], v)] ++ l.drop (k + 1)).length < 60000 := by omega
    have hs2 : ∀ p ∈ (l.take (k + 1) ++ [(key ++ [0], v)] ++ l.drop (k + 1)), short p := by 
      intro p hp
      rcases List.mem_append.1 hp with q | q
      · rcases List.mem_append.1 q with q | q
        · exact hs1 p (List.mem_of_mem_take q)
        · rw [List.mem_singleton.1 q]
          exact ⟨by show (key ++ [0]).length < 256; rw [List.length_append, List.length_singleton]; omega, by show v.length < 256; omega⟩
      · exact hs1 p (List.mem_of_mem_drop q)
    have hokm : ∀ p ∈ (l.take (k + 1) ++ [(key ++ [0], v)] ++ l.drop (k + 1)), okP p := fun p hp => by
      have := hs2 p hp
      unfold short at this
      exact ⟨by omega, by omega⟩
    have hinj := hinj (l.take (k + 1) ++ [(key ++ [0], v)] ++ l.drop (k + 1)) hs2 hmm
    obtain ⟨m, hmdef⟩ : ∃ m, (l.take (k + 1) ++ [(key ++ [0], v)] ++ l.drop (k + 1)) = m := ⟨_, rfl⟩
    have hn : 0 + ((IntKind.i64.wrap ((k : Int) + 1)).toNat - ((0 : Int)).toNat) + 1 + ((((l.length : Nat) : Int)).toNat - (IntKind.i64.wrap ((k : Int) + 1)).toNat) = m.length := by rw [← hmdef]; rw [e1, e3, List.length_append, List.length_append, List.length_take, List.length_drop, List.length_singleton]; omega
    have hcs : ([] ++ ((flP l).take ((IntKind.i64.wrap ((k : Int) + 1)).toNat * 2)).drop (((0 : Int)).toNat * 2)) ++ [CV.str (key ++ [0]), CV.str v] ++ ((flP l).take ((((l.length : Nat) : Int)).toNat * 2)).drop ((IntKind.i64.wrap ((k : Int) + 1)).toNat * 2) = flP m := by rw [← hmdef]; rw [e2]; exact flP_ins l hkl (key ++ [0], v)
    rw [hmdef] at hmm hm6 hs2 hokm hinj
    clear hmdef
    have hsame : l = m → shaD (rootX l) = shaD (rootX m) := fun e => by rw [e]
    (conv => whnf)
    (repeat (first | (exact Out.same; conv => whnf) | (exact Out1.same; conv => whnf) | (refine QAnd.mk ?_ ?_; conv => whnf) | (apply QStepH.go; conv => whnf) | (refine Both.lit_true ?_; conv => whnf) | (refine Both.lit_false ?_; conv => whnf) | (apply QStep.go; conv => whnf) | (refine Need.au ?_; conv => whnf) | (refine ⟨_, rfl, ?_⟩; conv => whnf)))
    (refine DrawVC.quiet [14] Γok (by kernel_rfl) (by kernel_rfl) (by kernel_rfl) (by rfl) ?_; conv => whnf)
    (repeat (first | (refine Need.mk hin ?_; conv => whnf) | (refine ⟨_, hat, ?_⟩; conv => whnf) | (refine Need.mk hcat ?_; conv => whnf) | (refine Need.mk hcA ?_; conv => whnf) | (refine Need.mk hcB ?_; conv => whnf) | (refine Need.mk hb1 ?_; conv => whnf) | (refine Need.mk hb2 ?_; conv => whnf) | (refine Need.mk hb3 ?_; conv => whnf) | (exact Out.same; conv => whnf) | (exact Out1.same; conv => whnf) | (refine QAnd.mk ?_ ?_; conv => whnf) | (apply QStepH.go; conv => whnf) | (refine Both.lit_true ?_; conv => whnf) | (refine Both.lit_false ?_; conv => whnf) | (apply QStep.go; conv => whnf) | (refine Need.au ?_; conv => whnf) | (refine ⟨_, rfl, ?_⟩; conv => whnf)))
    (repeat (first | (exact Out.same; conv => whnf) | (exact Out1.same; conv => whnf) | (refine QAnd.mk ?_ ?_; conv => whnf) | (apply QStepH.go; conv => whnf) | (refine Both.lit_true ?_; conv => whnf) | (refine Both.lit_false ?_; conv => whnf) | (apply QStep.go; conv => whnf) | (refine Need.au ?_; conv => whnf) | (refine ⟨_, rfl, ?_⟩; conv => whnf)))
    refine CallVC.auto (mroot_k hK) ⟨l, rfl, rfl, hl6, hok, ?_⟩
    (conv => whnf)
    (repeat (first | (exact Out.same; conv => whnf) | (exact Out1.same; conv => whnf) | (refine QAnd.mk ?_ ?_; conv => whnf) | (apply QStepH.go; conv => whnf) | (refine Both.lit_true ?_; conv => whnf) | (refine Both.lit_false ?_; conv => whnf) | (apply QStep.go; conv => whnf) | (refine Need.au ?_; conv => whnf) | (refine ⟨_, rfl, ?_⟩; conv => whnf)))
    refine CallVC.autoW _ (Weak.pubT 5 rfl) (mroot_k hK) ⟨m, hn, hcs, hm6, hokm, ?_⟩
    (conv => whnf)
    (repeat (first | (exact Out.same; conv => whnf) | (exact Out1.same; conv => whnf) | (refine QAnd.mk ?_ ?_; conv => whnf) | (apply QStepH.go; conv => whnf) | (refine Both.lit_true ?_; conv => whnf) | (refine Both.lit_false ?_; conv => whnf) | (apply QStep.go; conv => whnf) | (refine Need.au ?_; conv => whnf) | (refine ⟨_, rfl, ?_⟩; conv => whnf)))
    refine CallVC.auto (pairs8_k.gl (G := [(0, y0 :: cs0)])) ⟨l, m, rfl, rfl, hn, hcs, by omega, by omega, ?_⟩
    (conv => whnf)
    (repeat (first | (exact Out.same; conv => whnf) | (exact Out1.same; conv => whnf) | (refine QAnd.mk ?_ ?_; conv => whnf) | (apply QStepH.go; conv => whnf) | (refine Both.lit_true ?_; conv => whnf) | (refine Both.lit_false ?_; conv => whnf) | (apply QStep.go; conv => whnf) | (refine Need.au ?_; conv => whnf) | (refine ⟨_, rfl, ?_⟩; conv => whnf)))
    by_cases hlm2 : l = m
    · have c5 : decide (decide (shaD (rootX l) = shaD (rootX m)) = decide (l = m)) = true := by rw [decide_eq_true hlm2, decide_eq_true (hsame hlm2)]; rfl
      refine Both.of_true c5 ?_
      (conv => whnf)
      (repeat (first | (exact Out.same; conv => whnf) | (exact Out1.same; conv => whnf) | (refine QAnd.mk ?_ ?_; conv => whnf) | (apply QStepH.go; conv => whnf) | (refine Both.lit_true ?_; conv => whnf) | (refine Both.lit_false ?_; conv => whnf) | (apply QStep.go; conv => whnf) | (refine Need.au ?_; conv => whnf) | (refine ⟨_, rfl, ?_⟩; conv => whnf)))
      exact ⟨_, _, WeakV.drop rfl, h⟩
    by_cases hrt : shaD (rootX l) = shaD (rootX m)
    case neg =>
      have c5 : decide (decide (shaD (rootX l) = shaD (rootX m)) = decide (l = m)) = true := by rw [decide_eq_false hlm2, decide_eq_false hrt]; rfl
      refine Both.of_true c5 ?_
      (conv => whnf)
      (repeat (first | (exact Out.same; conv => whnf) | (exact Out1.same; conv => whnf) | (refine QAnd.mk ?_ ?_; conv => whnf) | (apply QStepH.go; conv => whnf) | (refine Both.lit_true ?_; conv => whnf) | (refine Both.lit_false ?_; conv => whnf) | (apply QStep.go; conv => whnf) | (refine Need.au ?_; conv => whnf) | (refine ⟨_, rfl, ?_⟩; conv => whnf)))
      exact ⟨_, _, WeakV.drop rfl, h⟩
    have c5 : decide (decide (shaD (rootX l) = shaD (rootX m)) = decide (l = m)) = false := by rw [decide_eq_false hlm2, decide_eq_true hrt]; rfl
    have hcl : bcl (rootT m (rootT l [])) = true := by
      cases hb : bcl (rootT m (rootT l [])) with
      | true => rfl
      | false => exact absurd (hinj hb hrt) hlm2
    clear hinj hsame
    refine Both.of_false c5 ?_
    (conv => whnf)
    (repeat (first | (exact Out.same; conv => whnf) | (exact Out1.same; conv => whnf) | (refine QAnd.mk ?_ ?_; conv => whnf) | (apply QStepH.go; conv => whnf) | (refine Both.lit_true ?_; conv => whnf) | (refine Both.lit_false ?_; conv => whnf) | (apply QStep.go; conv => whnf) | (refine Need.au ?_; conv => whnf) | (refine ⟨_, rfl, ?_⟩; conv => whnf) | (refine CallVC.auto (newb_k.gl (G := [(0, y0 :: cs0)])) ?_; conv => whnf)))
    refine CallVC.auto (rroot_k.gl (G := [(0, y0 :: cs0)])) (inB_mk (T := []) ⟨l, rfl, rfl, hl6, hok, ?_⟩)
    (conv => whnf)
    (repeat (first | (exact Out.same; conv => whnf) | (exact Out1.same; conv => whnf) | (refine QAnd.mk ?_ ?_; conv => whnf) | (apply QStepH.go; conv => whnf) | (refine Both.lit_true ?_; conv => whnf) | (refine Both.lit_false ?_; conv => whnf) | (apply QStep.go; conv => whnf) | (refine Need.au ?_; conv => whnf) | (refine ⟨_, rfl, ?_⟩; conv => whnf)))
    refine CallVC.auto (rroot_k.gl (G := [(0, y0 :: cs0)])) (inB_mk ⟨m, hn, hcs, hm6, hokm, ?_⟩)
    generalize hT : rootT m (rootT l []) = T at hcl ⊢
    (conv => whnf)
    (repeat (first | (exact Out.same; conv => whnf) | (exact Out1.same; conv => whnf) | (refine QAnd.mk ?_ ?_; conv => whnf) | (apply QStepH.go; conv => whnf) | (refine Both.lit_true ?_; conv => whnf) | (refine Both.lit_false ?_; conv => whnf) | (apply QStep.go; conv => whnf) | (refine Need.au ?_; conv => whnf) | (refine ⟨_, rfl, ?_⟩; conv => whnf)))
    exact ⟨_, _, WeakV.drop (congrArg SV.bool hcl), h⟩
  have c17 : decide (IntKind.i64.wrap ((k : Int) + 1) < ((l.length : Nat) : Int)) = false := decide_eq_false (by rw [hw1]; omega)
  (conv => whnf)
  (repeat (first | (exact Out.same; conv => whnf) | (exact Out1.same; conv => whnf) | (refine QAnd.mk ?_ ?_; conv => whnf) | (apply QStepH.go; conv => whnf) | (refine Both.lit_true ?_; conv => whnf) | (refine Both.lit_false ?_; conv => whnf) | (apply QStep.go; conv => whnf) | (refine Need.au ?_; conv => whnf) | (refine ⟨_, rfl, ?_⟩; conv => whnf)))
  (refine DrawVC.any Γok (by kernel_rfl) (by kernel_rfl) (by kernel_rfl) (by rfl) ?_; conv => whnf)
  (repeat (first | (refine Need.mk hin ?_; conv => whnf) | (refine ⟨_, hat, ?_⟩; conv => whnf) | (refine Both.of_false c16 ?_; conv => whnf) | (refine Both.of_false c17 ?_; conv => whnf) | (refine Need.mk hcat ?_; conv => whnf) | (exact Out.same; conv => whnf) | (exact Out1.same; conv => whnf) | (refine QAnd.mk ?_ ?_; conv => whnf) | (apply QStepH.go; conv => whnf) | (refine Both.lit_true ?_; conv => whnf) | (refine Both.lit_false ?_; conv => whnf) | (apply QStep.go; conv => whnf) | (refine Need.au ?_; conv => whnf) | (refine ⟨_, rfl, ?_⟩; conv => whnf)))
  have e2 : (IntKind.i64.wrap ((k : Int) + 1)).toNat = k + 1 := by rw [hw1]; omega
  have e1 : ((IntKind.i64.wrap ((k : Int) + 1)).toNat - ((0 : Int)).toNat) = k + 1 := by rw [e2]; omega
  have e3 : ((((l.length : Nat) : Int)).toNat - (IntKind.i64.wrap ((k : Int) + 1)).toNat) = l.length - (k + 1) := by rw [e2]; omega
  have hcA : ti27.size = 2 ∧ (0 : Int) ≤ 0 ∧ (0 : Int) ≤ IntKind.i64.wrap ((k : Int) + 1) ∧ IntKind.i64.wrap ((k : Int) + 1) ≤ ((l.length : Nat) : Int) := ⟨rfl, by omega, by rw [hw1]; omega, by rw [hw1]; omega⟩
  have hcB : ti27.size = 2 ∧ (0 : Int) ≤ IntKind.i64.wrap ((k : Int) + 1) ∧ IntKind.i64.wrap ((k : Int) + 1) ≤ ((l.length : Nat) : Int) ∧ ((l.length : Nat) : Int) ≤ ((l.length : Nat) : Int) := ⟨rfl, by rw [hw1]; omega, by rw [hw1]; omega, by omega⟩
  have hb1 : (0 + ((IntKind.i64.wrap ((k : Int) + 1)).toNat - ((0 : Int)).toNat)) * ti27.bytes ≤ 140737488355328 := by
    rw [e1]
    show (0 + (k + 1)) * 32 ≤ 140737488355328
    omega
  have hb2 : (0 + ((IntKind.i64.wrap ((k : Int) + 1)).toNat - ((0 : Int)).toNat) + 1) * ti27.bytes ≤ 140737488355328 := by
    rw [e1]
    show (0 + (k + 1) + 1) * 32 ≤ 140737488355328
    omega
  have hb3 : (0 + ((IntKind.i64.wrap ((k : Int) + 1)).toNat - ((0 : Int)).toNat) + 1 + ((((l.length : Nat) : Int)).toNat - (IntKind.i64.wrap ((k : Int) + 1)).toNat)) * ti27.bytes ≤ 140737488355328 := by
    rw [e1, e3]
    show (0 + (k + 1) + 1 + (l.length - (k + 1))) * 32 ≤ 140737488355328
    omega
  have hmm : (l.take (k + 1) ++ [(key ++ [0], v)] ++ l.drop (k + 1)).length ≤ 41 := by rw [List.length_append, List.length_append, List.length_take, List.length_drop, List.length_singleton]; omega
  have hm6 : (l.take (k + 1) ++ [(key ++ [0], v)] ++ l.drop (k + 1)).length < 60000 := by omega
  have hs2 : ∀ p ∈ (l.take (k + 1) ++ [(key ++ [0], v)] ++ l.drop (k + 1)), short p := by 
    intro p hp
    rcases List.mem_append.1 hp with q | q
    · rcases List.mem_append.1 q with q | q
      · exact hs1 p (List.mem_of_mem_take q)
      · rw [List.mem_singleton.1 q]
        exact ⟨by show (key ++ [0]).length < 256; rw [List.length_append, List.length_singleton]; omega, by show v.length < 256; omega⟩
    · exact hs1 p (List.mem_of_mem_drop q)
  have hokm : ∀ p ∈ (l.take (k + 1) ++ [(key ++ [0], v)] ++ l.drop (k + 1)), okP p := fun p hp => by
    have := hs2 p hp
    unfold short at this
    exact ⟨by omega, by omega⟩
  have hinj := hinj (l.take (k + 1) ++ [(key ++ [0], v)] ++ l.drop (k + 1)) hs2 hmm
  obtain ⟨m, hmdef⟩ : ∃ m, (l.take (k + 1) ++ [(key ++ [0], v)] ++ l.drop (k + 1)) = m := ⟨_, rfl⟩
  have hn : 0 + ((IntKind.i64.wrap ((k : Int) + 1)).toNat - ((0 : Int)).toNat) + 1 + ((((l.length : Nat) : Int)).toNat - (IntKind.i64.wrap ((k : Int) + 1)).toNat) = m.length := by rw [← hmdef]; rw [e1, e3, List.length_append, List.length_append, List.length_take, List.length_drop, List.length_singleton]; omega
  have hcs : ([] ++ ((flP l).take ((IntKind.i64.wrap ((k : Int) + 1)).toNat * 2)).drop (((0 : Int)).toNat * 2)) ++ [CV.str (key ++ [0]), CV.str v] ++ ((flP l).take ((((l.length : Nat) : Int)).toNat * 2)).drop ((IntKind.i64.wrap ((k : Int) + 1)).toNat * 2) = flP m := by rw [← hmdef]; rw [e2]; exact flP_ins l hkl (key ++ [0], v)
  rw [hmdef] at hmm hm6 hs2 hokm hinj
  clear hmdef
  have hsame : l = m → shaD (rootX l) = shaD (rootX m) := fun e => by rw [e]
  (conv => whnf)
  (repeat (first | (exact Out.same; conv => whnf) | (exact Out1.same; conv => whnf) | (refine QAnd.mk ?_ ?_; conv => whnf) | (apply QStepH.go; conv => whnf) | (refine Both.lit_true ?_; conv => whnf) | (refine Both.lit_false ?_; conv => whnf) | (apply QStep.go; conv => whnf) | (refine Need.au ?_; conv => whnf) | (refine ⟨_, rfl, ?_⟩; conv => whnf)))
  (refine DrawVC.quiet [14] Γok (by kernel_rfl) (by kernel_rfl) (by kernel_rfl) (by rfl) ?_; conv => whnf)
  (repeat (first | (refine Need.mk hin ?_; conv => whnf) | (refine ⟨_, hat, ?_⟩; conv => whnf) | (refine Need.mk hcat ?_; conv => whnf) | (refine Need.mk hcA ?_; conv => whnf) | (refine Need.mk hcB ?_; conv => whnf) | (refine Need.mk hb1 ?_; conv => whnf) | (refine Need.mk hb2 ?_; conv => whnf) | (refine Need.mk hb3 ?_; conv => whnf) | (exact Out.same; conv => whnf) | (exact Out1.same; conv => whnf) | (refine QAnd.mk ?_ ?_; conv => whnf) | (apply QStepH.go; conv => whnf) | (refine Both.lit_true ?_; conv => whnf) | (refine Both.lit_false ?_; conv => whnf) | (apply QStep.go; conv => whnf) | (refine Need.au ?_; conv => whnf) | (refine ⟨_, rfl, ?_⟩; conv => whnf)))
  (repeat (first | (exact Out.same; conv => whnf) | (exact Out1.same; conv => whnf) | (refine QAnd.mk ?_ ?_; conv => whnf) | (apply QStepH.go; conv => whnf) | (refine Both.lit_true ?_; conv => whnf) | (refine Both.lit_false ?_; conv => whnf) | (apply QStep.go; conv => whnf) | (refine Need.au ?_; conv => whnf) | (refine ⟨_, rfl, ?_⟩; conv => whnf)))
  refine CallVC.auto (mroot_k hK) ⟨l, rfl, rfl, hl6, hok, ?_⟩
  (conv => whnf)
  (repeat (first | (exact Out.same; conv => whnf) | (exact Out1.same; conv => whnf) | (refine QAnd.mk ?_ ?_; conv => whnf) | (apply QStepH.go; conv => whnf) | (refine Both.lit_true ?_; conv => whnf) | (refine Both.lit_false ?_; conv => whnf) | (apply QStep.go; conv => whnf) | (refine Need.au ?_; conv => whnf) | (refine ⟨_, rfl, ?_⟩; conv => whnf)))
  refine CallVC.autoW _ (Weak.pubT 5 rfl) (mroot_k hK) ⟨m, hn, hcs, hm6, hokm, ?_⟩
  (conv => whnf)
  (repeat (first | (exact Out.same; conv => whnf) | (exact Out1.same; conv => whnf) | (refine QAnd.mk ?_ ?_; conv => whnf) | (apply QStepH.go; conv => whnf) | (refine Both.lit_true ?_; conv => whnf) | (refine Both.lit_false ?_; conv => whnf) | (apply QStep.go; conv => whnf) | (refine Need.au ?_; conv => whnf) | (refine ⟨_, rfl, ?_⟩; conv => whnf)))
  refine CallVC.auto (pairs8_k.gl (G := [(0, y0 :: cs0)])) ⟨l, m, rfl, rfl, hn, hcs, by omega, by omega, ?_⟩
  (conv => whnf)
  (repeat (first | (exact Out.same; conv => whnf) | (exact Out1.same; conv => whnf) | (refine QAnd.mk ?_ ?_; conv => whnf) | (apply QStepH.go; conv => whnf) | (refine Both.lit_true ?_; conv => whnf) | (refine Both.lit_false ?_; conv => whnf) | (apply QStep.go; conv => whnf) | (refine Need.au ?_; conv => whnf) | (refine ⟨_, rfl, ?_⟩; conv => whnf)))
  by_cases hlm2 : l = m
  · have c5 : decide (decide (shaD (rootX l) = shaD (rootX m)) = decide (l = m)) = true := by rw [decide_eq_true hlm2, decide_eq_true (hsame hlm2)]; rfl
    refine Both.of_true c5 ?_
    (conv => whnf)
    (repeat (first | (exact Out.same; conv => whnf) | (exact Out1.same; conv => whnf) | (refine QAnd.mk ?_ ?_; conv => whnf) | (apply QStepH.go; conv => whnf) | (refine Both.lit_true ?_; conv => whnf) | (refine Both.lit_false ?_; conv => whnf) | (apply QStep.go; conv => whnf) | (refine Need.au ?_; conv => whnf) | (refine ⟨_, rfl, ?_⟩; conv => whnf)))
    exact ⟨_, _, WeakV.drop rfl, h⟩
  by_cases hrt : shaD (rootX l) = shaD (rootX m)
  case neg =>
    have c5 : decide (decide (shaD (rootX l) = shaD (rootX m)) = decide (l = m)) = true := by rw [decide_eq_false hlm2, decide_eq_false hrt]; rfl
    refine Both.of_true c5 ?_
    (conv => whnf)
    (repeat (first | (exact Out.same; conv => whnf) | (exact Out1.same; conv => whnf) | (refine QAnd.mk ?_ ?_; conv => whnf) | (apply QStepH.go; conv => whnf) | (refine Both.lit_true ?_; conv => whnf) | (refine Both.lit_false ?_; conv => whnf) | (apply QStep.go; conv => whnf) | (refine Need.au ?_; conv => whnf) | (refine ⟨_, rfl, ?_⟩; conv => whnf)))
    exact ⟨_, _, WeakV.drop rfl, h⟩
  have c5 : decide (decide (shaD (rootX l) = shaD (rootX m)) = decide (l = m)) = false := by rw [decide_eq_false hlm2, decide_eq_true hrt]; rfl
  have hcl : bcl (rootT m (rootT l [])) = true := by
    cases hb : bcl (rootT m (rootT l [])) with
    | true => rfl
    | false => exact absurd (hinj hb hrt) hlm2
  clear hinj hsame
  refine Both.of_false c5 ?_
  (conv => whnf)
  (repeat (first | (exact Out.same; conv => whnf) | (exact Out1.same; conv => whnf) | (refine QAnd.mk ?_ ?_; conv => whnf) | (apply QStepH.go; conv => whnf) | (refine Both.lit_true ?_; conv => whnf) | (refine Both.lit_false ?_; conv => whnf) | (apply QStep.go; conv => whnf) | (refine Need.au ?_; conv => whnf) | (refine ⟨_, rfl, ?_⟩; conv => whnf) | (refine CallVC.auto (newb_k.gl (G := [(0, y0 :: cs0)])) ?_; conv => whnf)))
  refine CallVC.auto (rroot_k.gl (G := [(0, y0 :: cs0)])) (inB_mk (T := []) ⟨l, rfl, rfl, hl6, hok, ?_⟩)
  (conv => whnf)
  (repeat (first | (exact Out.same; conv => whnf) | (exact Out1.same; conv => whnf) | (refine QAnd.mk ?_ ?_; conv => whnf) | (apply QStepH.go; conv => whnf) | (refine Both.lit_true ?_; conv => whnf) | (refine Both.lit_false ?_; conv => whnf) | (apply QStep.go; conv => whnf) | (refine Need.au ?_; conv => whnf) | (refine ⟨_, rfl, ?_⟩; conv => whnf)))
  refine CallVC.auto (rroot_k.gl (G := [(0, y0 :: cs0)])) (inB_mk ⟨m, hn, hcs, hm6, hokm, ?_⟩)
  generalize hT : rootT m (rootT l []) = T at hcl ⊢
  (conv => whnf)
  (repeat (first | (exact Out.same; conv => whnf) | (exact Out1.same; conv => whnf) | (refine QAnd.mk ?_ ?_; conv => whnf) | (apply QStepH.go; conv => whnf) | (refine Both.lit_true ?_; conv => whnf) | (refine Both.lit_false ?_; conv => whnf) | (apply QStep.go; conv => whnf) | (refine Need.au ?_; conv => whnf) | (refine ⟨_, rfl, ?_⟩; conv => whnf)))
  exact ⟨_, _, WeakV.drop (congrArg SV.bool hcl), h⟩
end Go.LX
end
section
set_option maxRecDepth 100000
set_option maxHeartbeats 4000000
set_option autoImplicit false
set_option linter.unusedVariables false
set_option linter.unusedSimpArgs false
namespace Go.LX
open Go.Proofs Go.Proofs.YtbnbklbpkpibmaaDoor Go.RowKit Go.ChangeShapes Go.WideShapes Go.ChangeAt

theorem law_runG {P : Program} {G : Gl} {f : FuncId} {S : Spec} (hM : Meets P G f S) {svs : List SV} {vs : List Value} {W : World} (hv : VRs (E0 W) W svs vs) (hg : GlOk (E0 W) W G) (hS : S svs [] fun r _ => r = .bool true) :
    Calls P f vs.toArray W fun e W' => e = .returned (.bool true) ∧ Below W.heap.size W W' := by
  refine (hM svs [] _ hS (E0 W) W vs hv (rel0 W) hg).mono ?_
  rintro e W' ⟨v, r, H', E', rfl, rfl, hv, _, hst, _⟩
  cases hv
  exact ⟨rfl, hst.os, hst.tape, hst.output, hst.size, fun k hk => hst.keep k hk (fun ⟨i, o, h, _⟩ => by simp at h)⟩
def kzs : List Int := kT.map fun x => u32 x
def kG : Gl := [(0, CV.int .u32 (u32 0x428a2f98#32) :: (kT.tail.map fun x => CV.int .u32 (u32 x)))]
theorem kG_at : KAt (CV.int .u32 (u32 0x428a2f98#32)) (kT.tail.map fun x => CV.int .u32 (u32 x)) := fun t ht => k_at ht
abbrev laidK : List (String × DataW Unit) := [("carrack/sha.k", Rows.laid_carrack_sha_k)]
theorem laidK_eq : laidK = [("carrack/sha.k", Lib.tabData .u32 kzs)] := by kernel_rfl
theorem gK : Tryd.prog.globalNamed "carrack/sha.k" = some 0 := by kernel_rfl
theorem tK : (Tryd.prog.globals[0]?).map (·.type) = some 98 := by kernel_rfl
theorem gl_of_laid {W : World} (h : laidMetH Tryd.prog laidK W) : GlOk (E0 W) W kG := by
  rw [MakeChecks.laidMetH_plain _ _ _ (by kernel_rfl), laidK_eq] at h
  have hT := Lib.tabIs_of_head gK tK Tryd.underlying98 Tryd.underlying75 (by kernel_rfl) (by kernel_rfl) h
  have hc := fun i hi => hT.cell gK i hi
  refine ⟨fun g cs hm => ?_⟩
  have hm : (g, cs) = (0, CV.int .u32 (u32 0x428a2f98#32) :: (kT.tail.map fun x => CV.int .u32 (u32 x))) := List.mem_singleton.1 hm
  cases hm
  have hcs : (CV.int .u32 (u32 0x428a2f98#32) :: (kT.tail.map fun x => CV.int .u32 (u32 x))) = kzs.map fun z => CV.int .u32 z := by
    rw [kzs, List.map_map]
    rfl
  refine ⟨?_, kzs.map fun z => Value.int .u32 z, ?_, fun j v hj => ?_⟩
  · have h0 := hc 0 (by decide)
    show 0 < W.heap.size
    by_cases hz : 0 < W.heap.size
    · exact hz
    · exfalso
      have hn : W.heap[0]? = none := Array.getElem?_eq_none (by omega)
      unfold World.cell? at h0
      rw [hn] at h0
      cases h0
  · rw [hcs]
    refine ⟨by rw [List.length_map, List.length_map], fun j x v hx hv => ?_⟩
    rw [List.getElem?_map, Option.map_eq_some_iff] at hx hv
    obtain ⟨z, hz, rfl⟩ := hx
    obtain ⟨z', hz', rfl⟩ := hv
    cases hz.symm.trans hz'
    exact .int _ _
  · rw [List.getElem?_map, Option.map_eq_some_iff] at hj
    obtain ⟨z, hz, rfl⟩ := hj
    have hlt : j < kzs.length := by
      rcases Nat.lt_or_ge j kzs.length with h1 | h1
      · exact h1
      · rw [List.getElem?_eq_none h1] at hz; cases hz
    have := hc j hlt
    rw [List.getD_eq_getElem?_getD, hz] at this
    exact this
theorem doorK_met (os : Os) (args : Array Value) : laidMetH Tryd.prog laidK ((World.doorLaid Tryd.prog 400 os).forCall (fun _ _ => 0) ⟨#[], args, []⟩).memory :=
  laidMetH_of_parts3 (fuel := 8) (laidMet_of_run' 8 (by kernel_rfl) (by kernel_rfl)) (by kernel_rfl) (by kernel_rfl)
end Go.LX
end
