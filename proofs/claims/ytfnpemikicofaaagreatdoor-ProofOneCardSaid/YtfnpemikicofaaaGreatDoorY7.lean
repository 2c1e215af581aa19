/- Own texts of this claim, in build order: Qs, Qt, Qv, Qw, Qx, Rk. -/
import Derived.Test.YtfnpemikicofaaaGreatDoorY6
import Derived.Test.YtfnpemikicofaaaGreatDoorRows
import Derived.Lib.LaidTab
import Derived.MakeChecks
import Derived.LaidMore
section
set_option maxRecDepth 100000
set_option maxHeartbeats 2000000
set_option autoImplicit false
set_option linter.unusedVariables false
set_option linter.unusedSimpArgs false
namespace Go.LX
open Go.Proofs

open Classical in
noncomputable def clT (x : Lf) (T : List Bs) : List Bs := if rightP x.p x.i x.c then climbT (txLeaf (x.k, x.v)) x.i x.c x.p T else T
noncomputable def clsT : List Lf → List Bs → List Bs
  | [], T => T
  | x :: L, T => clsT L (clT x T)
theorem clsT_snoc (x : Lf) : ∀ (L : List Lf) (T : List Bs), clsT (L ++ [x]) T = clT x (clsT L T)
  | [], T => rfl
  | y :: L, T => clsT_snoc x L (clT y T)
theorem good_yes {root : Bs} {x : Lf} (h : rightP x.p x.i x.c) : goodC root x = decide (shaD (topX x.c.toNat (upD (txLeaf (x.k, x.v)) x.p x.i.toNat x.c.toNat)) = root) := by
  unfold goodC
  rw [climb_yes h]
  rfl
theorem good_no {root : Bs} {x : Lf} (h : ¬ rightP x.p x.i x.c) : goodC root x = false := by
  unfold goodC
  rw [climb_no h]
  rfl
theorem all_snoc {root : Bs} {x : Lf} {L : List Lf} : (∀ z ∈ L ++ [x], goodC root z = true) ↔ (∀ z ∈ L, goodC root z = true) ∧ goodC root x = true := by
  constructor
  · intro h
    exact ⟨fun z hz => h z (List.mem_append.2 (.inl hz)), h x (by simp)⟩
  · rintro ⟨h1, h2⟩ z hz
    rcases List.mem_append.1 hz with hz | hz
    · exact h1 z hz
    · rw [List.mem_singleton.1 hz]; exact h2
theorem take_snoc {L : List Lf} {j : Nat} (h : j < L.length) : L.take (j + 1) = L.take j ++ [L[j]] := (List.take_append_getElem h).symm
def rclimbsS : Spec := fun args H Q => match args with
  | [.ptr 0 0, .str root, .agg [.bool a, .sl 5 n cs false]] => inB H fun T => ∃ L : List Lf, cs = flL L ∧ n = L.length ∧ L.length ≤ 1000000 ∧ (∀ x ∈ L, okLf x) ∧ Q (.bool (decide (∀ x ∈ L, goodC root x = true))) (bkO (clsT L T))
  | _ => False
theorem rclimbs_c : Meets Tryz.prog [] 22 rclimbsS := by
  refine meets_of Γok Tryz.func22 rfl ?_
  intro args H Q h
  unfold rclimbsS at h
  split at h
  case h_2 => exact h.elim
  rename_i root a n cs
  obtain ⟨T, rfl, L, rfl, rfl, hL, hok, h⟩ := inB_out h
  (refine sx_sound Γok _ ?_; conv => whnf)
  (repeat (first | (exact Out.same; conv => whnf) | (exact Out1.same; conv => whnf) | (refine QAnd.mk ?_ ?_; conv => whnf) | (apply QStepH.go; conv => whnf) | (refine Both.lit_true ?_; conv => whnf) | (refine Both.lit_false ?_; conv => whnf) | (apply QStep.go; conv => whnf) | (refine Need.au ?_; conv => whnf) | (refine ⟨_, rfl, ?_⟩; conv => whnf)))
  refine loop_rule (fun x : Nat × Bool × List Bs => match x with | (j, b, U) => ⟨[.ptr 0 0, .str root, .any, .any, .any, .ptr 2 0, .any, .bool b, .int .i64 (j : Int), .any, .any, .any, .any, .any, .any, .any, .any, .any, .any, .any, .any, .any, .any, .any, .any, .any, .any, .any, .any, .any, .any, .any, .any, .any, .any, .any, .any, .any], bkO U ++ [.cells [.bool a, .sl 5 L.length (flL L) false] 42]⟩) (fun x => match x with | (j, b, U) => j ≤ L.length ∧ U = clsT (L.take j) T ∧ (b = true ↔ ∀ z ∈ L.take j, goodC root z = true)) (fun x => match x with | (j, b, U) => L.length - j) (0, true, T) ⟨Nat.zero_le _, rfl, ⟨fun _ z hz => (by simp at hz), fun _ => rfl⟩⟩ (Weak.auto ?_) ?_
  · (repeat' ((conv => whnf); first | exact True.intro | (refine And.intro ?_ ?_)))
    all_goals first | rfl | exact .eq rfl
  rintro ⟨j, b, U⟩ ⟨hj, hU, hb⟩
  (refine sx_sound Γok _ ?_; conv => whnf)
  (repeat (first | (exact Out.same; conv => whnf) | (exact Out1.same; conv => whnf) | (refine QAnd.mk ?_ ?_; conv => whnf) | (apply QStepH.go; conv => whnf) | (refine Both.lit_true ?_; conv => whnf) | (refine Both.lit_false ?_; conv => whnf) | (apply QStep.go; conv => whnf) | (refine Need.au ?_; conv => whnf) | (refine ⟨_, rfl, ?_⟩; conv => whnf)))
  refine Both.dec (fun hlt => ?_) (fun hge => ?_)
  rotate_left
  · have hje : j = L.length := by omega
    rw [hje, List.take_length] at hU hb
    have hbe : b = decide (∀ x ∈ L, goodC root x = true) := by
      cases b with
      | true => exact (decide_eq_true (hb.1 rfl)).symm
      | false => exact (decide_eq_false (fun u => by cases hb.2 u)).symm
    rw [← hbe, ← hU] at h
    (conv => whnf)
    (repeat (first | (exact Out.same; conv => whnf) | (exact Out1.same; conv => whnf) | (refine QAnd.mk ?_ ?_; conv => whnf) | (apply QStepH.go; conv => whnf) | (refine Both.lit_true ?_; conv => whnf) | (refine Both.lit_false ?_; conv => whnf) | (apply QStep.go; conv => whnf) | (refine Need.au ?_; conv => whnf) | (refine ⟨_, rfl, ?_⟩; conv => whnf)))
    refine ⟨_, _, WeakV.auto ?_, h⟩
    (repeat' ((conv => whnf); first | exact True.intro | (refine And.intro ?_ ?_)))
    all_goals first | rfl | exact .eq rfl
  have hjl : j < L.length := by omega
  have hts := take_snoc hjl
  have hxo : okLf L[j] := hok _ (List.getElem_mem _)
  have hwr : IntKind.i64.wrap ((j : Int) + 1) = ((j + 1 : Nat) : Int) := by rw [wrap_i64 (by omega) (by omega)]; rfl
  have hU2 := clsT_snoc L[j] (L.take j) T
  rw [← hts, ← hU] at hU2
  have hb2 : (∀ z ∈ L.take (j + 1), goodC root z = true) ↔ b = true ∧ goodC root L[j] = true := by rw [hts, all_snoc, hb]
  have hat := flL_at L hjl L[j]
  rw [show L.getD j L[j] = L[j] from by rw [List.getD_eq_getElem?_getD, List.getElem?_eq_getElem hjl]; rfl] at hat
  have hix : ti50.size = 5 ∧ (0 : Int) ≤ (j : Int) ∧ (j : Int) < ((L.length : Nat) : Int) := ⟨rfl, by omega, by omega⟩
  generalize L[j] = x at hxo hU2 hb2 hat
  have hxp := hxo.p
  have hxk := hxo.k
  have hxv := hxo.v
  (conv => whnf)
  (repeat (first | (refine Need.mk hix ?_; conv => whnf) | (refine ⟨_, hat, ?_⟩; conv => whnf) | (exact Out.same; conv => whnf) | (exact Out1.same; conv => whnf) | (refine QAnd.mk ?_ ?_; conv => whnf) | (apply QStepH.go; conv => whnf) | (refine Both.lit_true ?_; conv => whnf) | (refine Both.lit_false ?_; conv => whnf) | (apply QStep.go; conv => whnf) | (refine Need.au ?_; conv => whnf) | (refine ⟨_, rfl, ?_⟩; conv => whnf)))
  refine CallVC.auto rclimb_k (inB_mk ⟨x.p, rfl, rfl, by omega, by omega, by omega, fun hr => ?_, fun hr => ?_⟩)
  · have hg := good_yes (root := root) hr
    have hcT : clT x U = climbT (txLeaf (x.k, x.v)) x.i x.c x.p U := if_pos hr
    obtain ⟨U2, hU3⟩ : ∃ U2, clsT (L.take (j + 1)) T = U2 := ⟨_, rfl⟩
    rw [← hcT, ← hU2, hU3]
    rw [hg] at hb2
    generalize shaD (topX x.c.toNat (upD (txLeaf (x.k, x.v)) x.p x.i.toNat x.c.toNat)) = d at hb2 ⊢
    cases b with
    | false =>
      (conv => whnf)
      (repeat (first | (exact Out.same; conv => whnf) | (exact Out1.same; conv => whnf) | (refine QAnd.mk ?_ ?_; conv => whnf) | (apply QStepH.go; conv => whnf) | (refine Both.lit_true ?_; conv => whnf) | (refine Both.lit_false ?_; conv => whnf) | (apply QStep.go; conv => whnf) | (refine Need.au ?_; conv => whnf) | (refine ⟨_, rfl, ?_⟩; conv => whnf)))
      refine ⟨(j + 1, false, U2), ⟨hjl, hU3.symm, ⟨fun q => (by cases q), fun q => (hb2.1 q).1⟩⟩, by show L.length - (j + 1) < L.length - j; omega, Weak.auto ?_⟩
      (repeat' ((conv => whnf); first | exact True.intro | (refine And.intro ?_ ?_)))
      all_goals first | rfl | exact .eq rfl | exact congrArg (SV.int .i64) hwr
    | true =>
      (conv => whnf)
      (repeat (first | (exact Out.same; conv => whnf) | (exact Out1.same; conv => whnf) | (refine QAnd.mk ?_ ?_; conv => whnf) | (apply QStepH.go; conv => whnf) | (refine Both.lit_true ?_; conv => whnf) | (refine Both.lit_false ?_; conv => whnf) | (apply QStep.go; conv => whnf) | (refine Need.au ?_; conv => whnf) | (refine ⟨_, rfl, ?_⟩; conv => whnf)))
      refine ⟨(j + 1, decide (d = root), U2), ⟨hjl, hU3.symm, ⟨fun q => hb2.2 ⟨rfl, q⟩, fun q => (hb2.1 q).2⟩⟩, by show L.length - (j + 1) < L.length - j; omega, Weak.auto ?_⟩
      (repeat' ((conv => whnf); first | exact True.intro | (refine And.intro ?_ ?_)))
      all_goals first | rfl | exact .eq rfl | exact congrArg (SV.int .i64) hwr
  · have hg := good_no (root := root) hr
    have hcT : clT x U = U := if_neg hr
    rw [hcT] at hU2
    rw [hg] at hb2
    have hbf : ¬ ∀ z ∈ L.take (j + 1), goodC root z = true := fun q => by cases (hb2.1 q).2
    cases b with
    | false =>
      (conv => whnf)
      (repeat (first | (exact Out.same; conv => whnf) | (exact Out1.same; conv => whnf) | (refine QAnd.mk ?_ ?_; conv => whnf) | (apply QStepH.go; conv => whnf) | (refine Both.lit_true ?_; conv => whnf) | (refine Both.lit_false ?_; conv => whnf) | (apply QStep.go; conv => whnf) | (refine Need.au ?_; conv => whnf) | (refine ⟨_, rfl, ?_⟩; conv => whnf)))
      refine ⟨(j + 1, false, U), ⟨hjl, hU2.symm, ⟨fun q => (by cases q), fun q => absurd q hbf⟩⟩, by show L.length - (j + 1) < L.length - j; omega, Weak.auto ?_⟩
      (repeat' ((conv => whnf); first | exact True.intro | (refine And.intro ?_ ?_)))
      all_goals first | rfl | exact .eq rfl | exact congrArg (SV.int .i64) hwr
    | true =>
      (conv => whnf)
      (repeat (first | (exact Out.same; conv => whnf) | (exact Out1.same; conv => whnf) | (refine QAnd.mk ?_ ?_; conv => whnf) | (apply QStepH.go; conv => whnf) | (refine Both.lit_true ?_; conv => whnf) | (refine Both.lit_false ?_; conv => whnf) | (apply QStep.go; conv => whnf) | (refine Need.au ?_; conv => whnf) | (refine ⟨_, rfl, ?_⟩; conv => whnf)))
      refine ⟨(j + 1, false, U), ⟨hjl, hU2.symm, ⟨fun q => (by cases q), fun q => absurd q hbf⟩⟩, by show L.length - (j + 1) < L.length - j; omega, Weak.auto ?_⟩
      (repeat' ((conv => whnf); first | exact True.intro | (refine And.intro ?_ ?_)))
      all_goals first | rfl | exact .eq rfl | exact congrArg (SV.int .i64) hwr
theorem rclimbs_k : Contract Tryz.prog [] 22 rclimbsS := ⟨⟨⟨_, rfl, rfl, rfl⟩⟩, rclimbs_c⟩
end Go.LX
end
section
set_option maxRecDepth 100000
set_option maxHeartbeats 2000000
set_option autoImplicit false
set_option linter.unusedVariables false
set_option linter.unusedSimpArgs false
namespace Go.LX
open Go.Proofs

noncomputable def hasT (s : Bs) (T : List Bs) : List Bs := if (parseV s).2 = 0 ∧ (parseV s).1.1 = false ∧ (parseV s).1.2.length = 1 then clsT (parseV s).1.2 T else T
open Classical in
def rhasS : Spec := fun args H Q => match args with
  | [.ptr 0 0, .str root, .str s, .str key, .str value] => inB H fun T => s.length < 1000000 ∧ Q (.bool (decide (hasP root s key value))) (bkO (hasT s T))
  | _ => False
open Classical in
theorem rhas_c : Meets Tryz.prog [] 9 rhasS := by
  refine meets_of Γok Tryz.func9 rfl ?_
  intro args H Q h
  unfold rhasS at h
  split at h
  case h_2 => exact h.elim
  rename_i root s key value
  obtain ⟨T, rfl, hs, h⟩ := inB_out h
  have cz : (!decide ((0 : Int) = 0)) = false := rfl
  have c5 : (!decide ((5 : Int) = 0)) = true := rfl
  rcases parseV_cases s with ⟨a, L, hf, hr, hp⟩ | hp
  case inr =>
    have hn : ¬ hasP root s key value := fun ⟨x, q, _⟩ => by
      have := (Prod.mk.inj (hp.symm.trans q)).2
      cases this
    have hT : hasT s T = T := by
      unfold hasT
      rw [hp, if_neg (fun q => by have := q.1; cases this)]
    rw [decide_eq_false hn, hT] at h
    (refine sx_sound Γok _ ?_; conv => whnf)
    (repeat (first | (exact Out.same; conv => whnf) | (exact Out1.same; conv => whnf) | (refine QAnd.mk ?_ ?_; conv => whnf) | (apply QStepH.go; conv => whnf) | (refine Both.lit_true ?_; conv => whnf) | (refine Both.lit_false ?_; conv => whnf) | (apply QStep.go; conv => whnf) | (refine Need.au ?_; conv => whnf) | (refine ⟨_, rfl, ?_⟩; conv => whnf)))
    refine CallVC.auto rparse_k ⟨hs, fun a1 L1 e1 h1 => ?_⟩
    obtain ⟨u1, u3⟩ := Prod.mk.inj (h1.symm.trans hp)
    obtain ⟨u1, u2⟩ := Prod.mk.inj u1
    clear h1
    subst u1 u2 u3
    (conv => whnf)
    (repeat (first | (refine Both.of_true c5 ?_; conv => whnf) | (exact Out.same; conv => whnf) | (exact Out1.same; conv => whnf) | (refine QAnd.mk ?_ ?_; conv => whnf) | (apply QStepH.go; conv => whnf) | (refine Both.lit_true ?_; conv => whnf) | (refine Both.lit_false ?_; conv => whnf) | (apply QStep.go; conv => whnf) | (refine Need.au ?_; conv => whnf) | (refine ⟨_, rfl, ?_⟩; conv => whnf)))
    refine ⟨_, _, WeakV.auto ?_, h⟩
    (repeat' ((conv => whnf); first | exact True.intro | (refine And.intro ?_ ?_)))
    all_goals first | rfl | exact .eq rfl
  (refine sx_sound Γok _ ?_; conv => whnf)
  (repeat (first | (exact Out.same; conv => whnf) | (exact Out1.same; conv => whnf) | (refine QAnd.mk ?_ ?_; conv => whnf) | (apply QStepH.go; conv => whnf) | (refine Both.lit_true ?_; conv => whnf) | (refine Both.lit_false ?_; conv => whnf) | (apply QStep.go; conv => whnf) | (refine Need.au ?_; conv => whnf) | (refine ⟨_, rfl, ?_⟩; conv => whnf)))
  refine CallVC.auto rparse_k ⟨hs, fun a1 L1 e1 h1 => ?_⟩
  obtain ⟨u1, u3⟩ := Prod.mk.inj (h1.symm.trans hp)
  obtain ⟨u1, u2⟩ := Prod.mk.inj u1
  clear h1
  subst u1 u2 u3
  cases a1 with
  | true =>
    have hn : ¬ hasP root s key value := fun ⟨x, q, _⟩ => by
      have := (Prod.mk.inj (Prod.mk.inj (hp.symm.trans q)).1).1
      cases this
    have hT : hasT s T = T := by
      unfold hasT
      rw [hp, if_neg (fun q => by have := q.2.1; cases this)]
    rw [decide_eq_false hn, hT] at h
    (conv => whnf)
    (repeat (first | (refine Both.of_false cz ?_; conv => whnf) | (exact Out.same; conv => whnf) | (exact Out1.same; conv => whnf) | (refine QAnd.mk ?_ ?_; conv => whnf) | (apply QStepH.go; conv => whnf) | (refine Both.lit_true ?_; conv => whnf) | (refine Both.lit_false ?_; conv => whnf) | (apply QStep.go; conv => whnf) | (refine Need.au ?_; conv => whnf) | (refine ⟨_, rfl, ?_⟩; conv => whnf)))
    refine ⟨_, _, WeakV.auto ?_, h⟩
    (repeat' ((conv => whnf); first | exact True.intro | (refine And.intro ?_ ?_)))
    all_goals first | rfl | exact .eq rfl
  | false =>
  by_cases hl : L1.length = 1
  case neg =>
    have cl : (!decide (((L1.length : Nat) : Int) = 1)) = true := by rw [decide_eq_false (by omega)]; rfl
    have hn : ¬ hasP root s key value := fun ⟨x, q, _⟩ => by
      have := (Prod.mk.inj (Prod.mk.inj (hp.symm.trans q)).1).2
      rw [this] at hl
      exact hl rfl
    have hT : hasT s T = T := by
      unfold hasT
      rw [hp, if_neg (fun q => hl q.2.2)]
    rw [decide_eq_false hn, hT] at h
    (conv => whnf)
    (repeat (first | (refine Both.of_false cz ?_; conv => whnf) | (refine Both.of_true cl ?_; conv => whnf) | (exact Out.same; conv => whnf) | (exact Out1.same; conv => whnf) | (refine QAnd.mk ?_ ?_; conv => whnf) | (apply QStepH.go; conv => whnf) | (refine Both.lit_true ?_; conv => whnf) | (refine Both.lit_false ?_; conv => whnf) | (apply QStep.go; conv => whnf) | (refine Need.au ?_; conv => whnf) | (refine ⟨_, rfl, ?_⟩; conv => whnf)))
    refine ⟨_, _, WeakV.auto ?_, h⟩
    (repeat' ((conv => whnf); first | exact True.intro | (refine And.intro ?_ ?_)))
    all_goals first | rfl | exact .eq rfl
  obtain ⟨x, rfl⟩ : ∃ x, L1 = [x] := List.length_eq_one_iff.1 hl
  have hxo := hf.2 x (List.mem_singleton.2 rfl)
  have hT : hasT s T = clsT [x] T := by
    unfold hasT
    rw [hp, if_pos ⟨rfl, rfl, rfl⟩]
  rw [hT] at h
  have cl : (!decide (((([x] : List Lf).length : Nat) : Int) = 1)) = false := rfl
  have hat : ((flL [x]).drop ((0 : Int).toNat * 5)).take 5 = [CV.int .i64 x.i, .int .i64 x.c, .str x.k, .str x.v, .sl 1 x.p.length (strs x.p) false] := rfl
  have hix : ti50.size = 5 ∧ (0 : Int) ≤ 0 ∧ (0 : Int) < ((([x] : List Lf).length : Nat) : Int) := ⟨rfl, by omega, by simp⟩
  have ho1 : ([x] : List Lf).length ≤ 1000000 := by show 1 ≤ 1000000; decide
  have hoA : ∀ z ∈ [x], okLf z := fun z hz => by rw [List.mem_singleton.1 hz]; exact hxo
  have hone : ∀ z : Lf, parseV s = ((false, [z]), 0) → x = z := fun z q => by
    have := (Prod.mk.inj (Prod.mk.inj (hp.symm.trans q)).1).2
    simpa using this
  have hfin : ∀ b : Bool, (b = true ↔ ((∀ z ∈ [x], goodC root z = true) ∧ x.k = key) ∧ x.v = value) → Q (.bool b) (bkO (clsT [x] T)) := fun b q => by
    have e : b = decide (hasP root s key value) := by
      have q2 : b = true ↔ hasP root s key value := q.trans ⟨fun u => ⟨x, hp, ⟨u.1.2, u.2⟩, u.1.1 x (List.mem_singleton.2 rfl)⟩, fun ⟨z, q3, q4, q5⟩ => by
        obtain rfl := hone z q3
        exact ⟨⟨fun y hy => by rw [List.mem_singleton.1 hy]; exact q5, q4.1⟩, q4.2⟩⟩
      cases b with
      | true => exact (decide_eq_true (q2.1 rfl)).symm
      | false => exact (decide_eq_false (fun u => by cases q2.2 u)).symm
    rw [e]
    exact h
  (conv => whnf)
  (repeat (first | (refine Both.of_false cz ?_; conv => whnf) | (refine Both.of_false cl ?_; conv => whnf) | (exact Out.same; conv => whnf) | (exact Out1.same; conv => whnf) | (refine QAnd.mk ?_ ?_; conv => whnf) | (apply QStepH.go; conv => whnf) | (refine Both.lit_true ?_; conv => whnf) | (refine Both.lit_false ?_; conv => whnf) | (apply QStep.go; conv => whnf) | (refine Need.au ?_; conv => whnf) | (refine ⟨_, rfl, ?_⟩; conv => whnf)))
  refine CallVC.auto rclimbs_k (inB_mk ⟨[x], rfl, rfl, ho1, hoA, ?_⟩)
  by_cases hg : ∀ z ∈ [x], goodC root z = true
  case neg =>
    rw [decide_eq_false hg]
    have h := hfin false ⟨fun u => (by cases u), fun u => absurd u.1.1 hg⟩
    (conv => whnf)
    (repeat (first | (exact Out.same; conv => whnf) | (exact Out1.same; conv => whnf) | (refine QAnd.mk ?_ ?_; conv => whnf) | (apply QStepH.go; conv => whnf) | (refine Both.lit_true ?_; conv => whnf) | (refine Both.lit_false ?_; conv => whnf) | (apply QStep.go; conv => whnf) | (refine Need.au ?_; conv => whnf) | (refine ⟨_, rfl, ?_⟩; conv => whnf)))
    refine ⟨_, _, WeakV.auto ?_, h⟩
    (repeat' ((conv => whnf); first | exact True.intro | (refine And.intro ?_ ?_)))
    all_goals first | rfl | exact .eq rfl
  rw [decide_eq_true hg]
  by_cases hk : x.k = key
  case neg =>
    have ck : decide (x.k = key) = false := decide_eq_false hk
    have h := hfin false ⟨fun u => (by cases u), fun u => absurd u.1.2 hk⟩
    (conv => whnf)
    (repeat (first | (refine Need.mk hix ?_; conv => whnf) | (refine ⟨_, hat, ?_⟩; conv => whnf) | (refine Both.of_false ck ?_; conv => whnf) | (exact Out.same; conv => whnf) | (exact Out1.same; conv => whnf) | (refine QAnd.mk ?_ ?_; conv => whnf) | (apply QStepH.go; conv => whnf) | (refine Both.lit_true ?_; conv => whnf) | (refine Both.lit_false ?_; conv => whnf) | (apply QStep.go; conv => whnf) | (refine Need.au ?_; conv => whnf) | (refine ⟨_, rfl, ?_⟩; conv => whnf)))
    refine ⟨_, _, WeakV.auto ?_, h⟩
    (repeat' ((conv => whnf); first | exact True.intro | (refine And.intro ?_ ?_)))
    all_goals first | rfl | exact .eq rfl
  have ck : decide (x.k = key) = true := decide_eq_true hk
  have h := hfin (decide (x.v = value)) ⟨fun u => ⟨⟨hg, hk⟩, of_decide_eq_true u⟩, fun u => decide_eq_true u.2⟩
  (conv => whnf)
  (repeat (first | (refine Need.mk hix ?_; conv => whnf) | (refine ⟨_, hat, ?_⟩; conv => whnf) | (refine Both.of_true ck ?_; conv => whnf) | (exact Out.same; conv => whnf) | (exact Out1.same; conv => whnf) | (refine QAnd.mk ?_ ?_; conv => whnf) | (apply QStepH.go; conv => whnf) | (refine Both.lit_true ?_; conv => whnf) | (refine Both.lit_false ?_; conv => whnf) | (apply QStep.go; conv => whnf) | (refine Need.au ?_; conv => whnf) | (refine ⟨_, rfl, ?_⟩; conv => whnf)))
  refine ⟨_, _, WeakV.auto ?_, h⟩
  (repeat' ((conv => whnf); first | exact True.intro | (refine And.intro ?_ ?_)))
  all_goals first | rfl | exact .eq rfl
theorem rhas_k : Contract Tryz.prog [] 9 rhasS := ⟨⟨⟨_, rfl, rfl, rfl⟩⟩, rhas_c⟩
end Go.LX
end
section
set_option maxRecDepth 100000
set_option maxHeartbeats 2000000
set_option autoImplicit false
set_option linter.unusedVariables false
set_option linter.unusedSimpArgs false
namespace Go.LX
open Go.Proofs

theorem up_path {U : List Bs} (hU : NoC U) (lf : Bs) (path : List Bs) (h32 : ∀ s ∈ path, s.length = 32) : ∀ (m : Nat) (l : List Pr) (i : Nat), l.length ≤ m → i < l.length → depP i l.length ≤ path.length →
    (∀ x ∈ dgT l [], x ∈ U) → (∀ x ∈ upT lf path i l.length [], x ∈ U) → upD lf path i l.length = dgP l → path.take (depP i l.length) = pathP l i
  | 0, l, i, hm, hi, _, _, _, _ => by omega
  | m + 1, l, i, hm, hil, hd, h1, h2, he => by
    by_cases h : l.length ≤ 1
    · rw [depP_one h, pathP_one h]
      rfl
    · have hlt := lft_lt (n := l.length) (by omega)
      have hpos := lft_pos l.length
      have e1 : (l.take (lft l.length)).length = lft l.length := by rw [List.length_take]; omega
      have e2 : (l.drop (lft l.length)).length = l.length - lft l.length := List.length_drop
      obtain ⟨a1, a2, a3⟩ := dg_parts h h1
      rw [upD_two h, dgP_two h] at he
      rw [upT_two h] at h2
      rw [depP_two h] at he h2 hd ⊢
      rw [pathP_two h]
      have step : ∀ d : Nat, 1 + d ≤ path.length → path.take (1 + d) = path.take d ++ [path.getD (1 + d - 1) []] := fun d q => by
        rw [show 1 + d - 1 = d by omega, show 1 + d = d + 1 by omega, List.getD_eq_getElem?_getD, List.getElem?_eq_getElem (by omega)]
        exact (List.take_append_getElem (by omega)).symm
      have p32 : ∀ d : Nat, 1 + d ≤ path.length → (path.getD (1 + d - 1) []).length = 32 := fun d q => by
        rw [show 1 + d - 1 = d by omega, List.getD_eq_getElem?_getD, List.getElem?_eq_getElem (by omega)]
        exact h32 _ (List.getElem_mem _)
      by_cases hi : i < lft l.length
      · rw [if_pos hi] at he h2 hd ⊢
        rw [if_pos hi] at he h2
        rw [if_pos hi]
        have ht := hU _ (h2 _ List.mem_cons_self) _ a1 he
        obtain ⟨t1, t2⟩ := two_inj (by rw [upD_len, dgP_len]) ht
        rw [step _ hd, t2]
        congr 1
        have := up_path hU lf path h32 m (l.take (lft l.length)) i (by omega) (by omega) (by rw [e1]; omega) a2 (fun x hx => h2 x (List.mem_cons_of_mem _ (by rw [e1] at hx; exact hx))) (by rw [e1]; exact t1)
        rw [e1] at this
        exact this
      · rw [if_neg hi] at he h2 hd ⊢
        rw [if_neg hi] at he h2
        rw [if_neg hi]
        have ht := hU _ (h2 _ List.mem_cons_self) _ a1 he
        obtain ⟨t1, t2⟩ := two_inj (by rw [p32 _ hd, dgP_len]) ht
        rw [step _ hd, t1]
        congr 1
        have := up_path hU lf path h32 m (l.drop (lft l.length)) (i - lft l.length) (by omega) (by omega) (by rw [e2]; omega) a3 (fun x hx => h2 x (List.mem_cons_of_mem _ (by rw [e2] at hx; exact hx))) (by rw [e2]; exact t2)
        rw [e2] at this
        exact this
theorem sound_n {U : List Bs} (hU : NoC U) {l : List Pr} {k v : Bs} {x c : Int} {p : List Bs} (hs : ∀ q ∈ l, short q) (hk : short (k, v)) (hl : l.length ≤ 4096) (hr : rightP p x c)
    (u1 : ∀ z ∈ rootT l [], z ∈ U) (u2 : ∀ z ∈ climbT (txLeaf (k, v)) x c p [], z ∈ U) (he : shaD (topX c.toNat (upD (txLeaf (k, v)) p x.toNat c.toNat)) = shaD (rootX l)) :
    (c = (l.length : Int) ∧ x = (x.toNat : Int) ∧ x.toNat < l.length) ∧ (k, v) = l.getD x.toNat ([], []) ∧ p = pathP l x.toNat := by
  obtain ⟨⟨c1, c2, c3, c4⟩, hd, h32⟩ := hr
  have m1 := rootT_mem l []
  have b8 : (4096 : Nat) < 256 ^ 8 := by decide
  have ht := hU _ (u2 _ List.mem_cons_self) _ (u1 _ m1.2.1) he
  have h0 : 0 < l.length := by
    rcases Nat.eq_zero_or_pos l.length with q | q
    · unfold rootX at ht
      rw [if_pos q] at ht
      have := (top_inj (by omega) (by decide) ht).1
      omega
    · exact q
  unfold rootX at ht
  rw [if_neg (by omega)] at ht
  obtain ⟨e1, e2⟩ := top_inj (by omega) (by omega) ht
  have u3 : ∀ z ∈ upT (txLeaf (k, v)) p x.toNat c.toNat [], z ∈ U := fun z hz => u2 z (List.mem_cons_of_mem _ hz)
  rw [e1] at e2 hd u3
  have hxl : x.toNat < l.length := by omega
  have hlf := up_leaf hU (txLeaf (k, v)) p h32 l.length l x.toNat (Nat.le_refl _) hxl (by omega) (fun z hz => u1 z (m1.2.2 h0 z hz)) u3 e2
  have hpt := up_path hU (txLeaf (k, v)) p h32 l.length l x.toNat (Nat.le_refl _) hxl (by omega) (fun z hz => u1 z (m1.2.2 h0 z hz)) u3 e2
  rw [← hd, List.take_length] at hpt
  refine ⟨⟨by omega, by omega, hxl⟩, leaf_inj hk (hs _ ?_) hlf, hpt⟩
  rw [List.getD_eq_getElem?_getD, List.getElem?_eq_getElem hxl]
  exact List.getElem_mem _
theorem climbT_mem (lf : Bs) (x c : Int) (p : List Bs) (T : List Bs) (z : Bs) : z ∈ climbT lf x c p T ↔ z ∈ climbT lf x c p [] ∨ z ∈ T := by
  unfold climbT
  rw [List.mem_cons, List.mem_cons, upT_mem lf p _ _ _ T (Nat.le_refl _), or_assoc]
theorem clT_old {x : Lf} {T : List Bs} {z : Bs} (h : z ∈ T) : z ∈ clT x T := by
  unfold clT
  split
  · exact (climbT_mem _ _ _ _ T z).2 (.inr h)
  · exact h
theorem clT_new {x : Lf} {T : List Bs} {z : Bs} (hr : rightP x.p x.i x.c) (h : z ∈ climbT (txLeaf (x.k, x.v)) x.i x.c x.p []) : z ∈ clT x T := by
  unfold clT
  rw [if_pos hr]
  exact (climbT_mem _ _ _ _ T z).2 (.inl h)
theorem clsT_old {z : Bs} : ∀ {L : List Lf} {T : List Bs}, z ∈ T → z ∈ clsT L T
  | [], T, h => h
  | x :: L, T, h => clsT_old (L := L) (clT_old h)
theorem clsT_new {z : Bs} {x : Lf} (hr : rightP x.p x.i x.c) (h : z ∈ climbT (txLeaf (x.k, x.v)) x.i x.c x.p []) : ∀ {L : List Lf} {T : List Bs}, x ∈ L → z ∈ clsT L T
  | [], T, q => by cases q
  | y :: L, T, q => by
    rcases List.mem_cons.1 q with q | q
    · subst q
      exact clsT_old (L := L) (clT_new hr h)
    · exact clsT_new hr h (L := L) q
theorem good_right {root : Bs} {x : Lf} (h : goodC root x = true) : rightP x.p x.i x.c ∧ shaD (topX x.c.toNat (upD (txLeaf (x.k, x.v)) x.p x.i.toNat x.c.toNat)) = root := by
  by_cases hr : rightP x.p x.i x.c
  · rw [good_yes hr] at h
    exact ⟨hr, of_decide_eq_true h⟩
  · rw [good_no hr] at h
    cases h
theorem okLf_short {x : Lf} (h : okLf x) : short (x.k, x.v) := by
  have h1 := h.k
  have h2 := h.v
  exact ⟨by show x.k.length < 256; omega, by show x.v.length < 256; omega⟩
theorem less_irr (a : Bs) : lessS a a = false := by
  have h := less_tri0 a a
  rw [show decide (a = a) = true from decide_eq_true rfl, Bool.or_true] at h
  exact h
theorem IsPlace.only {l : List Pr} {t : Bs} {k j : Nat} (h : IsPlace l t k) (hs : sortB l) (hj : j < l.length) (e : kAt l j = t) : j = k := by
  rcases Nat.lt_trichotomy j k with q | q | q
  · have := h.lo j q
    rw [e, less_irr] at this
    cases this
  · exact q
  · have h1 := h.hi k (Nat.le_refl _) (by omega)
    have h2 := sort_less hs (j - k - 1) k (by omega)
    rw [show k + (j - k - 1 + 1) = j by omega, e, h1] at h2
    cases h2
theorem good_at {U : List Bs} (hU : NoC U) {l : List Pr} {x : Lf} (hs : ∀ q ∈ l, short q) (hl : l.length ≤ 4096) (hx : okLf x) (hg : goodC (shaD (rootX l)) x = true)
    (u1 : ∀ z ∈ rootT l [], z ∈ U) (u2 : ∀ z ∈ climbT (txLeaf (x.k, x.v)) x.i x.c x.p [], z ∈ U) : ∃ j, j < l.length ∧ x = madeL l j := by
  obtain ⟨hr, he⟩ := good_right hg
  obtain ⟨⟨a1, a2, a3⟩, a4, a5⟩ := sound_n hU hs (okLf_short hx) hl hr u1 u2 he
  refine ⟨x.i.toNat, a3, ?_⟩
  obtain ⟨i, c, k, v, p⟩ := x
  obtain ⟨b1, b2⟩ := Prod.mk.inj (show (k, v) = ((l.getD i.toNat ([], [])).1, (l.getD i.toNat ([], [])).2) from a4)
  unfold madeL
  rw [Lf.mk.injEq]
  exact ⟨a2, a1, b1, b2, a5⟩
end Go.LX
end
section
set_option maxRecDepth 100000
set_option maxHeartbeats 2000000
set_option autoImplicit false
set_option linter.unusedVariables false
set_option linter.unusedSimpArgs false
namespace Go.LX
open Go.Proofs

theorem parse_fits {s : Bs} {a : Bool} {L : List Lf} (h : parseV s = ((a, L), 0)) : fitsX L ∧ bytesX a L = s := by
  rcases parseV_cases s with ⟨b, M, hf, hb, hp⟩ | hp
  · obtain ⟨q1, _⟩ := Prod.mk.inj (hp.symm.trans h)
    obtain ⟨rfl, rfl⟩ := Prod.mk.inj q1
    exact ⟨hf, hb⟩
  · have := (Prod.mk.inj (hp.symm.trans h)).2
    cases this
theorem has_sound {l : List Pr} {root s key value : Bs} {T : List Bs} {k0 : Nat} (hs : ∀ q ∈ l, short q) (hl : l.length ≤ 4096) (hroot : shaD (rootX l) = root) (hsort : sortB l) (hk : IsPlace l key k0)
    (hU : NoC (hasT s T)) (u1 : ∀ z ∈ rootT l [], z ∈ T) (h : hasP root s key value) : (k0 < l.length ∧ kAt l k0 = key) ∧ (l.getD k0 ([], [])).2 = value ∧ s = bytesX false [madeL l k0] := by
  obtain ⟨x, hp, ⟨e1, e2⟩, hg⟩ := h
  obtain ⟨hf, hb⟩ := parse_fits hp
  have hT : hasT s T = clsT [x] T := by
    unfold hasT
    rw [hp, if_pos ⟨rfl, rfl, rfl⟩]
  rw [hT] at hU
  rw [← hroot] at hg
  have hr := (good_right hg).1
  obtain ⟨j, hj, rfl⟩ := good_at hU hs hl (hf.2 x (by simp)) hg (fun z hz => clsT_old (u1 z hz)) (fun z hz => clsT_new hr hz (L := [x]) (by simp))
  have hjk : j = k0 := hk.only hsort hj e1
  subst hjk
  exact ⟨⟨hj, e1⟩, e2, hb.symm⟩
theorem one_sound {l : List Pr} {root s key value : Bs} {k0 : Nat} (hs : ∀ q ∈ l, short q) (hl : l.length ≤ 4096) (hroot : shaD (rootX l) = root) (hsort : sortB l) (hk : IsPlace l key k0)
    (hc : bcl (hasT s (rootT l [])) = false) (h : hasP root s key value) : s = bytesX false [madeL l k0] :=
  (has_sound hs hl hroot hsort hk (noc_of hc) (fun z hz => hz) h).2.2
end Go.LX
end
section
set_option maxRecDepth 100000
set_option maxHeartbeats 2000000
set_option autoImplicit false
set_option linter.unusedVariables false
set_option linter.unusedSimpArgs false
namespace Go.LX
open Go.Proofs

theorem dep_log : ∀ (d i n : Nat), n ≤ 2 ^ d → depP i n ≤ d
  | 0, i, n, h => by
    rw [depP_one (by simpa using h)]
    exact Nat.le_refl _
  | d + 1, i, n, h => by
    by_cases h1 : n ≤ 1
    · rw [depP_one h1]
      exact Nat.zero_le _
    · have hp : (2 : Nat) ^ (d + 1) = 2 * 2 ^ d := by rw [Nat.pow_succ, Nat.mul_comm]
      have hl : lft n ≤ 2 ^ d := by
        unfold lft
        refine Nat.pow_le_pow_right (by decide) ?_
        have : Nat.log2 (n - 1) < d + 1 := (Nat.log2_lt (by omega)).2 (by omega)
        omega
      have hl2 := lft_le (n := n) (by omega)
      rw [depP_two h1]
      split
      · have := dep_log d i (lft n) hl
        omega
      · have := dep_log d (i - lft n) (n - lft n) (by omega)
        omega
theorem made_ok {l : List Pr} {k : Nat} (h40 : l.length ≤ 40) (hs : ∀ p ∈ l, p.1.length ≤ 16 ∧ p.2.length ≤ 64) (hk : k < l.length) : okLf (madeL l k) := by
  have hd := path_dep l.length l k (Nat.le_refl _)
  have hm : l.getD k ([], []) ∈ l := by
    rw [List.getD_eq_getElem?_getD, List.getElem?_eq_getElem hk]
    exact List.getElem_mem _
  have hp := hs _ hm
  have hdl := dep_log 6 k l.length (by omega)
  exact ⟨by show 0 ≤ (k : Int) ∧ (k : Int) ≤ 4096; omega, by show 0 ≤ (l.length : Int) ∧ (l.length : Int) ≤ 4096; omega, hp.1, hp.2, by show (pathP l k).length ≤ 16; rw [hd.1]; omega, hd.2⟩
theorem made_good {l : List Pr} {k : Nat} (h40 : l.length ≤ 40) (hk : k < l.length) : goodC (shaD (rootX l)) (madeL l k) = true := by
  have h := back_right h40 hk
  have e : txLeaf ((madeL l k).k, (madeL l k).v) = txLeaf (l.getD k ([], [])) := rfl
  unfold goodC
  rw [e]
  show ((climbP (txLeaf (l.getD k ([], []))) (k : Int) (l.length : Int) (pathP l k)).2 && _) = true
  rw [h]
  simp
  exact congrArg Prod.fst h
def lawOne9S : Spec := fun args H Q => match args, H with
  | [.sl 2 n cs f, .str key, .str s], [] => ∃ l : List Pr, n = l.length ∧ cs = flP l ∧ l.length ≤ 9223372036854775807 ∧ Q (.bool true) []
  | _, _ => False
open Classical in
theorem one9_law {y0 : CV} {cs0 : List CV} (hK : KAt y0 cs0) : Meets Tryz.prog [(0, y0 :: cs0)] 5 lawOne9S := by
  refine meets_of Γok Tryz.func5 rfl ?_
  intro args H Q h
  unfold lawOne9S at h
  split at h
  case h_2 => exact h.elim
  rename_i n cs f key s
  obtain ⟨l, rfl, rfl, hl, h⟩ := h
  by_cases hf : l.length ≤ 40 ∧ chkV l = 0
  case neg =>
    (refine sx_sound Γok _ ?_; conv => whnf)
    (repeat (first | (exact Out.same; conv => whnf) | (exact Out1.same; conv => whnf) | (refine QAnd.mk ?_ ?_; conv => whnf) | (apply QStepH.go; conv => whnf) | (refine Both.lit_true ?_; conv => whnf) | (refine Both.lit_false ?_; conv => whnf) | (apply QStep.go; conv => whnf) | (refine Need.au ?_; conv => whnf) | (refine ⟨_, rfl, ?_⟩; conv => whnf) | (refine CallVC.auto (awake9_k hK) ?_; conv => whnf)))
    refine CallVC.auto few9_k.gl ⟨l, rfl, rfl, hl, ?_⟩
    rw [show decide (l.length ≤ 40 ∧ chkV l = 0) = false from decide_eq_false hf]
    (conv => whnf)
    (repeat (first | (exact Out.same; conv => whnf) | (exact Out1.same; conv => whnf) | (refine QAnd.mk ?_ ?_; conv => whnf) | (apply QStepH.go; conv => whnf) | (refine Both.lit_true ?_; conv => whnf) | (refine Both.lit_false ?_; conv => whnf) | (apply QStep.go; conv => whnf) | (refine Need.au ?_; conv => whnf) | (refine ⟨_, rfl, ?_⟩; conv => whnf)))
    exact ⟨_, _, WeakV.drop rfl, h⟩
  have hsort := chk_sort hf.2
  have hsm := (chk_short hf.2).2
  have h60 : l.length < 60000 := by omega
  have hok : ∀ p ∈ l, okP p := fun p hp => by
    have := hsm p hp
    exact ⟨by omega, by omega⟩
  have hs1 : ∀ p ∈ l, short p := fun p hp => by
    have := hsm p hp
    exact ⟨by omega, by omega⟩
  (refine sx_sound Γok _ ?_; conv => whnf)
  (repeat (first | (exact Out.same; conv => whnf) | (exact Out1.same; conv => whnf) | (refine QAnd.mk ?_ ?_; conv => whnf) | (apply QStepH.go; conv => whnf) | (refine Both.lit_true ?_; conv => whnf) | (refine Both.lit_false ?_; conv => whnf) | (apply QStep.go; conv => whnf) | (refine Need.au ?_; conv => whnf) | (refine ⟨_, rfl, ?_⟩; conv => whnf) | (refine CallVC.auto (awake9_k hK) ?_; conv => whnf)))
  refine CallVC.auto few9_k.gl ⟨l, rfl, rfl, hl, ?_⟩
  rw [show decide (l.length ≤ 40 ∧ chkV l = 0) = true from decide_eq_true hf]
  (conv => whnf)
  (repeat (first | (exact Out.same; conv => whnf) | (exact Out1.same; conv => whnf) | (refine QAnd.mk ?_ ?_; conv => whnf) | (apply QStepH.go; conv => whnf) | (refine Both.lit_true ?_; conv => whnf) | (refine Both.lit_false ?_; conv => whnf) | (apply QStep.go; conv => whnf) | (refine Need.au ?_; conv => whnf) | (refine ⟨_, rfl, ?_⟩; conv => whnf)))
  refine Both.dec (fun h1 => ?_) (fun h1 => ?_)
  · (conv => whnf)
    (repeat (first | (exact Out.same; conv => whnf) | (exact Out1.same; conv => whnf) | (refine QAnd.mk ?_ ?_; conv => whnf) | (apply QStepH.go; conv => whnf) | (refine Both.lit_true ?_; conv => whnf) | (refine Both.lit_false ?_; conv => whnf) | (apply QStep.go; conv => whnf) | (refine Need.au ?_; conv => whnf) | (refine ⟨_, rfl, ?_⟩; conv => whnf)))
    exact ⟨_, _, WeakV.drop rfl, h⟩
  (conv => whnf)
  (repeat (first | (exact Out.same; conv => whnf) | (exact Out1.same; conv => whnf) | (refine QAnd.mk ?_ ?_; conv => whnf) | (apply QStepH.go; conv => whnf) | (refine Both.lit_true ?_; conv => whnf) | (refine Both.lit_false ?_; conv => whnf) | (apply QStep.go; conv => whnf) | (refine Need.au ?_; conv => whnf) | (refine ⟨_, rfl, ?_⟩; conv => whnf)))
  refine Both.dec (fun h2 => ?_) (fun h2 => ?_)
  · (conv => whnf)
    (repeat (first | (exact Out.same; conv => whnf) | (exact Out1.same; conv => whnf) | (refine QAnd.mk ?_ ?_; conv => whnf) | (apply QStepH.go; conv => whnf) | (refine Both.lit_true ?_; conv => whnf) | (refine Both.lit_false ?_; conv => whnf) | (apply QStep.go; conv => whnf) | (refine Need.au ?_; conv => whnf) | (refine ⟨_, rfl, ?_⟩; conv => whnf)))
    exact ⟨_, _, WeakV.drop rfl, h⟩
  have hslen : s.length < 1000000 := by omega
  obtain ⟨k, hk⟩ := place_ex hsort key
  (conv => whnf)
  (repeat (first | (exact Out.same; conv => whnf) | (exact Out1.same; conv => whnf) | (refine QAnd.mk ?_ ?_; conv => whnf) | (apply QStepH.go; conv => whnf) | (refine Both.lit_true ?_; conv => whnf) | (refine Both.lit_false ?_; conv => whnf) | (apply QStep.go; conv => whnf) | (refine Need.au ?_; conv => whnf) | (refine ⟨_, rfl, ?_⟩; conv => whnf)))
  by_cases hc : k < l.length ∧ kAt l k = key
  case neg =>
    refine CallVC.auto (mpres_k hK) ⟨l, rfl, rfl, h60, hok, hsort, fun k1 L1 f1 hk1 he1 => ?_⟩
    have q1 := hk1.eq hk
    subst q1
    obtain ⟨u1, u2⟩ := Prod.mk.inj (he1.trans (if_neg hc))
    clear he1
    subst u1 u2
    (conv => whnf)
    (repeat (first | (exact Out.same; conv => whnf) | (exact Out1.same; conv => whnf) | (refine QAnd.mk ?_ ?_; conv => whnf) | (apply QStepH.go; conv => whnf) | (refine Both.lit_true ?_; conv => whnf) | (refine Both.lit_false ?_; conv => whnf) | (apply QStep.go; conv => whnf) | (refine Need.au ?_; conv => whnf) | (refine ⟨_, rfl, ?_⟩; conv => whnf)))
    exact ⟨_, _, WeakV.drop rfl, h⟩
  have hfit : fitsX [madeL l k] := ⟨by show 1 ≤ 2; decide, fun x hx => by rw [List.mem_singleton.1 hx]; exact made_ok hf.1 hsm hc.1⟩
  refine CallVC.auto (mpres_k hK) ⟨l, rfl, rfl, h60, hok, hsort, fun k2 L1 f1 hk1 he1 => ?_⟩
  have q1 := hk1.eq hk
  subst q1
  obtain ⟨u1, u2⟩ := Prod.mk.inj (he1.trans (if_pos hc))
  clear he1
  subst u1 u2
  have hbv : bytesV false [madeL l k2] = (bytesX false [madeL l k2], 0) := by unfold bytesV; rw [if_pos hfit]
  (conv => whnf)
  (repeat (first | (exact Out.same; conv => whnf) | (exact Out1.same; conv => whnf) | (refine QAnd.mk ?_ ?_; conv => whnf) | (apply QStepH.go; conv => whnf) | (refine Both.lit_true ?_; conv => whnf) | (refine Both.lit_false ?_; conv => whnf) | (apply QStep.go; conv => whnf) | (refine Need.au ?_; conv => whnf) | (refine ⟨_, rfl, ?_⟩; conv => whnf)))
  refine CallVC.auto pbytes_k.gl ⟨[madeL l k2], rfl, rfl, (fits_sm hfit).1, (fits_sm hfit).2.2, fun s3 g3 he3 => ?_⟩
  obtain ⟨u1, u2⟩ := Prod.mk.inj (he3.trans hbv)
  clear he3
  subst u1 u2
  have hix : ti50.size = 5 ∧ (0 : Int) ≤ 0 ∧ (0 : Int) < ((([madeL l k2] : List Lf).length : Nat) : Int) := ⟨rfl, by omega, by simp⟩
  have hat : ((flL [madeL l k2]).drop ((0 : Int).toNat * 5)).take 5 = [CV.int .i64 (madeL l k2).i, .int .i64 (madeL l k2).c, .str (madeL l k2).k, .str (madeL l k2).v, .sl 1 (madeL l k2).p.length (strs (madeL l k2).p) false] := rfl
  have hpv : parseV (bytesX false [madeL l k2]) = ((false, [madeL l k2]), 0) := parseV_yes hfit rfl
  obtain ⟨root, hroot⟩ : ∃ r, shaD (rootX l) = r := ⟨_, rfl⟩
  have hyes : s = bytesX false [madeL l k2] → hasP root s key (madeL l k2).v := fun e => by
    rw [e]
    exact ⟨madeL l k2, hpv, ⟨hc.2, rfl⟩, by rw [← hroot]; exact made_good hf.1 hc.1⟩
  have hcl : hasP root s key (madeL l k2).v → ¬ s = bytesX false [madeL l k2] → bcl (hasT s (rootT l [])) = true := fun e1 e2 => by
    cases hb : bcl (hasT s (rootT l [])) with
    | true => rfl
    | false => exact absurd (one_sound hs1 (by omega) hroot hsort hk1 hb e1) e2
  have cl1 : decide (((([madeL l k2] : List Lf).length : Nat) : Int) = 1) = true := rfl
  (conv => whnf)
  (repeat (first | (exact Out.same; conv => whnf) | (exact Out1.same; conv => whnf) | (refine QAnd.mk ?_ ?_; conv => whnf) | (apply QStepH.go; conv => whnf) | (refine Both.lit_true ?_; conv => whnf) | (refine Both.lit_false ?_; conv => whnf) | (apply QStep.go; conv => whnf) | (refine Need.au ?_; conv => whnf) | (refine ⟨_, rfl, ?_⟩; conv => whnf)))
  refine CallVC.auto (mroot_k hK) ⟨l, rfl, rfl, h60, hok, ?_⟩
  rw [hroot]
  generalize hmade : bytesX false [madeL l k2] = made at hyes hcl ⊢
  (conv => whnf)
  (repeat (first | (refine Need.mk hix ?_; conv => whnf) | (refine ⟨_, hat, ?_⟩; conv => whnf) | (exact Out.same; conv => whnf) | (exact Out1.same; conv => whnf) | (refine QAnd.mk ?_ ?_; conv => whnf) | (apply QStepH.go; conv => whnf) | (refine Both.lit_true ?_; conv => whnf) | (refine Both.lit_false ?_; conv => whnf) | (apply QStep.go; conv => whnf) | (refine Need.au ?_; conv => whnf) | (refine ⟨_, rfl, ?_⟩; conv => whnf)))
  refine CallVC.auto (has_k hK) ⟨hslen, ?_⟩
  by_cases e1 : hasP root s key (madeL l k2).v
  · by_cases e2 : s = made
    · rw [decide_eq_true e1]
      have cq : (true == decide (s = made)) = true := by rw [decide_eq_true e2]; rfl
      (conv => whnf)
      (repeat (first | (refine Both.of_true cq ?_; conv => whnf) | (exact Out.same; conv => whnf) | (exact Out1.same; conv => whnf) | (refine QAnd.mk ?_ ?_; conv => whnf) | (apply QStepH.go; conv => whnf) | (refine Both.lit_true ?_; conv => whnf) | (refine Both.lit_false ?_; conv => whnf) | (apply QStep.go; conv => whnf) | (refine Need.au ?_; conv => whnf) | (refine ⟨_, rfl, ?_⟩; conv => whnf)))
      exact ⟨_, _, WeakV.drop rfl, h⟩
    · have hcl := hcl e1 e2
      rw [decide_eq_true e1]
      have cq : (true == decide (s = made)) = false := by rw [decide_eq_false e2]; rfl
      have cn : (!decide (s = made)) = true := by rw [decide_eq_false e2]; rfl
      (conv => whnf)
      (repeat (first | (refine Both.of_false cq ?_; conv => whnf) | (exact Out.same; conv => whnf) | (exact Out1.same; conv => whnf) | (refine QAnd.mk ?_ ?_; conv => whnf) | (apply QStepH.go; conv => whnf) | (refine Both.lit_true ?_; conv => whnf) | (refine Both.lit_false ?_; conv => whnf) | (apply QStep.go; conv => whnf) | (refine Need.au ?_; conv => whnf) | (refine ⟨_, rfl, ?_⟩; conv => whnf) | (refine CallVC.auto newb_k.gl ?_; conv => whnf)))
      refine CallVC.auto (rroot_k.gl (G := [(0, y0 :: cs0)])) (inB_mk (T := []) ⟨l, rfl, rfl, h60, hok, ?_⟩)
      generalize rootT l [] = T0 at hcl ⊢
      (conv => whnf)
      (repeat (first | (exact Out.same; conv => whnf) | (exact Out1.same; conv => whnf) | (refine QAnd.mk ?_ ?_; conv => whnf) | (apply QStepH.go; conv => whnf) | (refine Both.lit_true ?_; conv => whnf) | (refine Both.lit_false ?_; conv => whnf) | (apply QStep.go; conv => whnf) | (refine Need.au ?_; conv => whnf) | (refine ⟨_, rfl, ?_⟩; conv => whnf)))
      refine CallVC.auto (rhas_k.gl (G := [(0, y0 :: cs0)])) (inB_mk (T := T0) ⟨hslen, ?_⟩)
      generalize hasT s T0 = T1 at hcl ⊢
      (conv => whnf)
      (repeat (first | (refine Both.of_true cn ?_; conv => whnf) | (exact Out.same; conv => whnf) | (exact Out1.same; conv => whnf) | (refine QAnd.mk ?_ ?_; conv => whnf) | (apply QStepH.go; conv => whnf) | (refine Both.lit_true ?_; conv => whnf) | (refine Both.lit_false ?_; conv => whnf) | (apply QStep.go; conv => whnf) | (refine Need.au ?_; conv => whnf) | (refine ⟨_, rfl, ?_⟩; conv => whnf)))
      exact ⟨_, _, WeakV.drop (congrArg SV.bool hcl), h⟩
  · have e2 : ¬ s = made := fun q => e1 (hyes q)
    rw [decide_eq_false e1]
    have cq : (false == decide (s = made)) = true := by rw [decide_eq_false e2]; rfl
    (conv => whnf)
    (repeat (first | (refine Both.of_true cq ?_; conv => whnf) | (exact Out.same; conv => whnf) | (exact Out1.same; conv => whnf) | (refine QAnd.mk ?_ ?_; conv => whnf) | (apply QStepH.go; conv => whnf) | (refine Both.lit_true ?_; conv => whnf) | (refine Both.lit_false ?_; conv => whnf) | (apply QStep.go; conv => whnf) | (refine Need.au ?_; conv => whnf) | (refine ⟨_, rfl, ?_⟩; conv => whnf)))
    exact ⟨_, _, WeakV.drop rfl, h⟩
end Go.LX
end
section
set_option maxRecDepth 100000
set_option maxHeartbeats 4000000
set_option autoImplicit false
set_option linter.unusedVariables false
set_option linter.unusedSimpArgs false
namespace Go.LX
open Go.Proofs Go.Proofs.YtfnpemikicofaaaGreatDoor Go.RowKit Go.ChangeShapes Go.WideShapes Go.ChangeAt

theorem law_runG {P : Program} {G : Gl} {f : FuncId} {S : Spec} (hM : Meets P G f S) {svs : List SV} {vs : List Value} {W : World} (hv : VRs (E0 W) W svs vs) (hg : GlOk (E0 W) W G) (hS : S svs [] fun r _ => r = .bool true) :
    Calls P f vs.toArray W fun e W' => e = .returned (.bool true) ∧ Below W.heap.size W W' := by
  refine (hM svs [] _ hS (E0 W) W vs hv (rel0 W) hg).mono ?_
  rintro e W' ⟨v, r, H', E', rfl, rfl, hv, _, hst, _⟩
  cases hv
  exact ⟨rfl, hst.os, hst.tape, hst.output, hst.size, fun k hk => hst.keep k hk (fun ⟨i, o, h, _⟩ => by simp at h)⟩
def kzs : List Int := kT.map fun x => u32 x
def kG : Gl := [(0, CV.int .u32 (u32 0x428a2f98#32) :: (kT.tail.map fun x => CV.int .u32 (u32 x)))]
theorem kG_at : KAt (CV.int .u32 (u32 0x428a2f98#32)) (kT.tail.map fun x => CV.int .u32 (u32 x)) := fun t ht => k_at ht
abbrev laidK : List (String × DataW Unit) := [("carrack/sha.k", Rows.laid_carrack_sha_k)]
theorem laidK_eq : laidK = [("carrack/sha.k", Lib.tabData .u32 kzs)] := by kernel_rfl
theorem gK : Tryz.prog.globalNamed "carrack/sha.k" = some 0 := by kernel_rfl
theorem tK : (Tryz.prog.globals[0]?).map (·.type) = some 165 := by kernel_rfl
theorem gl_of_laid {W : World} (h : laidMetH Tryz.prog laidK W) : GlOk (E0 W) W kG := by
  rw [MakeChecks.laidMetH_plain _ _ _ (by kernel_rfl), laidK_eq] at h
  have hT := Lib.tabIs_of_head gK tK Tryz.underlying165 Tryz.underlying82 (by kernel_rfl) (by kernel_rfl) h
  have hc := fun i hi => hT.cell gK i hi
  refine ⟨fun g cs hm => ?_⟩
  have hm : (g, cs) = (0, CV.int .u32 (u32 0x428a2f98#32) :: (kT.tail.map fun x => CV.int .u32 (u32 x))) := List.mem_singleton.1 hm
  cases hm
  have hcs : (CV.int .u32 (u32 0x428a2f98#32) :: (kT.tail.map fun x => CV.int .u32 (u32 x))) = kzs.map fun z => CV.int .u32 z := by
    rw [kzs, List.map_map]
    rfl
  refine ⟨?_, kzs.map fun z => Value.int .u32 z, ?_, fun j v hj => ?_⟩
  · have h0 := hc 0 (by decide)
    show 0 < W.heap.size
    by_cases hz : 0 < W.heap.size
    · exact hz
    · exfalso
      have hn : W.heap[0]? = none := Array.getElem?_eq_none (by omega)
      unfold World.cell? at h0
      rw [hn] at h0
      cases h0
  · rw [hcs]
    refine ⟨by rw [List.length_map, List.length_map], fun j x v hx hv => ?_⟩
    rw [List.getElem?_map, Option.map_eq_some_iff] at hx hv
    obtain ⟨z, hz, rfl⟩ := hx
    obtain ⟨z', hz', rfl⟩ := hv
    cases hz.symm.trans hz'
    exact .int _ _
  · rw [List.getElem?_map, Option.map_eq_some_iff] at hj
    obtain ⟨z, hz, rfl⟩ := hj
    have hlt : j < kzs.length := by
      rcases Nat.lt_or_ge j kzs.length with h1 | h1
      · exact h1
      · rw [List.getElem?_eq_none h1] at hz; cases hz
    have := hc j hlt
    rw [List.getD_eq_getElem?_getD, hz] at this
    exact this
theorem doorK_met (os : Os) (args : Array Value) : laidMetH Tryz.prog laidK ((World.doorLaid Tryz.prog 400 os).forCall (fun _ _ => 0) ⟨#[], args, []⟩).memory :=
  laidMetH_of_parts3 (fuel := 8) (laidMet_of_run' 8 (by kernel_rfl) (by kernel_rfl)) (by kernel_rfl) (by kernel_rfl)
end Go.LX
end
