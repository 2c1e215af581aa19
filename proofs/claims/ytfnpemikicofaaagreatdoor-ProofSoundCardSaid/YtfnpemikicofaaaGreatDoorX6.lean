/- Own texts of this claim, in build order: Ql, Wq, Wd, Qm, Qn, Po, Qo, Qp, Qq, Qs, Qt, Qv, Qw, Qx, Qy, Rk. -/
import Derived.Test.YtfnpemikicofaaaGreatDoorX5
import Derived.Test.YtfnpemikicofaaaGreatDoorRows
import Derived.Lib.LaidTab
import Derived.MakeChecks
import Derived.LaidMore
section
set_option maxRecDepth 100000
set_option maxHeartbeats 2000000
set_option autoImplicit false
set_option linter.unusedVariables false
set_option linter.unusedSimpArgs false
namespace Go.LX
open Go.Proofs

theorem leafF_len (e : Int) (s : Bs) : (leafF e s).2.2.length ≤ s.length := by
  unfold leafF
  dsimp only
  have l1 := smallF_len e s
  have l2 := smallF_len (smallF e s).2.1 (smallF e s).2.2
  have l3 := textF_len (smallF (smallF e s).2.1 (smallF e s).2.2).2.1 (smallF (smallF e s).2.1 (smallF e s).2.2).2.2
  have l4 := textF_len (textF (smallF (smallF e s).2.1 (smallF e s).2.2).2.1 (smallF (smallF e s).2.1 (smallF e s).2.2).2.2).2.1 (textF (smallF (smallF e s).2.1 (smallF e s).2.2).2.1 (smallF (smallF e s).2.1 (smallF e s).2.2).2.2).2.2
  refine Nat.le_trans (pathF_len _ _ _ _).1 ?_
  refine Nat.le_trans (byteF_len _ _) ?_
  omega
theorem parse_parts {a : Bool} {L : List Lf} {s : Bs} {A B : Nat × Int × Bs} (hA : byteF 0 s = A) (hB : byteF A.2.1 A.2.2 = B) (hf : fitsX L) (h : bytesX a L = s) : A.1 = (if a then 2 else 1) ∧ B = (L.length, 0, (L.map putL).flatten) := by
  have h1 := (parts_iff hf).1 h
  have l1 := hf.1
  obtain rfl := hA.symm.trans h1
  refine ⟨rfl, ?_⟩
  rw [← hB]
  exact (byte_iff (e := 0) (s := beb L.length 1 ++ (L.map putL).flatten) (s1 := (L.map putL).flatten) (v := L.length)).2 ⟨rfl, by omega, rfl⟩
theorem parse_bad1 {s : Bs} {A B : Nat × Int × Bs} (hA : byteF 0 s = A) (hB : byteF A.2.1 A.2.2 = B) (h : A.1 < 1 ∨ 2 < A.1 ∨ 2 < B.1) : parseV s = ((false, []), 5) := parseV_no fun ⟨r, hf, hr⟩ => by
  obtain ⟨q1, q2⟩ := parse_parts hA hB hf hr
  have l1 := hf.1
  rw [q2] at h
  have h : A.1 < 1 ∨ 2 < A.1 ∨ 2 < r.2.length := h
  cases hr1 : r.1 <;> rw [hr1] at q1 <;> simp at q1 <;> omega
theorem parse_bad2 {s : Bs} {A B : Nat × Int × Bs} {R : List Lf × Int × Bs} (hA : byteF 0 s = A) (hB : byteF A.2.1 A.2.2 = B) (hR : leavesF B.1 B.2.1 B.2.2 [] = R) (h : rdEnd R.2.1 R.2.2 ≠ 0) : parseV s = ((false, []), 5) := parseV_no fun ⟨r, hf, hr⟩ => by
  obtain ⟨q1, q2⟩ := parse_parts hA hB hf hr
  subst q2
  have := (leaves_iff r.2.length 0 ((r.2.map putL).flatten) [] r.2 []).2 ⟨rfl, r.2, rfl, rfl, hf.2, (List.append_nil _).symm⟩
  obtain rfl := hR.symm.trans this
  exact h (end_iff.2 ⟨rfl, rfl⟩)
theorem parse_ok {s : Bs} {A B : Nat × Int × Bs} {R : List Lf × Int × Bs} (hA : byteF 0 s = A) (hB : byteF A.2.1 A.2.2 = B) (hR : leavesF B.1 B.2.1 B.2.2 [] = R) (h1 : 1 ≤ A.1) (h2 : A.1 ≤ 2) (h3 : B.1 ≤ 2) (h : rdEnd R.2.1 R.2.2 = 0) : parseV s = ((decide ((A.1 : Int) = 2), R.1), 0) := by
  obtain ⟨e1, e2⟩ := end_iff.1 h
  have hR2 : leavesF B.1 B.2.1 B.2.2 [] = (R.1, 0, []) := by rw [hR, ← e2]; exact trip e1
  obtain ⟨b0, L, hL, hLl, hok, hs⟩ := (leaves_iff _ _ _ _ _ _).1 hR2
  obtain ⟨a0, bl, az⟩ := byte_iff.1 (hB.trans (trip b0))
  obtain ⟨_, al, ss⟩ := byte_iff.1 (hA.trans (trip a0))
  rw [List.nil_append] at hL
  rw [List.append_nil] at hs
  refine parseV_yes ⟨by rw [hL, hLl]; exact h3, by rw [hL]; exact hok⟩ ?_
  rw [ss, az, hs, hL]
  unfold bytesX
  rw [hLl]
  rcases (show A.1 = 1 ∨ A.1 = 2 by omega) with q | q
  · rw [q]
    rfl
  · rw [q]
    rfl
def pparseS : Spec := fun args H Q => match args, H with
  | [.str s], [] => s.length < 1000000 ∧ ∀ a L e, parseV s = ((a, L), e) → Q (.tuple [prSV a L, .int .i64 e]) []
  | _, _ => False
theorem pparse_c : Meets Tryz.prog [] 19 pparseS := by
  refine meets_of Γok Tryz.func19 rfl ?_
  intro args H Q h
  unfold pparseS at h
  split at h
  case h_2 => exact h.elim
  rename_i s
  obtain ⟨hs, h⟩ := h
  have l1 := byteF_len 0 s
  have hA0 := rdV_lt1 0 s
  obtain ⟨A, hA⟩ : ∃ A, byteF 0 s = A := ⟨_, rfl⟩
  have hA1 : A.1 < 256 := by rw [← hA]; exact hA0
  rw [hA] at l1
  have l2 := byteF_len A.2.1 A.2.2
  have hB0 := rdV_lt1 A.2.1 A.2.2
  obtain ⟨B, hB⟩ : ∃ B, byteF A.2.1 A.2.2 = B := ⟨_, rfl⟩
  have hB1 : B.1 < 256 := by rw [← hB]; exact hB0
  rw [hB] at l2
  obtain ⟨R, hR⟩ : ∃ R, leavesF B.1 B.2.1 B.2.2 [] = R := ⟨_, rfl⟩
  have s1 : A.2.2.length < 1000000 := by omega
  have s2 : B.2.2.length < 1000000 := by omega
  (refine sx_sound Γok _ ?_; conv => whnf)
  (repeat (first | (exact Out.same; conv => whnf) | (exact Out1.same; conv => whnf) | (refine QAnd.mk ?_ ?_; conv => whnf) | (apply QStepH.go; conv => whnf) | (refine Both.lit_true ?_; conv => whnf) | (refine Both.lit_false ?_; conv => whnf) | (apply QStep.go; conv => whnf) | (refine Need.au ?_; conv => whnf) | (refine ⟨_, rfl, ?_⟩; conv => whnf)))
  refine CallVC.auto rnew_k ?_
  (conv => whnf)
  (repeat (first | (exact Out.same; conv => whnf) | (exact Out1.same; conv => whnf) | (refine QAnd.mk ?_ ?_; conv => whnf) | (apply QStepH.go; conv => whnf) | (refine Both.lit_true ?_; conv => whnf) | (refine Both.lit_false ?_; conv => whnf) | (apply QStep.go; conv => whnf) | (refine Need.au ?_; conv => whnf) | (refine ⟨_, rfl, ?_⟩; conv => whnf)))
  refine CallVC.auto rbyteF_k ⟨hs, ?_⟩
  rw [hA]
  (conv => whnf)
  (repeat (first | (exact Out.same; conv => whnf) | (exact Out1.same; conv => whnf) | (refine QAnd.mk ?_ ?_; conv => whnf) | (apply QStepH.go; conv => whnf) | (refine Both.lit_true ?_; conv => whnf) | (refine Both.lit_false ?_; conv => whnf) | (apply QStep.go; conv => whnf) | (refine Need.au ?_; conv => whnf) | (refine ⟨_, rfl, ?_⟩; conv => whnf)))
  refine CallVC.auto rbyteF_k ⟨s1, ?_⟩
  rw [hB]
  (conv => whnf)
  (repeat (first | (exact Out.same; conv => whnf) | (exact Out1.same; conv => whnf) | (refine QAnd.mk ?_ ?_; conv => whnf) | (apply QStepH.go; conv => whnf) | (refine Both.lit_true ?_; conv => whnf) | (refine Both.lit_false ?_; conv => whnf) | (apply QStep.go; conv => whnf) | (refine Need.au ?_; conv => whnf) | (refine ⟨_, rfl, ?_⟩; conv => whnf)))
  refine Both.dec (fun h1 => ?_) (fun h1 => ?_)
  · have h := h _ _ _ (parse_bad1 hA hB (.inl (by omega)))
    (conv => whnf)
    (repeat (first | (exact Out.same; conv => whnf) | (exact Out1.same; conv => whnf) | (refine QAnd.mk ?_ ?_; conv => whnf) | (apply QStepH.go; conv => whnf) | (refine Both.lit_true ?_; conv => whnf) | (refine Both.lit_false ?_; conv => whnf) | (apply QStep.go; conv => whnf) | (refine Need.au ?_; conv => whnf) | (refine ⟨_, rfl, ?_⟩; conv => whnf)))
    exact ⟨_, _, (WeakV.drop rfl).trans (WeakV.val fun E w v => vr_nil2 5), h⟩
  (conv => whnf)
  (repeat (first | (exact Out.same; conv => whnf) | (exact Out1.same; conv => whnf) | (refine QAnd.mk ?_ ?_; conv => whnf) | (apply QStepH.go; conv => whnf) | (refine Both.lit_true ?_; conv => whnf) | (refine Both.lit_false ?_; conv => whnf) | (apply QStep.go; conv => whnf) | (refine Need.au ?_; conv => whnf) | (refine ⟨_, rfl, ?_⟩; conv => whnf)))
  refine Both.dec (fun h2 => ?_) (fun h2 => ?_)
  · have h := h _ _ _ (parse_bad1 hA hB (.inr (.inl (by omega))))
    (conv => whnf)
    (repeat (first | (exact Out.same; conv => whnf) | (exact Out1.same; conv => whnf) | (refine QAnd.mk ?_ ?_; conv => whnf) | (apply QStepH.go; conv => whnf) | (refine Both.lit_true ?_; conv => whnf) | (refine Both.lit_false ?_; conv => whnf) | (apply QStep.go; conv => whnf) | (refine Need.au ?_; conv => whnf) | (refine ⟨_, rfl, ?_⟩; conv => whnf)))
    exact ⟨_, _, (WeakV.drop rfl).trans (WeakV.val fun E w v => vr_nil2 5), h⟩
  (conv => whnf)
  (repeat (first | (exact Out.same; conv => whnf) | (exact Out1.same; conv => whnf) | (refine QAnd.mk ?_ ?_; conv => whnf) | (apply QStepH.go; conv => whnf) | (refine Both.lit_true ?_; conv => whnf) | (refine Both.lit_false ?_; conv => whnf) | (apply QStep.go; conv => whnf) | (refine Need.au ?_; conv => whnf) | (refine ⟨_, rfl, ?_⟩; conv => whnf)))
  refine Both.dec (fun h3 => ?_) (fun h3 => ?_)
  · have h := h _ _ _ (parse_bad1 hA hB (.inr (.inr (by omega))))
    (conv => whnf)
    (repeat (first | (exact Out.same; conv => whnf) | (exact Out1.same; conv => whnf) | (refine QAnd.mk ?_ ?_; conv => whnf) | (apply QStepH.go; conv => whnf) | (refine Both.lit_true ?_; conv => whnf) | (refine Both.lit_false ?_; conv => whnf) | (apply QStep.go; conv => whnf) | (refine Need.au ?_; conv => whnf) | (refine ⟨_, rfl, ?_⟩; conv => whnf)))
    exact ⟨_, _, (WeakV.drop rfl).trans (WeakV.val fun E w v => vr_nil2 5), h⟩
  (conv => whnf)
  (repeat (first | (exact Out.same; conv => whnf) | (exact Out1.same; conv => whnf) | (refine QAnd.mk ?_ ?_; conv => whnf) | (apply QStepH.go; conv => whnf) | (refine Both.lit_true ?_; conv => whnf) | (refine Both.lit_false ?_; conv => whnf) | (apply QStep.go; conv => whnf) | (refine Need.au ?_; conv => whnf) | (refine ⟨_, rfl, ?_⟩; conv => whnf)))
  refine LoopVC.postWeak ?_
  refine loop_rule (fun x : Nat × Int × Bs × List Lf => match x with | (k, e, t, acc) => ⟨[.any, .any, .ptr 0 0, .any, .ptr 1 0, .any, .any, .ptr 2 0, .any, .any, .any, .any, .any, .any, .any, .any, .any, .any, .any, .any, .any, .any, .any, .any, .any, .any, .any, .any, .int .i64 (B.1 : Int), .int .i64 (k : Int), .any, .any, .any, .any, .any, .any, .any, .any, .any, .any, .any, .any, .any, .any], [.cells [.bool false, .nilsl] 42, .cells [.int .i64 e, .str t] 129, .cells [.bool (decide ((A.1 : Int) = 2)), .own 3] 42, .own 50 5 acc.length (flL acc) true]⟩) (fun x => match x with | (k, e, t, acc) => leavesF (B.1 - k) e t acc = R ∧ t.length < 1000000 ∧ acc.length = k ∧ k ≤ B.1) (fun x => match x with | (k, e, t, acc) => B.1 - k) (0, B.2.1, B.2.2, []) ⟨hR, s2, rfl, Nat.zero_le _⟩ ((Weak.ownNil 2 1 50 5 rfl rfl).trans (Weak.auto ?_)) ?_
  · (repeat' ((conv => whnf); first | exact True.intro | (refine And.intro ?_ ?_)))
    all_goals first | rfl | exact .eq rfl
  rintro ⟨k, e, t, acc⟩ ⟨hI, ht, hak, hkB⟩
  (refine sx_sound Γok _ ?_; conv => whnf)
  (repeat (first | (exact Out.same; conv => whnf) | (exact Out1.same; conv => whnf) | (refine QAnd.mk ?_ ?_; conv => whnf) | (apply QStepH.go; conv => whnf) | (refine Both.lit_true ?_; conv => whnf) | (refine Both.lit_false ?_; conv => whnf) | (apply QStep.go; conv => whnf) | (refine Need.au ?_; conv => whnf) | (refine ⟨_, rfl, ?_⟩; conv => whnf)))
  refine Both.dec (fun h4 => ?_) (fun h4 => ?_)
  · have hk1 : IntKind.i64.wrap ((k : Int) + 1) = ((k + 1 : Nat) : Int) := by rw [wrap_i64 (by omega) (by omega)]; rfl
    have hcap : (acc.length + 1) * ti50.bytes ≤ 140737488355328 := by
      show (acc.length + 1) * 72 ≤ _
      omega
    rw [show B.1 - k = (B.1 - (k + 1)) + 1 by omega, leavesF] at hI
    have hA2 : (leafF e t).2.2.length < 1000000 := Nat.lt_of_le_of_lt (leafF_len e t) ht
    have hB2 : (acc ++ [(leafF e t).1]).length = k + 1 := by rw [List.length_append, List.length_singleton, hak]
    have hC2 : k + 1 ≤ B.1 := by omega
    have hD2 : B.1 - (k + 1) < B.1 - k := by omega
    have end1 : LObj.own 50 5 (acc.length + 1) (flL acc ++ [.int .i64 (leafF e t).1.i, .int .i64 (leafF e t).1.c, .str (leafF e t).1.k, .str (leafF e t).1.v, .sl 1 (leafF e t).1.p.length (strs (leafF e t).1.p) false]) true = .own 50 5 (acc ++ [(leafF e t).1]).length (flL (acc ++ [(leafF e t).1])) true := by
      rw [flL_app, flL_one, List.length_append]
      rfl
    (conv => whnf)
    (refine DrawVC.any Γok (by kernel_rfl) (by kernel_rfl) (by kernel_rfl) (by rfl) ?_; conv => whnf)
    (repeat (first | (refine CallVC.auto leaf9_k (Need.mk ht ?_); conv => whnf) | (refine Need.mk hcap ?_; conv => whnf) | (exact Out.same; conv => whnf) | (exact Out1.same; conv => whnf) | (refine QAnd.mk ?_ ?_; conv => whnf) | (apply QStepH.go; conv => whnf) | (refine Both.lit_true ?_; conv => whnf) | (refine Both.lit_false ?_; conv => whnf) | (apply QStep.go; conv => whnf) | (refine Need.au ?_; conv => whnf) | (refine ⟨_, rfl, ?_⟩; conv => whnf)))
    refine ⟨(k + 1, (leafF e t).2.1, (leafF e t).2.2, acc ++ [(leafF e t).1]), ⟨hI, hA2, hB2, hC2⟩, hD2, Weak.auto ?_⟩
    (repeat' ((conv => whnf); first | exact True.intro | (refine And.intro ?_ ?_)))
    all_goals first | rfl | exact .eq rfl | exact congrArg (SV.int .i64) hk1 | exact end1 | exact .eq end1
  have hkB2 : k = B.1 := by omega
  rw [hkB2, Nat.sub_self, leavesF] at hI
  subst hI
  (conv => whnf)
  (repeat (first | (exact Out.same; conv => whnf) | (exact Out1.same; conv => whnf) | (refine QAnd.mk ?_ ?_; conv => whnf) | (apply QStepH.go; conv => whnf) | (refine Both.lit_true ?_; conv => whnf) | (refine Both.lit_false ?_; conv => whnf) | (apply QStep.go; conv => whnf) | (refine Need.au ?_; conv => whnf) | (refine ⟨_, rfl, ?_⟩; conv => whnf)))
  refine ⟨_, Weak.pub 3 2 rfl rfl, ?_⟩
  (conv => whnf)
  (repeat (first | (exact Out.same; conv => whnf) | (exact Out1.same; conv => whnf) | (refine QAnd.mk ?_ ?_; conv => whnf) | (apply QStepH.go; conv => whnf) | (refine Both.lit_true ?_; conv => whnf) | (refine Both.lit_false ?_; conv => whnf) | (apply QStep.go; conv => whnf) | (refine Need.au ?_; conv => whnf) | (refine ⟨_, rfl, ?_⟩; conv => whnf) | (refine CallVC.auto end_k ?_; conv => whnf)))
  refine Both.dec_not (fun h5 => ?_) (fun h5 => ?_)
  · have h := h _ _ _ (parse_bad2 hA hB hR h5)
    (conv => whnf)
    (repeat (first | (exact Out.same; conv => whnf) | (exact Out1.same; conv => whnf) | (refine QAnd.mk ?_ ?_; conv => whnf) | (apply QStepH.go; conv => whnf) | (refine Both.lit_true ?_; conv => whnf) | (refine Both.lit_false ?_; conv => whnf) | (apply QStep.go; conv => whnf) | (refine Need.au ?_; conv => whnf) | (refine ⟨_, rfl, ?_⟩; conv => whnf)))
    exact ⟨_, _, (WeakV.drop rfl).trans (WeakV.val fun E w v => vr_nil2 5), h⟩
  · have h := h _ _ _ (parse_ok hA hB hR (by omega) (by omega) (by omega) h5)
    (conv => whnf)
    (repeat (first | (refine Need.mk ⟨rfl, rfl, far2⟩ ?_; conv => whnf) | (exact Out.same; conv => whnf) | (exact Out1.same; conv => whnf) | (refine QAnd.mk ?_ ?_; conv => whnf) | (apply QStepH.go; conv => whnf) | (refine Both.lit_true ?_; conv => whnf) | (refine Both.lit_false ?_; conv => whnf) | (apply QStep.go; conv => whnf) | (refine Need.au ?_; conv => whnf) | (refine ⟨_, rfl, ?_⟩; conv => whnf)))
    exact ⟨_, _, WeakV.drop rfl, h⟩
theorem pparse_k : Contract Tryz.prog [] 19 pparseS := ⟨⟨⟨_, rfl, rfl, rfl⟩⟩, pparse_c⟩
end Go.LX
end
section
set_option maxRecDepth 100000
set_option maxHeartbeats 4000000
set_option autoImplicit false
set_option linter.unusedVariables false
set_option linter.unusedSimpArgs false
namespace Go.LX
open Go.Proofs

theorem mul_u64 (n : Nat) (b : UInt8) (h : n * 256 + 256 ≤ 18446744073709551616) : IntKind.u64.wrap (IntKind.u64.wrap ((n : Int) * 256) + IntKind.u64.wrap (b.toNat : Int)) = ((n * 256 + b.toNat : Nat) : Int) := by
  have hb := b.toNat_lt
  rw [wrap_u64 (n := (n : Int) * 256) (by omega) (by omega), wrap_u64 (n := (b.toNat : Int)) (by omega) (by omega), wrap_u64 (by omega) (by omega)]
  omega
theorem getD_str (l : List UInt8) {k : Nat} (h : k < l.length) : l.getD ((k : Nat) : Int).toNat 0 = l[k] := by
  rw [Int.toNat_natCast, List.getD_eq_getElem?_getD, List.getElem?_eq_getElem h]
  rfl
def valS : Spec := fun args H Q => match args, H with
  | [.str s], [] => Need (s.length ≤ 8) (Q (.int .u64 (bev s : Int)) [])
  | _, _ => False
theorem val_c : Meets Tryz.prog [] 81 valS := by
  refine meets_of Γok Tryz.func81 rfl ?_
  intro args H Q h
  unfold valS at h
  split at h
  case h_2 => exact h.elim
  rename_i s
  obtain ⟨hs, h⟩ := h
  (refine sx_sound Γok _ ?_; conv => whnf)
  refine loop_rule (fun k : Nat => ⟨[.str s, .any, .any, .int .u64 (bev (s.take k) : Int), .int .i64 (k : Int), .any, .any, .any, .any, .any, .any, .any, .any, .any, .any, .any, .any, .any, .any], []⟩) (fun k => k ≤ s.length) (fun k => s.length - k) 0 (by omega) (Weak.auto ?_) ?_
  · (repeat' ((conv => whnf); first | exact True.intro | (refine And.intro ?_ ?_)))
    all_goals first | rfl | done
  · intro k hk
    (refine sx_sound Γok _ ?_; conv => whnf)
    refine Both.dec (fun hlt => ?_) (fun hge => ?_)
    · have hks : k < s.length := by omega
      (conv => whnf)
      refine Need.mk ⟨by omega, by omega⟩ ?_
      (conv => whnf)
      refine ⟨k + 1, by omega, by omega, Weak.auto ?_⟩
      (repeat' ((conv => whnf); first | exact True.intro | (refine And.intro ?_ ?_)))
      all_goals first | rfl | exact congrArg (SV.int .i64) (by rw [wrap_i64 (by omega) (by omega)]; rfl) | exact congrArg (SV.int .u64) (by rw [getD_str s hks, mul_u64 _ _ (bev_room s hks hs), bev_take s hks])
    · obtain rfl : k = s.length := by omega
      (conv => whnf)
      rw [List.take_length]
      exact ⟨_, _, WeakV.refl _ _ _ _, h⟩
theorem val_k : Contract Tryz.prog [] 81 valS := ⟨⟨⟨_, rfl, rfl, rfl⟩⟩, val_c⟩
def mrd (S : List UInt8) (a : Nat) (e : Int) : List LObj := [.cells [.str S, .int .i64 a, .int .i64 e] 93]
theorem rdOk_of {e n : Int} {s : List UInt8} (h1 : e = 0) (h2 : 0 ≤ n) (h3 : n ≤ s.length) : rdOk e n s = true := decide_eq_true ⟨h1, h2, h3⟩
theorem rdOk_not {e n : Int} {s : List UInt8} (h : ¬ (e = 0 ∧ 0 ≤ n ∧ n ≤ s.length)) : rdOk e n s = false := decide_eq_false h
def takeS : Spec := fun args H Q => match args, H with
  | [.ptr 0 0, .int .i64 n], [.cells [.str S, .int .i64 p, .int .i64 e] 93] => ∃ a : Nat, p = a ∧ a ≤ S.length ∧ S.length < 1000000 ∧
    ∀ a' : Nat, a' ≤ S.length → S.drop a' = rdS e n (S.drop a) → Q (.tuple [.str (rdT e n (S.drop a)), .bool (rdOk e n (S.drop a))]) (mrd S a' (rdE e n (S.drop a)))
  | _, _ => False
theorem take_c : Meets Tryz.prog [] 80 takeS := by
  refine meets_of Γok Tryz.func80 rfl ?_
  intro args H Q h
  unfold takeS at h
  split at h
  case h_2 => exact h.elim
  rename_i n S p e
  obtain ⟨a, rfl, ha, hS, h⟩ := h
  have hdl : (S.drop a).length = S.length - a := by simp
  have bad : ¬ (e = 0 ∧ 0 ≤ n ∧ n ≤ (S.drop a).length) → Q (.tuple [.str [], .bool false]) (mrd S a (if e = 0 then 6 else e)) := by
    intro h0
    have h1 := h a ha (by simp [rdS, rdOk_not h0])
    rw [rdOk_not h0, show rdT e n (S.drop a) = [] by simp [rdT, rdOk_not h0], show rdE e n (S.drop a) = if e = 0 then 6 else e by
      unfold rdE
      by_cases he : e = 0
      · rw [if_pos he, if_pos he, if_neg (by omega)]
      · rw [if_neg he, if_neg he]] at h1
    exact h1
  (refine sx_sound Γok _ ?_; conv => whnf)
  (refine ⟨_, rfl, ?_⟩; conv => whnf)
  refine Both.dec_not (fun he => ?_) (fun he => ?_)
  · (conv => whnf)
    have h1 := bad (by omega)
    rw [if_neg he] at h1
    exact ⟨_, _, WeakV.refl _ _ _ _, h1⟩
  · subst he
    (conv => whnf)
    (refine DrawVC.all Γok (by kernel_rfl) (by kernel_rfl) ?_; conv => whnf)
    have h1 := fun h0 => bad h0
    rw [if_pos rfl] at h1
    (repeat (first | (exact Out.same; conv => whnf) | (exact Out1.same; conv => whnf) | (refine QAnd.mk ?_ ?_; conv => whnf) | (apply QStepH.go; conv => whnf) | (refine Both.lit_true ?_; conv => whnf) | (refine Both.lit_false ?_; conv => whnf) | (apply QStep.go; conv => whnf) | (refine Need.mk ?_ ?_; (focus (first | omega | exact ⟨by omega, by omega⟩ | rfl | exact ⟨rfl, rfl⟩ | exact ⟨rfl, Nat.le_of_ble_eq_true rfl⟩ | exact Nat.le_of_ble_eq_true rfl | (refine ⟨rfl, rfl, ?_⟩; simp [isFar, ofV0, CV.up, SV.renL, SV.ren] <;> fail) | (refine ⟨rfl, Nat.le_of_ble_eq_true rfl, ?_⟩; simp [isFar, ofV0, CV.up, SV.renL, SV.ren] <;> fail) | (simp <;> fail))); conv => whnf)))
    refine Both.dec (fun h0 => ?_) (fun h0 => ?_)
    · (conv => whnf)
      (repeat (first | (exact Out.same; conv => whnf) | (exact Out1.same; conv => whnf) | (refine QAnd.mk ?_ ?_; conv => whnf) | (apply QStepH.go; conv => whnf) | (refine Both.lit_true ?_; conv => whnf) | (refine Both.lit_false ?_; conv => whnf) | (apply QStep.go; conv => whnf) | (refine Need.mk ?_ ?_; (focus (first | omega | exact ⟨by omega, by omega⟩ | rfl | exact ⟨rfl, rfl⟩ | exact ⟨rfl, Nat.le_of_ble_eq_true rfl⟩ | exact Nat.le_of_ble_eq_true rfl | (refine ⟨rfl, rfl, ?_⟩; simp [isFar, ofV0, CV.up, SV.renL, SV.ren] <;> fail) | (refine ⟨rfl, Nat.le_of_ble_eq_true rfl, ?_⟩; simp [isFar, ofV0, CV.up, SV.renL, SV.ren] <;> fail) | (simp <;> fail))); conv => whnf)))
      exact ⟨_, _, WeakV.refl _ _ _ _, h1 (by omega)⟩
    · (conv => whnf)
      (repeat (first | (exact Out.same; conv => whnf) | (exact Out1.same; conv => whnf) | (refine QAnd.mk ?_ ?_; conv => whnf) | (apply QStepH.go; conv => whnf) | (refine Both.lit_true ?_; conv => whnf) | (refine Both.lit_false ?_; conv => whnf) | (apply QStep.go; conv => whnf) | (refine Need.mk ?_ ?_; (focus (first | omega | exact ⟨by omega, by omega⟩ | rfl | exact ⟨rfl, rfl⟩ | exact ⟨rfl, Nat.le_of_ble_eq_true rfl⟩ | exact Nat.le_of_ble_eq_true rfl | (refine ⟨rfl, rfl, ?_⟩; simp [isFar, ofV0, CV.up, SV.renL, SV.ren] <;> fail) | (refine ⟨rfl, Nat.le_of_ble_eq_true rfl, ?_⟩; simp [isFar, ofV0, CV.up, SV.renL, SV.ren] <;> fail) | (simp <;> fail))); conv => whnf)))
      (refine ⟨_, rfl, ?_⟩; conv => whnf)
      (repeat (first | (exact Out.same; conv => whnf) | (exact Out1.same; conv => whnf) | (refine QAnd.mk ?_ ?_; conv => whnf) | (apply QStepH.go; conv => whnf) | (refine Both.lit_true ?_; conv => whnf) | (refine Both.lit_false ?_; conv => whnf) | (apply QStep.go; conv => whnf) | (refine Need.mk ?_ ?_; (focus (first | omega | exact ⟨by omega, by omega⟩ | rfl | exact ⟨rfl, rfl⟩ | exact ⟨rfl, Nat.le_of_ble_eq_true rfl⟩ | exact Nat.le_of_ble_eq_true rfl | (refine ⟨rfl, rfl, ?_⟩; simp [isFar, ofV0, CV.up, SV.renL, SV.ren] <;> fail) | (refine ⟨rfl, Nat.le_of_ble_eq_true rfl, ?_⟩; simp [isFar, ofV0, CV.up, SV.renL, SV.ren] <;> fail) | (simp <;> fail))); conv => whnf)))
      (refine ⟨_, rfl, ?_⟩; conv => whnf)
      (repeat (first | (exact Out.same; conv => whnf) | (exact Out1.same; conv => whnf) | (refine QAnd.mk ?_ ?_; conv => whnf) | (apply QStepH.go; conv => whnf) | (refine Both.lit_true ?_; conv => whnf) | (refine Both.lit_false ?_; conv => whnf) | (apply QStep.go; conv => whnf) | (refine Need.mk ?_ ?_; (focus (first | omega | exact ⟨by omega, by omega⟩ | rfl | exact ⟨rfl, rfl⟩ | exact ⟨rfl, Nat.le_of_ble_eq_true rfl⟩ | exact Nat.le_of_ble_eq_true rfl | (refine ⟨rfl, rfl, ?_⟩; simp [isFar, ofV0, CV.up, SV.renL, SV.ren] <;> fail) | (refine ⟨rfl, Nat.le_of_ble_eq_true rfl, ?_⟩; simp [isFar, ofV0, CV.up, SV.renL, SV.ren] <;> fail) | (simp <;> fail))); conv => whnf)))
      rw [wrap_i64 (n := (S.length : Int) - a) (by omega) (by omega)]
      refine Both.dec (fun h2 => ?_) (fun h2 => ?_)
      · (conv => whnf)
        (repeat (first | (exact Out.same; conv => whnf) | (exact Out1.same; conv => whnf) | (refine QAnd.mk ?_ ?_; conv => whnf) | (apply QStepH.go; conv => whnf) | (refine Both.lit_true ?_; conv => whnf) | (refine Both.lit_false ?_; conv => whnf) | (apply QStep.go; conv => whnf) | (refine Need.mk ?_ ?_; (focus (first | omega | exact ⟨by omega, by omega⟩ | rfl | exact ⟨rfl, rfl⟩ | exact ⟨rfl, Nat.le_of_ble_eq_true rfl⟩ | exact Nat.le_of_ble_eq_true rfl | (refine ⟨rfl, rfl, ?_⟩; simp [isFar, ofV0, CV.up, SV.renL, SV.ren] <;> fail) | (refine ⟨rfl, Nat.le_of_ble_eq_true rfl, ?_⟩; simp [isFar, ofV0, CV.up, SV.renL, SV.ren] <;> fail) | (simp <;> fail))); conv => whnf)))
        exact ⟨_, _, WeakV.refl _ _ _ _, h1 (by omega)⟩
      · (conv => whnf)
        (repeat (first | (exact Out.same; conv => whnf) | (exact Out1.same; conv => whnf) | (refine QAnd.mk ?_ ?_; conv => whnf) | (apply QStepH.go; conv => whnf) | (refine Both.lit_true ?_; conv => whnf) | (refine Both.lit_false ?_; conv => whnf) | (apply QStep.go; conv => whnf) | (refine Need.mk ?_ ?_; (focus (first | omega | exact ⟨by omega, by omega⟩ | rfl | exact ⟨rfl, rfl⟩ | exact ⟨rfl, Nat.le_of_ble_eq_true rfl⟩ | exact Nat.le_of_ble_eq_true rfl | (refine ⟨rfl, rfl, ?_⟩; simp [isFar, ofV0, CV.up, SV.renL, SV.ren] <;> fail) | (refine ⟨rfl, Nat.le_of_ble_eq_true rfl, ?_⟩; simp [isFar, ofV0, CV.up, SV.renL, SV.ren] <;> fail) | (simp <;> fail))); conv => whnf)))
        obtain ⟨m, rfl⟩ : ∃ m : Nat, n = m := ⟨n.toNat, by omega⟩
        have hok : rdOk 0 m (S.drop a) = true := rdOk_of rfl (by omega) (by omega)
        have h3 := h (a + m) (by omega) (by simp [rdS, hok])
        rw [hok, show rdT 0 m (S.drop a) = (S.drop a).take m by simp [rdT, hok], show rdE 0 m (S.drop a) = 0 by unfold rdE; rw [if_pos rfl, if_pos (by omega)]] at h3
        (refine ⟨_, rfl, ?_⟩; conv => whnf)
        rw [wrap_i64 (n := (a : Int) + m) (by omega) (by omega)]
        have hw : IntKind.i64.wrap ((a : Int) + m - m) = a := by rw [wrap_i64 (by omega) (by omega)]; omega
        (repeat (first | (refine Both.lit_true ?_; conv => whnf) | (refine Both.lit_false ?_; conv => whnf) | (refine Need.mk ?_ ?_; (focus (first | omega | exact ⟨by omega, by omega⟩ | rfl | exact ⟨rfl, rfl⟩ | exact ⟨rfl, Nat.le_of_ble_eq_true rfl⟩ | exact Nat.le_of_ble_eq_true rfl | (refine ⟨rfl, rfl, ?_⟩; simp [isFar, ofV0, CV.up, SV.renL, SV.ren] <;> fail) | (refine ⟨rfl, Nat.le_of_ble_eq_true rfl, ?_⟩; simp [isFar, ofV0, CV.up, SV.renL, SV.ren] <;> fail) | (simp <;> fail))); conv => whnf)))
        (refine DrawVC.all Γok (by kernel_rfl) (by kernel_rfl) ?_; conv => whnf)
        (repeat (first | (exact Out.same; conv => whnf) | (exact Out1.same; conv => whnf) | (refine QAnd.mk ?_ ?_; conv => whnf) | (apply QStepH.go; conv => whnf) | (refine Both.lit_true ?_; conv => whnf) | (refine Both.lit_false ?_; conv => whnf) | (apply QStep.go; conv => whnf) | (refine Need.mk ?_ ?_; (focus (first | omega | exact ⟨by omega, by omega⟩ | rfl | exact ⟨rfl, rfl⟩ | exact ⟨rfl, Nat.le_of_ble_eq_true rfl⟩ | exact Nat.le_of_ble_eq_true rfl | (refine ⟨rfl, rfl, ?_⟩; simp [isFar, ofV0, CV.up, SV.renL, SV.ren] <;> fail) | (refine ⟨rfl, Nat.le_of_ble_eq_true rfl, ?_⟩; simp [isFar, ofV0, CV.up, SV.renL, SV.ren] <;> fail) | (simp <;> fail))); conv => whnf)))
        (refine ⟨_, rfl, ?_⟩; conv => whnf)
        (repeat (first | (exact Out.same; conv => whnf) | (exact Out1.same; conv => whnf) | (refine QAnd.mk ?_ ?_; conv => whnf) | (apply QStepH.go; conv => whnf) | (refine Both.lit_true ?_; conv => whnf) | (refine Both.lit_false ?_; conv => whnf) | (apply QStep.go; conv => whnf) | (refine Need.mk ?_ ?_; (focus (first | omega | exact ⟨by omega, by omega⟩ | rfl | exact ⟨rfl, rfl⟩ | exact ⟨rfl, Nat.le_of_ble_eq_true rfl⟩ | exact Nat.le_of_ble_eq_true rfl | (refine ⟨rfl, rfl, ?_⟩; simp [isFar, ofV0, CV.up, SV.renL, SV.ren] <;> fail) | (refine ⟨rfl, Nat.le_of_ble_eq_true rfl, ?_⟩; simp [isFar, ofV0, CV.up, SV.renL, SV.ren] <;> fail) | (simp <;> fail))); conv => whnf)))
        (refine ⟨_, rfl, ?_⟩; conv => whnf)
        (repeat (first | (exact Out.same; conv => whnf) | (exact Out1.same; conv => whnf) | (refine QAnd.mk ?_ ?_; conv => whnf) | (apply QStepH.go; conv => whnf) | (refine Both.lit_true ?_; conv => whnf) | (refine Both.lit_false ?_; conv => whnf) | (apply QStep.go; conv => whnf) | (refine Need.mk ?_ ?_; (focus (first | omega | exact ⟨by omega, by omega⟩ | rfl | exact ⟨rfl, rfl⟩ | exact ⟨rfl, Nat.le_of_ble_eq_true rfl⟩ | exact Nat.le_of_ble_eq_true rfl | (refine ⟨rfl, rfl, ?_⟩; simp [isFar, ofV0, CV.up, SV.renL, SV.ren] <;> fail) | (refine ⟨rfl, Nat.le_of_ble_eq_true rfl, ?_⟩; simp [isFar, ofV0, CV.up, SV.renL, SV.ren] <;> fail) | (simp <;> fail))); conv => whnf)))
        (refine ⟨_, rfl, ?_⟩; conv => whnf)
        (repeat (first | (exact Out.same; conv => whnf) | (exact Out1.same; conv => whnf) | (refine QAnd.mk ?_ ?_; conv => whnf) | (apply QStepH.go; conv => whnf) | (refine Both.lit_true ?_; conv => whnf) | (refine Both.lit_false ?_; conv => whnf) | (apply QStep.go; conv => whnf) | (refine Need.mk ?_ ?_; (focus (first | omega | exact ⟨by omega, by omega⟩ | rfl | exact ⟨rfl, rfl⟩ | exact ⟨rfl, Nat.le_of_ble_eq_true rfl⟩ | exact Nat.le_of_ble_eq_true rfl | (refine ⟨rfl, rfl, ?_⟩; simp [isFar, ofV0, CV.up, SV.renL, SV.ren] <;> fail) | (refine ⟨rfl, Nat.le_of_ble_eq_true rfl, ?_⟩; simp [isFar, ofV0, CV.up, SV.renL, SV.ren] <;> fail) | (simp <;> fail))); conv => whnf)))
        refine ⟨_, _, WeakV.auto ?_, h3⟩
        (repeat' ((conv => whnf); first | exact True.intro | (refine And.intro ?_ ?_)))
        · refine congrArg (fun x => SV.tuple [.str x, .bool true]) ?_
          rw [hw, show ((a : Int) + m).toNat = a + m by omega, Int.toNat_natCast, List.drop_take]
          congr 1
          omega
        all_goals first | rfl | exact .eq rfl | skip
theorem take_k : Contract Tryz.prog [] 80 takeS := ⟨⟨⟨_, rfl, rfl, rfl⟩⟩, take_c⟩
end Go.LX
end
section
set_option maxRecDepth 100000
set_option maxHeartbeats 4000000
set_option autoImplicit false
set_option linter.unusedVariables false
set_option linter.unusedSimpArgs false
namespace Go.LX
open Go.Proofs

structure Call where
  kind : Int
  k : Int
  n : BitVec 64
  s : List UInt8
def doV (c : Call) (e : Int) (s : List UInt8) : Nat := if c.kind = 0 then rdV e 1 s else if c.kind = 1 then rdV e 8 s else 0
def doT (c : Call) (e : Int) (s : List UInt8) : List UInt8 := if c.kind = 2 then rdT (rdE e 2 s) (rdV e 2 s) (rdS e 2 s) else if c.kind = 3 then rdT e c.k s else []
def doE (c : Call) (e : Int) (s : List UInt8) : Int := if c.kind = 0 then rdE e 1 s else if c.kind = 1 then rdE e 8 s else if c.kind = 2 then rdE (rdE e 2 s) (rdV e 2 s) (rdS e 2 s) else if c.kind = 3 then rdE e c.k s else if e = 0 then c.k else e
def doS (c : Call) (e : Int) (s : List UInt8) : List UInt8 := if c.kind = 0 then rdS e 1 s else if c.kind = 1 then rdS e 8 s else if c.kind = 2 then rdS (rdE e 2 s) (rdV e 2 s) (rdS e 2 s) else if c.kind = 3 then rdS e c.k s else s
theorem rd_bad {e n : Int} {s : List UInt8} (h : e ≠ 0) : rdOk e n s = false ∧ rdT e n s = [] ∧ rdE e n s = e ∧ rdS e n s = s := by
  have h1 : rdOk e n s = false := rdOk_not (by omega)
  exact ⟨h1, by simp [rdT, h1], by simp [rdE, h], by simp [rdS, h1]⟩
theorem rdE_ok {e n : Int} {s : List UInt8} : rdOk e n s = decide (rdE e n s = 0) := by
  unfold rdOk rdE
  by_cases he : e = 0
  · subst he
    by_cases h : 0 ≤ n ∧ n ≤ (s.length : Int) <;> simp [h]
  · simp [he]
def mdoS : Spec := fun args H Q => match args, H with
  | [.ptr 0 0, .agg [.int .i64 kind, .int .i64 k, .int .u64 n, .str t]], [.cells [.str S, .int .i64 p, .int .i64 e] 93] => ∃ (a : Nat) (c : Call), kind = c.kind ∧ k = c.k ∧ p = a ∧ a ≤ S.length ∧ S.length < 1000000 ∧
    ∀ a' : Nat, a' ≤ S.length → S.drop a' = doS c e (S.drop a) → Q (.tuple [.int .u64 (doV c e (S.drop a) : Int), .str (doT c e (S.drop a))]) (mrd S a' (doE c e (S.drop a)))
  | _, _ => False
theorem mdo_c : Meets Tryz.prog [] 49 mdoS := by
  refine meets_of Γok Tryz.func49 rfl ?_
  intro args H Q h
  unfold mdoS at h
  split at h
  case h_2 => exact h.elim
  rename_i kind k n t S p e
  obtain ⟨a, c, rfl, rfl, rfl, ha, hS, h⟩ := h
  (refine sx_sound Γok _ ?_; conv => whnf)
  (refine ⟨_, rfl, ?_⟩; conv => whnf)
  refine Both.dec (fun h0 => ?_) (fun h0 => ?_)
  · (conv => whnf)
    refine CallVC.auto take_k ?_
    refine ⟨a, rfl, ha, hS, fun a' ha' hd => ?_⟩
    have h1 := h a' ha' (by simp [doS, h0, hd])
    simp only [doV, doT, doE, h0, if_true, if_false] at h1
    (conv => whnf)
    (repeat (first | (exact Out.same; conv => whnf) | (exact Out1.same; conv => whnf) | (refine QAnd.mk ?_ ?_; conv => whnf) | (apply QStepH.go; conv => whnf) | (refine Both.lit_true ?_; conv => whnf) | (refine Both.lit_false ?_; conv => whnf) | (apply QStep.go; conv => whnf) | (refine Need.au ?_; conv => whnf) | (refine ⟨_, rfl, ?_⟩; conv => whnf) | (refine CallVC.auto val_k ?_; conv => whnf)))
    have hl := rdT_len e 1 (S.drop a)
    refine Need.mk (by omega) ?_
    (conv => whnf)
    refine ⟨_, _, WeakV.auto ?_, h1⟩
    (repeat' ((conv => whnf); first | exact True.intro | (refine And.intro ?_ ?_)))
    all_goals first | rfl | exact .eq rfl | skip
  · (conv => whnf)
    refine Both.dec (fun h1 => ?_) (fun h1 => ?_)
    · (conv => whnf)
      refine CallVC.auto take_k ?_
      refine ⟨a, rfl, ha, hS, fun a' ha' hd => ?_⟩
      have h2 := h a' ha' (by simp [doS, h1, hd])
      simp only [doV, doT, doE, h1, if_true, if_false, reduceCtorEq, Int.reduceEq] at h2
      (conv => whnf)
      have hl := rdT_len e 8 (S.drop a)
      (repeat (first | (exact Out.same; conv => whnf) | (exact Out1.same; conv => whnf) | (refine QAnd.mk ?_ ?_; conv => whnf) | (apply QStepH.go; conv => whnf) | (refine Both.lit_true ?_; conv => whnf) | (refine Both.lit_false ?_; conv => whnf) | (apply QStep.go; conv => whnf) | (refine Need.au ?_; conv => whnf) | (refine ⟨_, rfl, ?_⟩; conv => whnf) | (refine CallVC.auto val_k ?_; conv => whnf)))
      refine ⟨_, _, WeakV.auto ?_, h2⟩
      (repeat' ((conv => whnf); first | exact True.intro | (refine And.intro ?_ ?_)))
      all_goals first | rfl | exact .eq rfl
    · (conv => whnf)
      refine Both.dec (fun h2 => ?_) (fun h2 => ?_)
      · (conv => whnf)
        refine CallVC.auto take_k ?_
        refine ⟨a, rfl, ha, hS, fun a1 ha1 hd1 => ?_⟩
        (conv => whnf)
        refine Both.cases (fun h3 => ?_) (fun h3 => ?_)
        · have hne : rdE e 2 (S.drop a) ≠ 0 := by
            intro h4
            rw [rdE_ok, h4] at h3
            simp at h3
          have ht : rdT e 2 (S.drop a) = [] := by
            rw [rdT, if_neg]
            simpa using h3
          obtain ⟨_, b1, b2, b3⟩ := rd_bad (n := (rdV e 2 (S.drop a) : Int)) (s := rdS e 2 (S.drop a)) hne
          have h4 := h a1 ha1 (by simp [doS, h2, hd1, b3])
          simp only [doV, doT, doE, h2, if_true, if_false, reduceCtorEq, Int.reduceEq, b1, b2] at h4
          (conv => whnf)
          refine ⟨_, _, WeakV.auto ?_, h4⟩
          (repeat' ((conv => whnf); first | exact True.intro | (refine And.intro ?_ ?_)))
          all_goals first | rfl | exact .eq rfl
        · (conv => whnf)
          have hl := rdT_len e 2 (S.drop a)
          (repeat (first | (exact Out.same; conv => whnf) | (exact Out1.same; conv => whnf) | (refine QAnd.mk ?_ ?_; conv => whnf) | (apply QStepH.go; conv => whnf) | (refine Both.lit_true ?_; conv => whnf) | (refine Both.lit_false ?_; conv => whnf) | (apply QStep.go; conv => whnf) | (refine Need.au ?_; conv => whnf) | (refine ⟨_, rfl, ?_⟩; conv => whnf) | (refine CallVC.auto val_k ?_; conv => whnf)))
          have hv := rdV_lt2 e (S.drop a)
          rw [show IntKind.i64.wrap (bev (rdT e 2 (S.drop a)) : Int) = (rdV e 2 (S.drop a) : Int) from wrap_i64 (n := (rdV e 2 (S.drop a) : Int)) (by omega) (by omega)]
          refine CallVC.auto take_k ?_
          refine ⟨a1, rfl, ha1, hS, fun a2 ha2 hd2 => ?_⟩
          rw [hd1] at hd2 ⊢
          have h4 := h a2 ha2 (by simp [doS, h2, hd2])
          simp only [doV, doT, doE, h2, if_true, if_false, reduceCtorEq, Int.reduceEq] at h4
          (conv => whnf)
          refine ⟨_, _, WeakV.auto ?_, h4⟩
          (repeat' ((conv => whnf); first | exact True.intro | (refine And.intro ?_ ?_)))
          all_goals first | rfl | exact .eq rfl
      · (conv => whnf)
        refine Both.dec (fun h3 => ?_) (fun h3 => ?_)
        · (conv => whnf)
          (refine ⟨_, rfl, ?_⟩; conv => whnf)
          refine CallVC.auto take_k ?_
          refine ⟨a, rfl, ha, hS, fun a' ha' hd => ?_⟩
          have h4 := h a' ha' (by simp [doS, h3, hd])
          simp only [doV, doT, doE, h3, if_true, if_false, reduceCtorEq, Int.reduceEq] at h4
          (conv => whnf)
          refine ⟨_, _, WeakV.auto ?_, h4⟩
          (repeat' ((conv => whnf); first | exact True.intro | (refine And.intro ?_ ?_)))
          all_goals first | rfl | exact .eq rfl
        · (conv => whnf)
          have h4 := h a ha (by simp [doS, h0, h1, h2, h3])
          simp only [doV, doT, doE, h0, h1, h2, h3, if_true, if_false] at h4
          (refine ⟨_, rfl, ?_⟩; conv => whnf)
          refine Both.dec (fun he => ?_) (fun he => ?_)
          · (conv => whnf)
            rw [if_pos he] at h4
            (repeat (first | (exact Out.same; conv => whnf) | (exact Out1.same; conv => whnf) | (refine QAnd.mk ?_ ?_; conv => whnf) | (apply QStepH.go; conv => whnf) | (refine Both.lit_true ?_; conv => whnf) | (refine Both.lit_false ?_; conv => whnf) | (apply QStep.go; conv => whnf) | (refine Need.au ?_; conv => whnf) | (refine ⟨_, rfl, ?_⟩; conv => whnf)))
            refine ⟨_, _, WeakV.auto ?_, h4⟩
            (repeat' ((conv => whnf); first | exact True.intro | (refine And.intro ?_ ?_)))
            all_goals first | rfl | exact .eq rfl
          · (conv => whnf)
            rw [if_neg he] at h4
            refine ⟨_, _, WeakV.auto ?_, h4⟩
            (repeat' ((conv => whnf); first | exact True.intro | (refine And.intro ?_ ?_)))
            all_goals first | rfl | exact .eq rfl
theorem mdo_k : Contract Tryz.prog [] 49 mdoS := ⟨⟨⟨_, rfl, rfl, rfl⟩⟩, mdo_c⟩
end Go.LX
end
section
set_option maxRecDepth 100000
set_option maxHeartbeats 2000000
set_option autoImplicit false
set_option linter.unusedVariables false
set_option linter.unusedSimpArgs false
namespace Go.LX
open Go.Proofs

def mdoKS : Spec := fun args H Q => match args, H with
  | [.ptr 0 0, .agg [.int .i64 kind, .int .i64 k, .int .u64 n, .str t]], [.cells [.str S, .int .i64 p, .int .i64 e] 93] => ∃ a : Nat, p = a ∧ a ≤ S.length ∧ S.length < 1000000 ∧
    ((kind = 0 ∧ ∀ a' : Nat, a' ≤ S.length → S.drop a' = (byteF e (S.drop a)).2.2 → Q (.tuple [.int .u64 ((byteF e (S.drop a)).1 : Int), .str []]) (mrd S a' (byteF e (S.drop a)).2.1)) ∨
     (kind = 1 ∧ ∀ a' : Nat, a' ≤ S.length → S.drop a' = rdS e 8 (S.drop a) → Q (.tuple [.int .u64 (rdV e 8 (S.drop a) : Int), .str []]) (mrd S a' (rdE e 8 (S.drop a)))) ∨
     (kind = 2 ∧ ∀ a' : Nat, a' ≤ S.length → S.drop a' = (textF e (S.drop a)).2.2 → Q (.tuple [.int .u64 0, .str (textF e (S.drop a)).1]) (mrd S a' (textF e (S.drop a)).2.1)) ∨
     (kind = 3 ∧ k = 32 ∧ ∀ a' : Nat, a' ≤ S.length → S.drop a' = rdS e 32 (S.drop a) → Q (.tuple [.int .u64 0, .str (rdT e 32 (S.drop a))]) (mrd S a' (rdE e 32 (S.drop a)))))
  | _, _ => False
theorem mdoK_k : Contract Tryz.prog [] 49 mdoKS := mdo_k.imp fun args H Q h => by
  unfold mdoKS at h
  split at h
  case h_2 => exact h.elim
  rename_i kind k n t S p e
  obtain ⟨a, rfl, ha, hS, h⟩ := h
  rcases h with ⟨rfl, h⟩ | ⟨rfl, h⟩ | ⟨rfl, h⟩ | ⟨rfl, rfl, h⟩
  · exact ⟨a, ⟨0, k, 0#64, []⟩, rfl, rfl, rfl, ha, hS, h⟩
  · exact ⟨a, ⟨1, k, 0#64, []⟩, rfl, rfl, rfl, ha, hS, h⟩
  · exact ⟨a, ⟨2, k, 0#64, []⟩, rfl, rfl, rfl, ha, hS, h⟩
  · exact ⟨a, ⟨3, 32, 0#64, []⟩, rfl, rfl, rfl, ha, hS, h⟩
def numF (e : Int) (s : Bs) : Nat × Int × Bs := (rdV e 8 s % 1000000, rdE e 8 s, rdS e 8 s)
def dbyteS : Spec := fun args H Q => match args, H with
  | [.ptr 0 0], [.cells [.str S, .int .i64 p, .int .i64 e] 93] => ∃ a : Nat, p = a ∧ a ≤ S.length ∧ S.length < 1000000 ∧
    ∀ a' : Nat, a' ≤ S.length → S.drop a' = (byteF e (S.drop a)).2.2 → Q (.int .i64 ((byteF e (S.drop a)).1 : Int)) (mrd S a' (byteF e (S.drop a)).2.1)
  | _, _ => False
theorem dbyte_c : Meets Tryz.prog [] 46 dbyteS := by
  refine meets_of Γok Tryz.func46 rfl ?_
  intro args H Q h
  unfold dbyteS at h
  split at h
  case h_2 => exact h.elim
  rename_i S p e
  obtain ⟨a, rfl, ha, hS, h⟩ := h
  have hv := rdV_lt1 e (S.drop a)
  have hw : IntKind.i64.wrap (((byteF e (S.drop a)).1 : Nat) : Int) = (((byteF e (S.drop a)).1 : Nat) : Int) := wrap_i64 (by omega) (by have : (byteF e (S.drop a)).1 = rdV e 1 (S.drop a) := rfl; omega)
  (refine sx_sound Γok _ ?_; conv => whnf)
  (repeat (first | (exact Out.same; conv => whnf) | (exact Out1.same; conv => whnf) | (refine QAnd.mk ?_ ?_; conv => whnf) | (apply QStepH.go; conv => whnf) | (refine Both.lit_true ?_; conv => whnf) | (refine Both.lit_false ?_; conv => whnf) | (apply QStep.go; conv => whnf) | (refine Need.au ?_; conv => whnf) | (refine ⟨_, rfl, ?_⟩; conv => whnf)))
  refine CallVC.auto mdoK_k ⟨a, rfl, ha, hS, .inl ⟨rfl, fun a' ha' hd => ?_⟩⟩
  have h := h a' ha' hd
  (conv => whnf)
  (repeat (first | (exact Out.same; conv => whnf) | (exact Out1.same; conv => whnf) | (refine QAnd.mk ?_ ?_; conv => whnf) | (apply QStepH.go; conv => whnf) | (refine Both.lit_true ?_; conv => whnf) | (refine Both.lit_false ?_; conv => whnf) | (apply QStep.go; conv => whnf) | (refine Need.au ?_; conv => whnf) | (refine ⟨_, rfl, ?_⟩; conv => whnf)))
  refine ⟨_, _, WeakV.auto ?_, h⟩
  (repeat' ((conv => whnf); first | exact True.intro | (refine And.intro ?_ ?_)))
  all_goals first | rfl | exact .eq rfl | exact congrArg (SV.int .i64) hw
theorem dbyte_k : Contract Tryz.prog [] 46 dbyteS := ⟨⟨⟨_, rfl, rfl, rfl⟩⟩, dbyte_c⟩
def dnumS : Spec := fun args H Q => match args, H with
  | [.ptr 0 0], [.cells [.str S, .int .i64 p, .int .i64 e] 93] => ∃ a : Nat, p = a ∧ a ≤ S.length ∧ S.length < 1000000 ∧
    ∀ a' : Nat, a' ≤ S.length → S.drop a' = (numF e (S.drop a)).2.2 → Q (.int .i64 ((numF e (S.drop a)).1 : Int)) (mrd S a' (numF e (S.drop a)).2.1)
  | _, _ => False
theorem dnum_c : Meets Tryz.prog [] 47 dnumS := by
  refine meets_of Γok Tryz.func47 rfl ?_
  intro args H Q h
  unfold dnumS at h
  split at h
  case h_2 => exact h.elim
  rename_i S p e
  obtain ⟨a, rfl, ha, hS, h⟩ := h
  have hw : IntKind.i64.wrap (((rdV e 8 (S.drop a) : Nat) : Int).tmod 1000000) = (((numF e (S.drop a)).1 : Nat) : Int) := by
    have e1 : ((rdV e 8 (S.drop a) : Nat) : Int).tmod 1000000 = (((numF e (S.drop a)).1 : Nat) : Int) := rfl
    have e2 : (numF e (S.drop a)).1 < 1000000 := Nat.mod_lt _ (by decide)
    rw [e1, wrap_i64 (by omega) (by omega)]
  (refine sx_sound Γok _ ?_; conv => whnf)
  (repeat (first | (exact Out.same; conv => whnf) | (exact Out1.same; conv => whnf) | (refine QAnd.mk ?_ ?_; conv => whnf) | (apply QStepH.go; conv => whnf) | (refine Both.lit_true ?_; conv => whnf) | (refine Both.lit_false ?_; conv => whnf) | (apply QStep.go; conv => whnf) | (refine Need.au ?_; conv => whnf) | (refine ⟨_, rfl, ?_⟩; conv => whnf)))
  refine CallVC.auto mdoK_k ⟨a, rfl, ha, hS, .inr (.inl ⟨rfl, fun a' ha' hd => ?_⟩)⟩
  have h := h a' ha' hd
  (conv => whnf)
  (repeat (first | (exact Out.same; conv => whnf) | (exact Out1.same; conv => whnf) | (refine QAnd.mk ?_ ?_; conv => whnf) | (apply QStepH.go; conv => whnf) | (refine Both.lit_true ?_; conv => whnf) | (refine Both.lit_false ?_; conv => whnf) | (apply QStep.go; conv => whnf) | (refine Need.au ?_; conv => whnf) | (refine ⟨_, rfl, ?_⟩; conv => whnf)))
  refine ⟨_, _, WeakV.auto ?_, h⟩
  (repeat' ((conv => whnf); first | exact True.intro | (refine And.intro ?_ ?_)))
  all_goals first | rfl | exact .eq rfl | exact congrArg (SV.int .i64) hw
theorem dnum_k : Contract Tryz.prog [] 47 dnumS := ⟨⟨⟨_, rfl, rfl, rfl⟩⟩, dnum_c⟩
def dtextS : Spec := fun args H Q => match args, H with
  | [.ptr 0 0], [.cells [.str S, .int .i64 p, .int .i64 e] 93] => ∃ a : Nat, p = a ∧ a ≤ S.length ∧ S.length < 1000000 ∧
    ∀ a' : Nat, a' ≤ S.length → S.drop a' = (textF e (S.drop a)).2.2 → Q (.str (textF e (S.drop a)).1) (mrd S a' (textF e (S.drop a)).2.1)
  | _, _ => False
theorem dtext_c : Meets Tryz.prog [] 48 dtextS := by
  refine meets_of Γok Tryz.func48 rfl ?_
  intro args H Q h
  unfold dtextS at h
  split at h
  case h_2 => exact h.elim
  rename_i S p e
  obtain ⟨a, rfl, ha, hS, h⟩ := h
  (refine sx_sound Γok _ ?_; conv => whnf)
  (repeat (first | (exact Out.same; conv => whnf) | (exact Out1.same; conv => whnf) | (refine QAnd.mk ?_ ?_; conv => whnf) | (apply QStepH.go; conv => whnf) | (refine Both.lit_true ?_; conv => whnf) | (refine Both.lit_false ?_; conv => whnf) | (apply QStep.go; conv => whnf) | (refine Need.au ?_; conv => whnf) | (refine ⟨_, rfl, ?_⟩; conv => whnf)))
  refine CallVC.auto mdoK_k ⟨a, rfl, ha, hS, .inr (.inr (.inl ⟨rfl, fun a' ha' hd => ?_⟩))⟩
  have h := h a' ha' hd
  (conv => whnf)
  (repeat (first | (exact Out.same; conv => whnf) | (exact Out1.same; conv => whnf) | (refine QAnd.mk ?_ ?_; conv => whnf) | (apply QStepH.go; conv => whnf) | (refine Both.lit_true ?_; conv => whnf) | (refine Both.lit_false ?_; conv => whnf) | (apply QStep.go; conv => whnf) | (refine Need.au ?_; conv => whnf) | (refine ⟨_, rfl, ?_⟩; conv => whnf)))
  refine ⟨_, _, WeakV.auto ?_, h⟩
  (repeat' ((conv => whnf); first | exact True.intro | (refine And.intro ?_ ?_)))
  all_goals first | rfl | exact .eq rfl
theorem dtext_k : Contract Tryz.prog [] 48 dtextS := ⟨⟨⟨_, rfl, rfl, rfl⟩⟩, dtext_c⟩
def dpathF : Nat → Int → Bs → List Bs → List Bs × Int × Bs
  | 0, e, s, acc => (acc, e, s)
  | n + 1, e, s, acc => dpathF n (rdE e 32 s) (rdS e 32 s) (acc ++ [rdT e 32 s])
def dleafF (e : Int) (s : Bs) : Lf × Int × Bs :=
  let A := numF e s
  let B := numF A.2.1 A.2.2
  let K := textF B.2.1 B.2.2
  let V := textF K.2.1 K.2.2
  let N := byteF V.2.1 V.2.2
  let P := dpathF (min N.1 17) N.2.1 N.2.2 []
  (⟨(A.1 : Int), (B.1 : Int), K.1, V.1, P.1⟩, P.2.1, P.2.2)
def dleavesF : Nat → Int → Bs → List Lf → List Lf × Int × Bs
  | 0, e, s, acc => (acc, e, s)
  | n + 1, e, s, acc => dleavesF n (dleafF e s).2.1 (dleafF e s).2.2 (acc ++ [(dleafF e s).1])
theorem dpath_back : ∀ (p : List Bs) (acc : List Bs) (s1 : Bs), (∀ d ∈ p, d.length = 32) → dpathF p.length 0 (p.flatten ++ s1) acc = (acc ++ p, 0, s1)
  | [], acc, s1, _ => by rw [List.append_nil]; rfl
  | d :: p, acc, s1, hd => by
    have h := (raw_iff9 (e := 0) (n := 32) (s := (d :: p).flatten ++ s1) (t := d) (s1 := p.flatten ++ s1)).2 ⟨rfl, hd d (List.mem_cons_self ..), by rw [List.flatten_cons, List.append_assoc]⟩
    obtain ⟨a, b⟩ := Prod.mk.inj h
    obtain ⟨b, c⟩ := Prod.mk.inj b
    have a : rdT 0 32 ((d :: p).flatten ++ s1) = d := a
    have b : rdE 0 32 ((d :: p).flatten ++ s1) = 0 := b
    have c : rdS 0 32 ((d :: p).flatten ++ s1) = p.flatten ++ s1 := c
    rw [List.length_cons, dpathF, a, b, c, dpath_back p _ s1 (fun x hx => hd x (List.mem_cons_of_mem _ hx)), List.append_assoc]
    rfl
theorem dnum_back {v : Nat} {s1 : Bs} (h : v ≤ 4096) : numF 0 (beb v 8 ++ s1) = (v, 0, s1) := by
  have := (num_iff (k := 8) (e := 0) (s := beb v 8 ++ s1) (s1 := s1) (v := v) (by omega)).2 ⟨rfl, Nat.lt_of_le_of_lt h (by decide), rfl⟩
  obtain ⟨a, b⟩ := Prod.mk.inj this
  obtain ⟨b, c⟩ := Prod.mk.inj b
  have a : rdV 0 8 (beb v 8 ++ s1) = v := a
  have b : rdE 0 8 (beb v 8 ++ s1) = 0 := b
  have c : rdS 0 8 (beb v 8 ++ s1) = s1 := c
  unfold numF
  rw [a, b, c, Nat.mod_eq_of_lt (by omega)]
theorem dleaf_back {x : Lf} {s1 : Bs} (hx : okLf x) : dleafF 0 (putL x ++ s1) = (x, 0, s1) := by
  have hi := hx.i
  have hc := hx.c
  have ek := hx.k
  have ev := hx.v
  have ep := hx.p
  have h0 : putL x ++ s1 = beb x.i.toNat 8 ++ (beb x.c.toNat 8 ++ (beb x.k.length 2 ++ x.k ++ (beb x.v.length 2 ++ x.v ++ (beb x.p.length 1 ++ (x.p.flatten ++ s1))))) := by unfold putL headL; simp only [List.append_assoc]
  unfold dleafF
  rw [h0, dnum_back (by omega)]
  dsimp only
  rw [dnum_back (by omega)]
  dsimp only
  rw [(text_iff (t := x.k) (s1 := beb x.v.length 2 ++ x.v ++ (beb x.p.length 1 ++ (x.p.flatten ++ s1)))).2 ⟨rfl, by omega, rfl⟩]
  dsimp only
  rw [(text_iff (t := x.v) (s1 := beb x.p.length 1 ++ (x.p.flatten ++ s1))).2 ⟨rfl, by omega, rfl⟩]
  dsimp only
  rw [(byte_iff (v := x.p.length) (s1 := x.p.flatten ++ s1)).2 ⟨rfl, by omega, rfl⟩]
  dsimp only
  rw [Nat.min_eq_left (by omega), dpath_back x.p [] s1 hx.d, List.nil_append]
  have h1 : ((x.i.toNat : Nat) : Int) = x.i := Int.toNat_of_nonneg hi.1
  have h2 : ((x.c.toNat : Nat) : Int) = x.c := Int.toNat_of_nonneg hc.1
  rw [h1, h2]
theorem dleaves_back : ∀ (L : List Lf) (acc : List Lf) (s1 : Bs), (∀ x ∈ L, okLf x) → dleavesF L.length 0 ((L.map putL).flatten ++ s1) acc = (acc ++ L, 0, s1)
  | [], acc, s1, _ => by rw [List.append_nil]; rfl
  | x :: L, acc, s1, h => by
    rw [List.length_cons, dleavesF, List.map_cons, List.flatten_cons, List.append_assoc, dleaf_back (h x (List.mem_cons_self ..))]
    rw [dleaves_back L _ s1 (fun y hy => h y (List.mem_cons_of_mem _ hy)), List.append_assoc]
    rfl
open Classical in
theorem dparse_law {s : Bs} {A B : Nat × Int × Bs} {R : List Lf × Int × Bs} (hA : byteF 0 s = A) (hB : byteF A.2.1 A.2.2 = B) (hR : dleavesF (min B.1 3) B.2.1 B.2.2 [] = R) :
    parseV s = if bytesV (decide ((A.1 : Int) = 2)) R.1 = (s, 0) then ((decide ((A.1 : Int) = 2), R.1), 0) else ((false, []), 5) := by
  by_cases h : ∃ r : Bool × List Lf, fitsX r.2 ∧ bytesX r.1 r.2 = s
  · obtain ⟨⟨a, L⟩, hf, hr⟩ := h
    obtain ⟨q1, q2⟩ := parse_parts hA hB hf hr
    have l1 := hf.1
    have l1 : L.length ≤ 2 := l1
    subst q2
    have hback := dleaves_back L [] [] hf.2
    rw [List.append_nil, List.nil_append] at hback
    have hR2 : dleavesF (min L.length 3) 0 ((L.map putL).flatten) [] = R := hR
    rw [Nat.min_eq_left (by omega), hback] at hR2
    subst hR2
    have hd : decide ((A.1 : Int) = 2) = a := by
      have q1 : A.1 = if a then 2 else 1 := q1
      rw [q1]
      cases a <;> rfl
    rw [hd, if_pos (by unfold bytesV; rw [if_pos hf, hr]), parseV_yes hf hr]
  · rw [parseV_no h, if_neg ?_]
    intro q
    unfold bytesV at q
    split at q
    · rename_i hf
      exact h ⟨(_, _), hf, (Prod.mk.inj q).1⟩
    · cases (Prod.mk.inj q).2
end Go.LX
end
section
set_option maxRecDepth 100000
set_option maxHeartbeats 2000000
set_option autoImplicit false
set_option linter.unusedVariables false
set_option linter.unusedSimpArgs false
namespace Go.LX
open Go.Proofs

open Classical in
theorem rparse_c : Meets Tryz.prog [] 21 pparseS := by
  refine meets_of Γok Tryz.func21 rfl ?_
  intro args H Q h
  unfold pparseS at h
  split at h
  case h_2 => exact h.elim
  rename_i S
  obtain ⟨hS, h⟩ := h
  have hd0 : S.drop 0 = S := List.drop_zero
  have hA0 := rdV_lt1 0 S
  obtain ⟨A, hA⟩ : ∃ A, byteF 0 S = A := ⟨_, rfl⟩
  have hA1 : A.1 < 256 := by rw [← hA]; exact hA0
  have hB0 := rdV_lt1 A.2.1 A.2.2
  obtain ⟨B, hB⟩ : ∃ B, byteF A.2.1 A.2.2 = B := ⟨_, rfl⟩
  have hB1 : B.1 < 256 := by rw [← hB]; exact hB0
  obtain ⟨R, hR⟩ : ∃ R, dleavesF (min B.1 3) B.2.1 B.2.2 [] = R := ⟨_, rfl⟩
  have hlaw := dparse_law hA hB hR
  (refine sx_sound Γok _ ?_; conv => whnf)
  (repeat (first | (exact Out.same; conv => whnf) | (exact Out1.same; conv => whnf) | (refine QAnd.mk ?_ ?_; conv => whnf) | (apply QStepH.go; conv => whnf) | (refine Both.lit_true ?_; conv => whnf) | (refine Both.lit_false ?_; conv => whnf) | (apply QStep.go; conv => whnf) | (refine Need.au ?_; conv => whnf) | (refine ⟨_, rfl, ?_⟩; conv => whnf)))
  refine CallVC.auto dbyte_k ⟨0, rfl, Nat.zero_le _, hS, fun a1 ha1 hd1 => ?_⟩
  rw [hd0, hA] at hd1 ⊢
  (conv => whnf)
  (repeat (first | (exact Out.same; conv => whnf) | (exact Out1.same; conv => whnf) | (refine QAnd.mk ?_ ?_; conv => whnf) | (apply QStepH.go; conv => whnf) | (refine Both.lit_true ?_; conv => whnf) | (refine Both.lit_false ?_; conv => whnf) | (apply QStep.go; conv => whnf) | (refine Need.au ?_; conv => whnf) | (refine ⟨_, rfl, ?_⟩; conv => whnf)))
  refine CallVC.auto dbyte_k ⟨a1, rfl, ha1, hS, fun a2 ha2 hd2 => ?_⟩
  rw [hd1, hB] at hd2 ⊢
  (conv => whnf)
  (repeat (first | (exact Out.same; conv => whnf) | (exact Out1.same; conv => whnf) | (refine QAnd.mk ?_ ?_; conv => whnf) | (apply QStepH.go; conv => whnf) | (refine Both.lit_true ?_; conv => whnf) | (refine Both.lit_false ?_; conv => whnf) | (apply QStep.go; conv => whnf) | (refine Need.au ?_; conv => whnf) | (refine ⟨_, rfl, ?_⟩; conv => whnf)))
  refine LoopVC.postWeak ?_
  refine loop_rule (fun x : Nat × Int × Nat × List Lf => match x with | (i, e, a, acc) => ⟨[.str S, .any, .ptr 0 0, .any, .ptr 1 0, .ptr 2 0, .int .i64 (B.1 : Int), .int .i64 (i : Int), .any, .any, .any, .any, .any, .any, .any, .any, .any, .any, .any, .any, .any, .any, .any, .any, .any, .any, .any, .any, .any, .any, .any, .any, .any, .any, .any, .any, .any, .any, .any, .any, .any, .any, .any, .any, .any, .any, .any, .any, .any, .any, .any, .any, .any, .any, .any, .any, .any, .any, .any, .any, .any, .any, .any, .any, .any, .any, .any, .any, .any, .any, .any, .any, .any, .any, .any, .any, .any, .any, .any, .any, .any, .any, .any, .any, .any, .any, .any, .any, .any], [.cells [.bool false, .nilsl] 42, .cells [.str S, .int .i64 (a : Int), .int .i64 e] 93, .cells [.bool (decide ((A.1 : Int) = 2)), .own 3] 42, .own 50 5 acc.length (flL acc) true]⟩) (fun x => match x with | (i, e, a, acc) => dleavesF (min B.1 3 - i) e (S.drop a) acc = R ∧ a ≤ S.length ∧ acc.length = i ∧ i ≤ min B.1 3 ∧ ∀ x ∈ acc, x.p.length ≤ 17) (fun x => match x with | (i, e, a, acc) => 3 - i) (0, B.2.1, a2, []) ⟨by rw [hd2]; exact hR, ha2, rfl, Nat.zero_le _, fun x hx => by cases hx⟩ ((Weak.ownNil 2 1 50 5 rfl rfl).trans (Weak.auto ?_)) ?_
  · (repeat' ((conv => whnf); first | exact True.intro | (refine And.intro ?_ ?_)))
    all_goals first | rfl | exact .eq rfl
  rintro ⟨i, e, a, acc⟩ ⟨hI, ha, hai, hiB, hp⟩
  have e0e : True := trivial
  (refine sx_sound Γok _ ?_; conv => whnf)
  (repeat (first | (exact Out.same; conv => whnf) | (exact Out1.same; conv => whnf) | (refine QAnd.mk ?_ ?_; conv => whnf) | (apply QStepH.go; conv => whnf) | (refine Both.lit_true ?_; conv => whnf) | (refine Both.lit_false ?_; conv => whnf) | (apply QStep.go; conv => whnf) | (refine Need.au ?_; conv => whnf) | (refine ⟨_, rfl, ?_⟩; conv => whnf)))
  refine Both.dec (fun h1 => ?_) (fun h1 => ?_)
  case refine_2 =>
    have hend : min B.1 3 - i = 0 := by omega
    rw [hend, dleavesF] at hI
    subst hI
    have hL6 : acc.length ≤ 1000000 := by omega
    have hpm : ∀ x ∈ acc, x.p.length ≤ 9223372036854775807 := fun x hx => Nat.le_trans (hp x hx) (by decide)
    (conv => whnf)
    (repeat (first | (exact Out.same; conv => whnf) | (exact Out1.same; conv => whnf) | (refine QAnd.mk ?_ ?_; conv => whnf) | (apply QStepH.go; conv => whnf) | (refine Both.lit_true ?_; conv => whnf) | (refine Both.lit_false ?_; conv => whnf) | (apply QStep.go; conv => whnf) | (refine Need.au ?_; conv => whnf) | (refine ⟨_, rfl, ?_⟩; conv => whnf)))
    refine ⟨_, Weak.pub 3 2 rfl rfl, ?_⟩
    (conv => whnf)
    (repeat (first | (exact Out.same; conv => whnf) | (exact Out1.same; conv => whnf) | (refine QAnd.mk ?_ ?_; conv => whnf) | (apply QStepH.go; conv => whnf) | (refine Both.lit_true ?_; conv => whnf) | (refine Both.lit_false ?_; conv => whnf) | (apply QStep.go; conv => whnf) | (refine Need.au ?_; conv => whnf) | (refine ⟨_, rfl, ?_⟩; conv => whnf)))
    refine CallVC.auto rbytes9_k ⟨acc, rfl, rfl, hL6, hpm, fun t f htf => ?_⟩
    have htf : (t, f) = bytesV (decide ((A.1 : Int) = 2)) acc := htf
    have hlaw : parseV S = if (t, f) = (S, (0 : Int)) then ((decide ((A.1 : Int) = 2), acc), 0) else ((false, []), 5) := by rw [htf]; exact hlaw
    by_cases hf0 : f = 0
    · by_cases hts : t = S
      · rw [if_pos (by rw [hf0, hts])] at hlaw
        have h := h _ _ _ hlaw
        have c1 : (!decide (f = 0)) = false := by rw [decide_eq_true hf0]; rfl
        have c2 : (!decide (t = S)) = false := by rw [decide_eq_true hts]; rfl
        (conv => whnf)
        (repeat (first | (refine Both.of_false c1 ?_; conv => whnf) | (refine Both.of_false c2 ?_; conv => whnf) | (refine Need.mk ⟨rfl, rfl, far2⟩ ?_; conv => whnf) | (exact Out.same; conv => whnf) | (exact Out1.same; conv => whnf) | (refine QAnd.mk ?_ ?_; conv => whnf) | (apply QStepH.go; conv => whnf) | (refine Both.lit_true ?_; conv => whnf) | (refine Both.lit_false ?_; conv => whnf) | (apply QStep.go; conv => whnf) | (refine Need.au ?_; conv => whnf) | (refine ⟨_, rfl, ?_⟩; conv => whnf)))
        exact ⟨_, _, WeakV.drop rfl, h⟩
      · rw [if_neg (fun q => hts (Prod.mk.inj q).1)] at hlaw
        have h := h _ _ _ hlaw
        have c1 : (!decide (f = 0)) = false := by rw [decide_eq_true hf0]; rfl
        have c2 : (!decide (t = S)) = true := by rw [decide_eq_false hts]; rfl
        (conv => whnf)
        (repeat (first | (refine Both.of_false c1 ?_; conv => whnf) | (refine Both.of_true c2 ?_; conv => whnf) | (exact Out.same; conv => whnf) | (exact Out1.same; conv => whnf) | (refine QAnd.mk ?_ ?_; conv => whnf) | (apply QStepH.go; conv => whnf) | (refine Both.lit_true ?_; conv => whnf) | (refine Both.lit_false ?_; conv => whnf) | (apply QStep.go; conv => whnf) | (refine Need.au ?_; conv => whnf) | (refine ⟨_, rfl, ?_⟩; conv => whnf)))
        exact ⟨_, _, (WeakV.drop rfl).trans (WeakV.val fun E w v => vr_nil2 5), h⟩
    · rw [if_neg (fun q => hf0 (Prod.mk.inj q).2)] at hlaw
      have h := h _ _ _ hlaw
      have c1 : (!decide (f = 0)) = true := by rw [decide_eq_false hf0]; rfl
      (conv => whnf)
      (repeat (first | (refine Both.of_true c1 ?_; conv => whnf) | (exact Out.same; conv => whnf) | (exact Out1.same; conv => whnf) | (refine QAnd.mk ?_ ?_; conv => whnf) | (apply QStepH.go; conv => whnf) | (refine Both.lit_true ?_; conv => whnf) | (refine Both.lit_false ?_; conv => whnf) | (apply QStep.go; conv => whnf) | (refine Need.au ?_; conv => whnf) | (refine ⟨_, rfl, ?_⟩; conv => whnf)))
      exact ⟨_, _, (WeakV.drop rfl).trans (WeakV.val fun E w v => vr_nil2 5), h⟩
  (conv => whnf)
  (repeat (first | (exact Out.same; conv => whnf) | (exact Out1.same; conv => whnf) | (refine QAnd.mk ?_ ?_; conv => whnf) | (apply QStepH.go; conv => whnf) | (refine Both.lit_true ?_; conv => whnf) | (refine Both.lit_false ?_; conv => whnf) | (apply QStep.go; conv => whnf) | (refine Need.au ?_; conv => whnf) | (refine ⟨_, rfl, ?_⟩; conv => whnf)))
  refine Both.dec (fun h2 => ?_) (fun h2 => ?_)
  case refine_2 =>
    have hend : min B.1 3 - i = 0 := by omega
    rw [hend, dleavesF] at hI
    subst hI
    have hL6 : acc.length ≤ 1000000 := by omega
    have hpm : ∀ x ∈ acc, x.p.length ≤ 9223372036854775807 := fun x hx => Nat.le_trans (hp x hx) (by decide)
    (conv => whnf)
    (repeat (first | (exact Out.same; conv => whnf) | (exact Out1.same; conv => whnf) | (refine QAnd.mk ?_ ?_; conv => whnf) | (apply QStepH.go; conv => whnf) | (refine Both.lit_true ?_; conv => whnf) | (refine Both.lit_false ?_; conv => whnf) | (apply QStep.go; conv => whnf) | (refine Need.au ?_; conv => whnf) | (refine ⟨_, rfl, ?_⟩; conv => whnf)))
    refine ⟨_, Weak.pub 3 2 rfl rfl, ?_⟩
    (conv => whnf)
    (repeat (first | (exact Out.same; conv => whnf) | (exact Out1.same; conv => whnf) | (refine QAnd.mk ?_ ?_; conv => whnf) | (apply QStepH.go; conv => whnf) | (refine Both.lit_true ?_; conv => whnf) | (refine Both.lit_false ?_; conv => whnf) | (apply QStep.go; conv => whnf) | (refine Need.au ?_; conv => whnf) | (refine ⟨_, rfl, ?_⟩; conv => whnf)))
    refine CallVC.auto rbytes9_k ⟨acc, rfl, rfl, hL6, hpm, fun t f htf => ?_⟩
    have htf : (t, f) = bytesV (decide ((A.1 : Int) = 2)) acc := htf
    have hlaw : parseV S = if (t, f) = (S, (0 : Int)) then ((decide ((A.1 : Int) = 2), acc), 0) else ((false, []), 5) := by rw [htf]; exact hlaw
    by_cases hf0 : f = 0
    · by_cases hts : t = S
      · rw [if_pos (by rw [hf0, hts])] at hlaw
        have h := h _ _ _ hlaw
        have c1 : (!decide (f = 0)) = false := by rw [decide_eq_true hf0]; rfl
        have c2 : (!decide (t = S)) = false := by rw [decide_eq_true hts]; rfl
        (conv => whnf)
        (repeat (first | (refine Both.of_false c1 ?_; conv => whnf) | (refine Both.of_false c2 ?_; conv => whnf) | (refine Need.mk ⟨rfl, rfl, far2⟩ ?_; conv => whnf) | (exact Out.same; conv => whnf) | (exact Out1.same; conv => whnf) | (refine QAnd.mk ?_ ?_; conv => whnf) | (apply QStepH.go; conv => whnf) | (refine Both.lit_true ?_; conv => whnf) | (refine Both.lit_false ?_; conv => whnf) | (apply QStep.go; conv => whnf) | (refine Need.au ?_; conv => whnf) | (refine ⟨_, rfl, ?_⟩; conv => whnf)))
        exact ⟨_, _, WeakV.drop rfl, h⟩
      · rw [if_neg (fun q => hts (Prod.mk.inj q).1)] at hlaw
        have h := h _ _ _ hlaw
        have c1 : (!decide (f = 0)) = false := by rw [decide_eq_true hf0]; rfl
        have c2 : (!decide (t = S)) = true := by rw [decide_eq_false hts]; rfl
        (conv => whnf)
        (repeat (first | (refine Both.of_false c1 ?_; conv => whnf) | (refine Both.of_true c2 ?_; conv => whnf) | (exact Out.same; conv => whnf) | (exact Out1.same; conv => whnf) | (refine QAnd.mk ?_ ?_; conv => whnf) | (apply QStepH.go; conv => whnf) | (refine Both.lit_true ?_; conv => whnf) | (refine Both.lit_false ?_; conv => whnf) | (apply QStep.go; conv => whnf) | (refine Need.au ?_; conv => whnf) | (refine ⟨_, rfl, ?_⟩; conv => whnf)))
        exact ⟨_, _, (WeakV.drop rfl).trans (WeakV.val fun E w v => vr_nil2 5), h⟩
    · rw [if_neg (fun q => hf0 (Prod.mk.inj q).2)] at hlaw
      have h := h _ _ _ hlaw
      have c1 : (!decide (f = 0)) = true := by rw [decide_eq_false hf0]; rfl
      (conv => whnf)
      (repeat (first | (refine Both.of_true c1 ?_; conv => whnf) | (exact Out.same; conv => whnf) | (exact Out1.same; conv => whnf) | (refine QAnd.mk ?_ ?_; conv => whnf) | (apply QStepH.go; conv => whnf) | (refine Both.lit_true ?_; conv => whnf) | (refine Both.lit_false ?_; conv => whnf) | (apply QStep.go; conv => whnf) | (refine Need.au ?_; conv => whnf) | (refine ⟨_, rfl, ?_⟩; conv => whnf)))
      exact ⟨_, _, (WeakV.drop rfl).trans (WeakV.val fun E w v => vr_nil2 5), h⟩
  have hi1 : IntKind.i64.wrap ((i : Int) + 1) = ((i + 1 : Nat) : Int) := by rw [wrap_i64 (by omega) (by omega)]; rfl
  have hcap : (acc.length + 1) * ti50.bytes ≤ 140737488355328 := by
    show (acc.length + 1) * 72 ≤ _
    omega
  rw [show min B.1 3 - i = (min B.1 3 - (i + 1)) + 1 by omega, dleavesF] at hI
  have hD0 : dleafF e (S.drop a) = dleafF e (S.drop a) := rfl
  obtain ⟨e0, he0⟩ : ∃ e0, e = e0 := ⟨_, rfl⟩
  subst he0
  have hD : dleafF e (S.drop a) = dleafF e (S.drop a) := rfl
  conv at hD => rhs; unfold dleafF
  obtain ⟨X1, hX1⟩ : ∃ X, numF e (S.drop a) = X := ⟨_, rfl⟩
  rw [hX1] at hD
  dsimp only at hD
  obtain ⟨X2, hX2⟩ : ∃ X, numF X1.2.1 X1.2.2 = X := ⟨_, rfl⟩
  rw [hX2] at hD
  obtain ⟨X3, hX3⟩ : ∃ X, textF X2.2.1 X2.2.2 = X := ⟨_, rfl⟩
  rw [hX3] at hD
  obtain ⟨X4, hX4⟩ : ∃ X, textF X3.2.1 X3.2.2 = X := ⟨_, rfl⟩
  rw [hX4] at hD
  have hN0 := rdV_lt1 X4.2.1 X4.2.2
  obtain ⟨N, hN⟩ : ∃ N, byteF X4.2.1 X4.2.2 = N := ⟨_, rfl⟩
  have hN1 : N.1 < 256 := by rw [← hN]; exact hN0
  rw [hN] at hD
  obtain ⟨P, hP⟩ : ∃ P, dpathF (min N.1 17) N.2.1 N.2.2 [] = P := ⟨_, rfl⟩
  rw [hP] at hD
  (conv => whnf)
  (repeat (first | (exact Out.same; conv => whnf) | (exact Out1.same; conv => whnf) | (refine QAnd.mk ?_ ?_; conv => whnf) | (apply QStepH.go; conv => whnf) | (refine Both.lit_true ?_; conv => whnf) | (refine Both.lit_false ?_; conv => whnf) | (apply QStep.go; conv => whnf) | (refine Need.au ?_; conv => whnf) | (refine ⟨_, rfl, ?_⟩; conv => whnf)))
  refine CallVC.auto dnum_k ⟨a, rfl, ha, hS, fun b1 hb1 hr1 => ?_⟩
  rw [hX1] at hr1 ⊢
  (conv => whnf)
  (repeat (first | (exact Out.same; conv => whnf) | (exact Out1.same; conv => whnf) | (refine QAnd.mk ?_ ?_; conv => whnf) | (apply QStepH.go; conv => whnf) | (refine Both.lit_true ?_; conv => whnf) | (refine Both.lit_false ?_; conv => whnf) | (apply QStep.go; conv => whnf) | (refine Need.au ?_; conv => whnf) | (refine ⟨_, rfl, ?_⟩; conv => whnf)))
  refine CallVC.auto dnum_k ⟨b1, rfl, hb1, hS, fun b2 hb2 hr2 => ?_⟩
  rw [hr1, hX2] at hr2 ⊢
  (conv => whnf)
  (repeat (first | (exact Out.same; conv => whnf) | (exact Out1.same; conv => whnf) | (refine QAnd.mk ?_ ?_; conv => whnf) | (apply QStepH.go; conv => whnf) | (refine Both.lit_true ?_; conv => whnf) | (refine Both.lit_false ?_; conv => whnf) | (apply QStep.go; conv => whnf) | (refine Need.au ?_; conv => whnf) | (refine ⟨_, rfl, ?_⟩; conv => whnf)))
  refine CallVC.auto dtext_k ⟨b2, rfl, hb2, hS, fun b3 hb3 hr3 => ?_⟩
  rw [hr2, hX3] at hr3 ⊢
  (conv => whnf)
  (repeat (first | (exact Out.same; conv => whnf) | (exact Out1.same; conv => whnf) | (refine QAnd.mk ?_ ?_; conv => whnf) | (apply QStepH.go; conv => whnf) | (refine Both.lit_true ?_; conv => whnf) | (refine Both.lit_false ?_; conv => whnf) | (apply QStep.go; conv => whnf) | (refine Need.au ?_; conv => whnf) | (refine ⟨_, rfl, ?_⟩; conv => whnf)))
  refine CallVC.auto dtext_k ⟨b3, rfl, hb3, hS, fun b4 hb4 hr4 => ?_⟩
  rw [hr3, hX4] at hr4 ⊢
  (conv => whnf)
  (repeat (first | (exact Out.same; conv => whnf) | (exact Out1.same; conv => whnf) | (refine QAnd.mk ?_ ?_; conv => whnf) | (apply QStepH.go; conv => whnf) | (refine Both.lit_true ?_; conv => whnf) | (refine Both.lit_false ?_; conv => whnf) | (apply QStep.go; conv => whnf) | (refine Need.au ?_; conv => whnf) | (refine ⟨_, rfl, ?_⟩; conv => whnf)))
  refine CallVC.auto dbyte_k ⟨b4, rfl, hb4, hS, fun b5 hb5 hr5 => ?_⟩
  rw [hr4, hN] at hr5 ⊢
  (conv => whnf)
  (repeat (first | (exact Out.same; conv => whnf) | (exact Out1.same; conv => whnf) | (refine QAnd.mk ?_ ?_; conv => whnf) | (apply QStepH.go; conv => whnf) | (refine Both.lit_true ?_; conv => whnf) | (refine Both.lit_false ?_; conv => whnf) | (apply QStep.go; conv => whnf) | (refine Need.au ?_; conv => whnf) | (refine ⟨_, rfl, ?_⟩; conv => whnf)))
  have ha0 := ha
  obtain ⟨e0, he0⟩ : ∃ e0, e = e0 := ⟨_, rfl⟩
  refine LoopVC.postWeak ?_
  refine loop_rule (fun x : Nat × Int × Nat × List Bs => match x with | (m, e, b, q) => ⟨[.str S, .any, .ptr 0 0, .any, .ptr 1 0, .ptr 2 0, .int .i64 (B.1 : Int), .int .i64 (i : Int), .ptr 4 0, .int .i64 (N.1 : Int), .int .i64 (m : Int), .any, .any, .any, .any, .any, .any, .any, .any, .any, .any, .any, .any, .any, .any, .any, .any, .any, .any, .any, .any, .any, .any, .any, .any, .any, .any, .any, .any, .any, .any, .any, .any, .any, .any, .any, .any, .any, .any, .any, .any, .any, .any, .any, .any, .any, .any, .any, .any, .any, .any, .any, .any, .any, .any, .any, .any, .any, .any, .any, .any, .any, .any, .any, .any, .any, .any, .any, .any, .any, .any, .any, .any, .any, .any, .any, .any, .any, .any], [.cells [.bool false, .nilsl] 42, .cells [.str S, .int .i64 (b : Int), .int .i64 e] 93, .cells [.bool (decide ((A.1 : Int) = 2)), .own 3] 42, .own 50 5 acc.length (flL acc) true, .cells [.int .i64 (X1.1 : Int), .int .i64 (X2.1 : Int), .str X3.1, .str X4.1, .own 5] 50, .own 9 1 q.length (strs q) true]⟩) (fun x => match x with | (m, e, b, q) => dpathF (min N.1 17 - m) e (S.drop b) q = P ∧ b ≤ S.length ∧ q.length = m ∧ m ≤ min N.1 17) (fun x => match x with | (m, e, b, q) => 17 - m) (0, N.2.1, b5, []) ⟨by rw [hr5]; exact hP, hb5, rfl, Nat.zero_le _⟩ ((Weak.ownNil 4 4 9 1 rfl rfl).trans (Weak.auto ?_)) ?_
  · (repeat' ((conv => whnf); first | exact True.intro | (refine And.intro ?_ ?_)))
    all_goals first | rfl | exact .eq rfl
  subst he0
  obtain ⟨e0, he0⟩ : ∃ e0, e = e0 := ⟨_, rfl⟩
  rw [he0] at hI hD
  rintro ⟨m, e, b, q⟩ ⟨hJ, hb, hqm, hmN⟩
  (refine sx_sound Γok _ ?_; conv => whnf)
  (repeat (first | (exact Out.same; conv => whnf) | (exact Out1.same; conv => whnf) | (refine QAnd.mk ?_ ?_; conv => whnf) | (apply QStepH.go; conv => whnf) | (refine Both.lit_true ?_; conv => whnf) | (refine Both.lit_false ?_; conv => whnf) | (apply QStep.go; conv => whnf) | (refine Need.au ?_; conv => whnf) | (refine ⟨_, rfl, ?_⟩; conv => whnf)))
  refine Both.dec (fun g1 => ?_) (fun g1 => ?_)
  case refine_2 =>
    have hend2 : min N.1 17 - m = 0 := by omega
    rw [hend2, dpathF] at hJ
    subst hJ
    have hDe : dleafF e0 (S.drop a) = (⟨(X1.1 : Int), (X2.1 : Int), X3.1, X4.1, q⟩, e, S.drop b) := by rw [hD]
    rw [hDe] at hI
    dsimp only at hI
    have hB2 : (acc ++ [(⟨(X1.1 : Int), (X2.1 : Int), X3.1, X4.1, q⟩ : Lf)]).length = i + 1 := by rw [List.length_append, List.length_singleton, hai]
    have hC2 : i + 1 ≤ min B.1 3 := by omega
    have hD2 : 3 - (i + 1) < 3 - i := by omega
    have hp2 : ∀ x ∈ acc ++ [(⟨(X1.1 : Int), (X2.1 : Int), X3.1, X4.1, q⟩ : Lf)], x.p.length ≤ 17 := fun x hx => by
      rcases List.mem_append.1 hx with hx | hx
      · exact hp x hx
      · rw [List.mem_singleton.1 hx]
        show q.length ≤ 17
        omega
    have end1 : LObj.own 50 5 (acc.length + 1) (flL acc ++ [.int .i64 (X1.1 : Int), .int .i64 (X2.1 : Int), .str X3.1, .str X4.1, .sl 1 q.length (strs q) false]) true = .own 50 5 (acc ++ [(⟨(X1.1 : Int), (X2.1 : Int), X3.1, X4.1, q⟩ : Lf)]).length (flL (acc ++ [(⟨(X1.1 : Int), (X2.1 : Int), X3.1, X4.1, q⟩ : Lf)])) true := by
      rw [flL_app, flL_one, List.length_append]
      rfl
    (conv => whnf)
    (repeat (first | (exact Out.same; conv => whnf) | (exact Out1.same; conv => whnf) | (refine QAnd.mk ?_ ?_; conv => whnf) | (apply QStepH.go; conv => whnf) | (refine Both.lit_true ?_; conv => whnf) | (refine Both.lit_false ?_; conv => whnf) | (apply QStep.go; conv => whnf) | (refine Need.au ?_; conv => whnf) | (refine ⟨_, rfl, ?_⟩; conv => whnf)))
    refine ⟨_, Weak.pub 5 4 rfl rfl, ?_⟩
    (conv => whnf)
    (repeat (first | (refine Need.mk hcap ?_; conv => whnf) | (exact Out.same; conv => whnf) | (exact Out1.same; conv => whnf) | (refine QAnd.mk ?_ ?_; conv => whnf) | (apply QStepH.go; conv => whnf) | (refine Both.lit_true ?_; conv => whnf) | (refine Both.lit_false ?_; conv => whnf) | (apply QStep.go; conv => whnf) | (refine Need.au ?_; conv => whnf) | (refine ⟨_, rfl, ?_⟩; conv => whnf)))
    refine ⟨(i + 1, e, b, acc ++ [(⟨(X1.1 : Int), (X2.1 : Int), X3.1, X4.1, q⟩ : Lf)]), ⟨hI, hb, hB2, hC2, hp2⟩, hD2, Weak.auto ?_⟩
    (repeat' ((conv => whnf); first | exact True.intro | (refine And.intro ?_ ?_)))
    all_goals first | rfl | exact .eq rfl | exact congrArg (SV.int .i64) hi1 | exact end1 | exact .eq end1
  (conv => whnf)
  (repeat (first | (exact Out.same; conv => whnf) | (exact Out1.same; conv => whnf) | (refine QAnd.mk ?_ ?_; conv => whnf) | (apply QStepH.go; conv => whnf) | (refine Both.lit_true ?_; conv => whnf) | (refine Both.lit_false ?_; conv => whnf) | (apply QStep.go; conv => whnf) | (refine Need.au ?_; conv => whnf) | (refine ⟨_, rfl, ?_⟩; conv => whnf)))
  refine Both.dec (fun g2 => ?_) (fun g2 => ?_)
  case refine_2 =>
    have hend2 : min N.1 17 - m = 0 := by omega
    rw [hend2, dpathF] at hJ
    subst hJ
    have hDe : dleafF e0 (S.drop a) = (⟨(X1.1 : Int), (X2.1 : Int), X3.1, X4.1, q⟩, e, S.drop b) := by rw [hD]
    rw [hDe] at hI
    dsimp only at hI
    have hB2 : (acc ++ [(⟨(X1.1 : Int), (X2.1 : Int), X3.1, X4.1, q⟩ : Lf)]).length = i + 1 := by rw [List.length_append, List.length_singleton, hai]
    have hC2 : i + 1 ≤ min B.1 3 := by omega
    have hD2 : 3 - (i + 1) < 3 - i := by omega
    have hp2 : ∀ x ∈ acc ++ [(⟨(X1.1 : Int), (X2.1 : Int), X3.1, X4.1, q⟩ : Lf)], x.p.length ≤ 17 := fun x hx => by
      rcases List.mem_append.1 hx with hx | hx
      · exact hp x hx
      · rw [List.mem_singleton.1 hx]
        show q.length ≤ 17
        omega
    have end1 : LObj.own 50 5 (acc.length + 1) (flL acc ++ [.int .i64 (X1.1 : Int), .int .i64 (X2.1 : Int), .str X3.1, .str X4.1, .sl 1 q.length (strs q) false]) true = .own 50 5 (acc ++ [(⟨(X1.1 : Int), (X2.1 : Int), X3.1, X4.1, q⟩ : Lf)]).length (flL (acc ++ [(⟨(X1.1 : Int), (X2.1 : Int), X3.1, X4.1, q⟩ : Lf)])) true := by
      rw [flL_app, flL_one, List.length_append]
      rfl
    (conv => whnf)
    (repeat (first | (exact Out.same; conv => whnf) | (exact Out1.same; conv => whnf) | (refine QAnd.mk ?_ ?_; conv => whnf) | (apply QStepH.go; conv => whnf) | (refine Both.lit_true ?_; conv => whnf) | (refine Both.lit_false ?_; conv => whnf) | (apply QStep.go; conv => whnf) | (refine Need.au ?_; conv => whnf) | (refine ⟨_, rfl, ?_⟩; conv => whnf)))
    refine ⟨_, Weak.pub 5 4 rfl rfl, ?_⟩
    (conv => whnf)
    (repeat (first | (refine Need.mk hcap ?_; conv => whnf) | (exact Out.same; conv => whnf) | (exact Out1.same; conv => whnf) | (refine QAnd.mk ?_ ?_; conv => whnf) | (apply QStepH.go; conv => whnf) | (refine Both.lit_true ?_; conv => whnf) | (refine Both.lit_false ?_; conv => whnf) | (apply QStep.go; conv => whnf) | (refine Need.au ?_; conv => whnf) | (refine ⟨_, rfl, ?_⟩; conv => whnf)))
    refine ⟨(i + 1, e, b, acc ++ [(⟨(X1.1 : Int), (X2.1 : Int), X3.1, X4.1, q⟩ : Lf)]), ⟨hI, hb, hB2, hC2, hp2⟩, hD2, Weak.auto ?_⟩
    (repeat' ((conv => whnf); first | exact True.intro | (refine And.intro ?_ ?_)))
    all_goals first | rfl | exact .eq rfl | exact congrArg (SV.int .i64) hi1 | exact end1 | exact .eq end1
  have hm1 : IntKind.i64.wrap ((m : Int) + 1) = ((m + 1 : Nat) : Int) := by rw [wrap_i64 (by omega) (by omega)]; rfl
  have hcap2 : (q.length + 1) * ti9.bytes ≤ 140737488355328 := by
    show (q.length + 1) * 16 ≤ _
    omega
  rw [show min N.1 17 - m = (min N.1 17 - (m + 1)) + 1 by omega, dpathF] at hJ
  (conv => whnf)
  (repeat (first | (exact Out.same; conv => whnf) | (exact Out1.same; conv => whnf) | (refine QAnd.mk ?_ ?_; conv => whnf) | (apply QStepH.go; conv => whnf) | (refine Both.lit_true ?_; conv => whnf) | (refine Both.lit_false ?_; conv => whnf) | (apply QStep.go; conv => whnf) | (refine Need.au ?_; conv => whnf) | (refine ⟨_, rfl, ?_⟩; conv => whnf)))
  refine CallVC.auto mdoK_k ⟨b, rfl, hb, hS, .inr (.inr (.inr ⟨rfl, rfl, fun b' hb' hr' => ?_⟩))⟩
  rw [← hr'] at hJ
  have gA : (q ++ [rdT e 32 (S.drop b)]).length = m + 1 := by rw [List.length_append, List.length_singleton, hqm]
  have gB : m + 1 ≤ min N.1 17 := by omega
  have gC : 17 - (m + 1) < 17 - m := by omega
  have end3 : LObj.own 9 1 (q.length + 1) (strs q ++ [CV.str (rdT e 32 (S.drop b))]) true = .own 9 1 (q ++ [rdT e 32 (S.drop b)]).length (strs (q ++ [rdT e 32 (S.drop b)])) true := by
    rw [List.length_append, ← strs_app]
    rfl
  (conv => whnf)
  (repeat (first | (refine Need.mk hcap2 ?_; conv => whnf) | (exact Out.same; conv => whnf) | (exact Out1.same; conv => whnf) | (refine QAnd.mk ?_ ?_; conv => whnf) | (apply QStepH.go; conv => whnf) | (refine Both.lit_true ?_; conv => whnf) | (refine Both.lit_false ?_; conv => whnf) | (apply QStep.go; conv => whnf) | (refine Need.au ?_; conv => whnf) | (refine ⟨_, rfl, ?_⟩; conv => whnf)))
  refine ⟨(m + 1, rdE e 32 (S.drop b), b', q ++ [rdT e 32 (S.drop b)]), ⟨hJ, hb', gA, gB⟩, gC, Weak.auto ?_⟩
  (repeat' ((conv => whnf); first | exact True.intro | (refine And.intro ?_ ?_)))
  all_goals first | rfl | exact .eq rfl | exact congrArg (SV.int .i64) hm1 | exact end3 | exact .eq end3
theorem rparse_k : Contract Tryz.prog [] 21 pparseS := ⟨⟨⟨_, rfl, rfl, rfl⟩⟩, rparse_c⟩
end Go.LX
end
section
set_option maxRecDepth 100000
set_option maxHeartbeats 1000000
set_option autoImplicit false
set_option linter.unusedVariables false
set_option linter.unusedSimpArgs false
namespace Go.LX
open Go.Proofs Go.RowKit Go.ChangeShapes Go.WideShapes Go.ChangeAt
section
variable {H : Type} {enc : TypeId × Value → H} {W : World}
structure Lf.inR (x : Lf) : Prop where
  i : -9223372036854775808 ≤ x.i ∧ x.i ≤ 9223372036854775807
  c : -9223372036854775808 ≤ x.c ∧ x.c ≤ 9223372036854775807
  p : x.p.length ≤ 9223372036854775807
structure PrA where
  a : Bool
  L : List Lf
structure PrA.ok (r : PrA) : Prop where
  L : r.L.length ≤ 9223372036854775807
  p : ∀ x ∈ r.L, x.inR
end
end Go.LX
end
section
set_option maxRecDepth 100000
set_option maxHeartbeats 2000000
set_option autoImplicit false
set_option linter.unusedVariables false
set_option linter.unusedSimpArgs false
namespace Go.LX
open Go.Proofs

theorem parseV_cases (s : Bs) : (∃ a L, fitsX L ∧ bytesX a L = s ∧ parseV s = ((a, L), 0)) ∨ parseV s = ((false, []), 5) := by
  by_cases h : ∃ r : Bool × List Lf, fitsX r.2 ∧ bytesX r.1 r.2 = s
  · obtain ⟨⟨a, L⟩, hf, hr⟩ := h
    exact .inl ⟨a, L, hf, hr, parseV_yes hf hr⟩
  · exact .inr (parseV_no h)
theorem fits_sm {L : List Lf} (h : fitsX L) : L.length ≤ 1000000 ∧ L.length < 1000000 ∧ ∀ x ∈ L, x.p.length ≤ 9223372036854775807 := by
  have := h.1
  exact ⟨by omega, by omega, fun x hx => Nat.le_trans (h.2 x hx).p (by decide)⟩
end Go.LX
end
section
set_option maxRecDepth 100000
set_option maxHeartbeats 2000000
set_option autoImplicit false
set_option linter.unusedVariables false
set_option linter.unusedSimpArgs false
namespace Go.LX
open Go.Proofs

def goodC (root : Bs) (x : Lf) : Bool := (climbP (txLeaf (x.k, x.v)) x.i x.c x.p).2 && decide ((climbP (txLeaf (x.k, x.v)) x.i x.c x.p).1 = root)
def clb1S : Spec := fun args H Q => match args, H with
  | [.agg [.int .i64 i, .int .i64 c, .str k, .str v, .sl 1 n cs false], .ptr 0 0], [.cells [.str root] 9] => ∃ p : List Bs, cs = strs p ∧ n = p.length ∧ p.length < 1000000 ∧ k.length < 50000 ∧ v.length < 50000 ∧
      Q (.bool (!goodC root ⟨i, c, k, v, p⟩)) [.cells [.str root] 9]
  | _, _ => False
theorem clb1_c {y0 : CV} {cs0 : List CV} (hK : KAt y0 cs0) : Meets Tryz.prog [(0, y0 :: cs0)] 44 clb1S := by
  refine meets_of Γok Tryz.func44 rfl ?_
  intro args H Q h
  unfold clb1S at h
  split at h
  case h_2 => exact h.elim
  rename_i i c k v n cs root
  obtain ⟨p, rfl, rfl, hp, hk, hv, h⟩ := h
  unfold goodC at h
  dsimp only at h
  obtain ⟨X, hX⟩ : ∃ X, climbP (txLeaf (k, v)) i c p = X := ⟨_, rfl⟩
  rw [hX] at h
  (refine sx_sound Γok _ ?_; conv => whnf)
  (repeat (first | (exact Out.same; conv => whnf) | (exact Out1.same; conv => whnf) | (refine QAnd.mk ?_ ?_; conv => whnf) | (apply QStepH.go; conv => whnf) | (refine Both.lit_true ?_; conv => whnf) | (refine Both.lit_false ?_; conv => whnf) | (apply QStep.go; conv => whnf) | (refine Need.au ?_; conv => whnf) | (refine ⟨_, rfl, ?_⟩; conv => whnf)))
  refine CallVC.auto (climb_k hK) ⟨p, rfl, rfl, hp, hk, hv, ?_⟩
  rw [hX]
  cases hx2 : X.2 with
  | false =>
    rw [hx2] at h
    (conv => whnf)
    (repeat (first | (exact Out.same; conv => whnf) | (exact Out1.same; conv => whnf) | (refine QAnd.mk ?_ ?_; conv => whnf) | (apply QStepH.go; conv => whnf) | (refine Both.lit_true ?_; conv => whnf) | (refine Both.lit_false ?_; conv => whnf) | (apply QStep.go; conv => whnf) | (refine Need.au ?_; conv => whnf) | (refine ⟨_, rfl, ?_⟩; conv => whnf)))
    refine ⟨_, _, WeakV.auto ?_, h⟩
    (repeat' ((conv => whnf); first | exact True.intro | (refine And.intro ?_ ?_)))
    all_goals first | rfl | exact .eq rfl
  | true =>
    rw [hx2] at h
    have h : Q (.bool (!decide (X.1 = root))) [.cells [.str root] 9] := h
    (conv => whnf)
    (repeat (first | (exact Out.same; conv => whnf) | (exact Out1.same; conv => whnf) | (refine QAnd.mk ?_ ?_; conv => whnf) | (apply QStepH.go; conv => whnf) | (refine Both.lit_true ?_; conv => whnf) | (refine Both.lit_false ?_; conv => whnf) | (apply QStep.go; conv => whnf) | (refine Need.au ?_; conv => whnf) | (refine ⟨_, rfl, ?_⟩; conv => whnf)))
    refine ⟨_, _, WeakV.auto ?_, h⟩
    (repeat' ((conv => whnf); first | exact True.intro | (refine And.intro ?_ ?_)))
    all_goals first | rfl | exact .eq rfl
theorem clb1_k {y0 : CV} {cs0 : List CV} (hK : KAt y0 cs0) : Contract Tryz.prog [(0, y0 :: cs0)] 44 clb1S := ⟨⟨⟨_, rfl, rfl, rfl⟩⟩, clb1_c hK⟩
def idx3S : Spec := fun args H Q => match args, H with
  | [.sl 5 n cs f, .func (.func 44) [.ptr 0 0]], [.cells [.str root] 9] => ∃ L : List Lf, cs = flL L ∧ n = L.length ∧ L.length ≤ 1000000 ∧ (∀ x ∈ L, okLf x) ∧ ∀ r : Int, (0 ≤ r ↔ ¬ ∀ x ∈ L, goodC root x = true) → Q (.int .i64 r) [.cells [.str root] 9]
  | _, _ => False
theorem idx3_c {y0 : CV} {cs0 : List CV} (hK : KAt y0 cs0) : Meets Tryz.prog [(0, y0 :: cs0)] 65 idx3S := by
  refine meets_of Γok Tryz.func65 rfl ?_
  intro args H Q h
  unfold idx3S at h
  split at h
  case h_2 => exact h.elim
  rename_i n cs f root
  obtain ⟨L, rfl, rfl, hL, hok, h⟩ := h
  (refine sx_sound Γok _ ?_; conv => whnf)
  (repeat (first | (exact Out.same; conv => whnf) | (exact Out1.same; conv => whnf) | (refine QAnd.mk ?_ ?_; conv => whnf) | (apply QStepH.go; conv => whnf) | (refine Both.lit_true ?_; conv => whnf) | (refine Both.lit_false ?_; conv => whnf) | (apply QStep.go; conv => whnf) | (refine Need.au ?_; conv => whnf) | (refine ⟨_, rfl, ?_⟩; conv => whnf)))
  refine loop_rule (fun k : Nat => ⟨[.sl 5 L.length (flL L) f, .func (.func 44) [.ptr 0 0], .any, .any, .any, .any, .any, .int .i64 ((L.length : Nat) : Int), .int .i64 (k : Int), .any, .any, .any, .any, .any, .any, .any, .any, .any, .any], [.cells [.str root] 9]⟩) (fun k => k ≤ L.length ∧ ∀ j, j < k → goodC root (L.getD j lf0) = true) (fun k => L.length - k) 0 ⟨Nat.zero_le _, fun j hj => absurd hj (by omega)⟩ (Weak.auto ?_) ?_
  · (repeat' ((conv => whnf); first | exact True.intro | (refine And.intro ?_ ?_)))
    all_goals first | rfl | exact .eq rfl
  rintro k ⟨hk, hall⟩
  (refine sx_sound Γok _ ?_; conv => whnf)
  (repeat (first | (exact Out.same; conv => whnf) | (exact Out1.same; conv => whnf) | (refine QAnd.mk ?_ ?_; conv => whnf) | (apply QStepH.go; conv => whnf) | (refine Both.lit_true ?_; conv => whnf) | (refine Both.lit_false ?_; conv => whnf) | (apply QStep.go; conv => whnf) | (refine Need.au ?_; conv => whnf) | (refine ⟨_, rfl, ?_⟩; conv => whnf)))
  refine Both.dec (fun hlt => ?_) (fun hge => ?_)
  · have hkl : k < L.length := by omega
    have hat := flL_at L hkl lf0
    obtain ⟨x, hx⟩ : ∃ x, L.getD k lf0 = x := ⟨_, rfl⟩
    have hxg : L[k] = x := by rw [← hx, List.getD_eq_getElem?_getD, List.getElem?_eq_getElem hkl]; rfl
    have hxm : x ∈ L := by rw [← hxg]; exact List.getElem_mem hkl
    have hxo := hok x hxm
    have e1 := hxo.k
    have e2 := hxo.v
    have e3 := hxo.p
    have m1 : x.p.length < 1000000 := by omega
    have m2 : x.k.length < 50000 := by omega
    have m3 : x.v.length < 50000 := by omega
    rw [hx] at hat
    have hat : ((flL L).drop (((k : Nat) : Int).toNat * 5)).take 5 = [CV.int .i64 x.i, .int .i64 x.c, .str x.k, .str x.v, .sl 1 x.p.length (strs x.p) false] := hat
    have hix : ti50.size = 5 ∧ (0 : Int) ≤ (k : Int) ∧ (k : Int) < ((L.length : Nat) : Int) := ⟨rfl, by omega, by omega⟩
    have hk1 : IntKind.i64.wrap ((k : Int) + 1) = ((k + 1 : Nat) : Int) := by rw [wrap_i64 (by omega) (by omega)]; rfl
    cases hg : goodC root x with
    | true =>
      have c1 : (!goodC root ⟨x.i, x.c, x.k, x.v, x.p⟩) = false := by rw [show goodC root ⟨x.i, x.c, x.k, x.v, x.p⟩ = true from hg]; rfl
      have hnext : ∀ j, j < k + 1 → goodC root (L.getD j lf0) = true := fun j hj => by
        rcases Nat.lt_or_ge j k with q | q
        · exact hall j q
        · rw [show j = k by omega, hx]
          exact hg
      (conv => whnf)
      (repeat (first | (refine Need.mk hix ?_; conv => whnf) | (refine ⟨_, hat, ?_⟩; conv => whnf) | (refine CallClo.auto (clb1_k hK) ⟨x.p, rfl, rfl, m1, m2, m3, ?_⟩; conv => whnf) | (refine Both.of_false c1 ?_; conv => whnf) | (exact Out.same; conv => whnf) | (exact Out1.same; conv => whnf) | (refine QAnd.mk ?_ ?_; conv => whnf) | (apply QStepH.go; conv => whnf) | (refine Both.lit_true ?_; conv => whnf) | (refine Both.lit_false ?_; conv => whnf) | (apply QStep.go; conv => whnf) | (refine Need.au ?_; conv => whnf) | (refine ⟨_, rfl, ?_⟩; conv => whnf)))
      refine ⟨k + 1, ⟨hkl, hnext⟩, by omega, Weak.auto ?_⟩
      (repeat' ((conv => whnf); first | exact True.intro | (refine And.intro ?_ ?_)))
      all_goals first | rfl | exact .eq rfl | exact congrArg (SV.int .i64) hk1
    | false =>
      have c1 : (!goodC root ⟨x.i, x.c, x.k, x.v, x.p⟩) = true := by rw [show goodC root ⟨x.i, x.c, x.k, x.v, x.p⟩ = false from hg]; rfl
      have h := h (k : Int) ⟨fun _ q => (by rw [q x hxm] at hg; cases hg), fun _ => by omega⟩
      (conv => whnf)
      (repeat (first | (refine Need.mk hix ?_; conv => whnf) | (refine ⟨_, hat, ?_⟩; conv => whnf) | (refine CallClo.auto (clb1_k hK) ⟨x.p, rfl, rfl, m1, m2, m3, ?_⟩; conv => whnf) | (refine Both.of_true c1 ?_; conv => whnf) | (exact Out.same; conv => whnf) | (exact Out1.same; conv => whnf) | (refine QAnd.mk ?_ ?_; conv => whnf) | (apply QStepH.go; conv => whnf) | (refine Both.lit_true ?_; conv => whnf) | (refine Both.lit_false ?_; conv => whnf) | (apply QStep.go; conv => whnf) | (refine Need.au ?_; conv => whnf) | (refine ⟨_, rfl, ?_⟩; conv => whnf)))
      refine ⟨_, _, WeakV.auto ?_, h⟩
      (repeat' ((conv => whnf); first | exact True.intro | (refine And.intro ?_ ?_)))
      all_goals first | rfl | exact .eq rfl
  · have h := h (-1) ⟨fun q => absurd q (by decide), fun q => absurd (fun x hx => by
      obtain ⟨j, hj, rfl⟩ := List.mem_iff_getElem.1 hx
      have := hall j (by omega)
      rw [List.getD_eq_getElem?_getD, List.getElem?_eq_getElem hj] at this
      exact this) q⟩
    (conv => whnf)
    (repeat (first | (exact Out.same; conv => whnf) | (exact Out1.same; conv => whnf) | (refine QAnd.mk ?_ ?_; conv => whnf) | (apply QStepH.go; conv => whnf) | (refine Both.lit_true ?_; conv => whnf) | (refine Both.lit_false ?_; conv => whnf) | (apply QStep.go; conv => whnf) | (refine Need.au ?_; conv => whnf) | (refine ⟨_, rfl, ?_⟩; conv => whnf)))
    refine ⟨_, _, WeakV.auto ?_, h⟩
    (repeat' ((conv => whnf); first | exact True.intro | (refine And.intro ?_ ?_)))
    all_goals first | rfl | exact .eq rfl
theorem idx3_k {y0 : CV} {cs0 : List CV} (hK : KAt y0 cs0) : Contract Tryz.prog [(0, y0 :: cs0)] 65 idx3S := ⟨⟨⟨_, rfl, rfl, rfl⟩⟩, idx3_c hK⟩
def con3S : Spec := fun args H Q => match args, H with
  | [.sl 5 n cs f, .func (.func 44) [.ptr 0 0]], [.cells [.str root] 9] => ∃ L : List Lf, cs = flL L ∧ n = L.length ∧ L.length ≤ 1000000 ∧ (∀ x ∈ L, okLf x) ∧ Q (.bool (decide (¬ ∀ x ∈ L, goodC root x = true))) [.cells [.str root] 9]
  | _, _ => False
theorem con3_c {y0 : CV} {cs0 : List CV} (hK : KAt y0 cs0) : Meets Tryz.prog [(0, y0 :: cs0)] 30 con3S := by
  refine meets_of Γok Tryz.func30 rfl ?_
  intro args H Q h
  unfold con3S at h
  split at h
  case h_2 => exact h.elim
  rename_i n cs f root
  obtain ⟨L, rfl, rfl, hL, hok, h⟩ := h
  (refine sx_sound Γok _ ?_; conv => whnf)
  (repeat (first | (exact Out.same; conv => whnf) | (exact Out1.same; conv => whnf) | (refine QAnd.mk ?_ ?_; conv => whnf) | (apply QStepH.go; conv => whnf) | (refine Both.lit_true ?_; conv => whnf) | (refine Both.lit_false ?_; conv => whnf) | (apply QStep.go; conv => whnf) | (refine Need.au ?_; conv => whnf) | (refine ⟨_, rfl, ?_⟩; conv => whnf)))
  refine CallVC.auto (idx3_k hK) ⟨L, rfl, rfl, hL, hok, fun r hr => ?_⟩
  have e : decide (0 ≤ r) = decide (¬ ∀ x ∈ L, goodC root x = true) := decide_eq_decide.2 hr
  rw [← e] at h
  (conv => whnf)
  (repeat (first | (exact Out.same; conv => whnf) | (exact Out1.same; conv => whnf) | (refine QAnd.mk ?_ ?_; conv => whnf) | (apply QStepH.go; conv => whnf) | (refine Both.lit_true ?_; conv => whnf) | (refine Both.lit_false ?_; conv => whnf) | (apply QStep.go; conv => whnf) | (refine Need.au ?_; conv => whnf) | (refine ⟨_, rfl, ?_⟩; conv => whnf)))
  refine ⟨_, _, WeakV.auto ?_, h⟩
  (repeat' ((conv => whnf); first | exact True.intro | (refine And.intro ?_ ?_)))
  all_goals first | rfl | exact .eq rfl
theorem con3_k {y0 : CV} {cs0 : List CV} (hK : KAt y0 cs0) : Contract Tryz.prog [(0, y0 :: cs0)] 30 con3S := ⟨⟨⟨_, rfl, rfl, rfl⟩⟩, con3_c hK⟩
def climb9S : Spec := fun args H Q => match args, H with
  | [.str root, .sl 5 n cs f], [] => ∃ L : List Lf, cs = flL L ∧ n = L.length ∧ L.length ≤ 1000000 ∧ (∀ x ∈ L, okLf x) ∧ Q (.bool (decide (∀ x ∈ L, goodC root x = true))) []
  | _, _ => False
theorem climb9_c {y0 : CV} {cs0 : List CV} (hK : KAt y0 cs0) : Meets Tryz.prog [(0, y0 :: cs0)] 20 climb9S := by
  refine meets_of Γok Tryz.func20 rfl ?_
  intro args H Q h
  unfold climb9S at h
  split at h
  case h_2 => exact h.elim
  rename_i root n cs f
  obtain ⟨L, rfl, rfl, hL, hok, h⟩ := h
  have e : (!decide (¬ ∀ x ∈ L, goodC root x = true)) = decide (∀ x ∈ L, goodC root x = true) := by
    by_cases q : ∀ x ∈ L, goodC root x = true
    · rw [decide_eq_false (fun u => u q), decide_eq_true q]
      rfl
    · rw [decide_eq_true q, decide_eq_false q]
      rfl
  rw [← e] at h
  (refine sx_sound Γok _ ?_; conv => whnf)
  (repeat (first | (refine CallVC.auto (con3_k hK) ⟨L, rfl, rfl, hL, hok, ?_⟩; conv => whnf) | (exact Out.same; conv => whnf) | (exact Out1.same; conv => whnf) | (refine QAnd.mk ?_ ?_; conv => whnf) | (apply QStepH.go; conv => whnf) | (refine Both.lit_true ?_; conv => whnf) | (refine Both.lit_false ?_; conv => whnf) | (apply QStep.go; conv => whnf) | (refine Need.au ?_; conv => whnf) | (refine ⟨_, rfl, ?_⟩; conv => whnf)))
  exact ⟨_, _, WeakV.drop rfl, h⟩
theorem climb9_k {y0 : CV} {cs0 : List CV} (hK : KAt y0 cs0) : Contract Tryz.prog [(0, y0 :: cs0)] 20 climb9S := ⟨⟨⟨_, rfl, rfl, rfl⟩⟩, climb9_c hK⟩
end Go.LX
end
section
set_option maxRecDepth 100000
set_option maxHeartbeats 2000000
set_option autoImplicit false
set_option linter.unusedVariables false
set_option linter.unusedSimpArgs false
namespace Go.LX
open Go.Proofs

def hasP (root s key value : Bs) : Prop := ∃ x : Lf, parseV s = ((false, [x]), 0) ∧ (x.k = key ∧ x.v = value) ∧ goodC root x = true
open Classical in
def hasS : Spec := fun args H Q => match args, H with
  | [.str root, .str s, .str key, .str value], [] => s.length < 1000000 ∧ Q (.bool (decide (hasP root s key value))) []
  | _, _ => False
open Classical in
theorem has_c {y0 : CV} {cs0 : List CV} (hK : KAt y0 cs0) : Meets Tryz.prog [(0, y0 :: cs0)] 8 hasS := by
  refine meets_of Γok Tryz.func8 rfl ?_
  intro args H Q h
  unfold hasS at h
  split at h
  case h_2 => exact h.elim
  rename_i root s key value
  obtain ⟨hs, h⟩ := h
  have cz : decide ((0 : Int) = 0) = true := rfl
  have c5 : decide ((5 : Int) = 0) = false := rfl
  have hno : (¬ hasP root s key value) → Q (.bool false) [] := fun q => by rw [decide_eq_false q] at h; exact h
  have hyes : hasP root s key value → Q (.bool true) [] := fun q => by rw [decide_eq_true q] at h; exact h
  clear h
  rcases parseV_cases s with ⟨a, L, hf, hr, hp⟩ | hp
  case inr =>
    have h := hno (fun ⟨x, q, _⟩ => by
      have := (Prod.mk.inj (hp.symm.trans q)).2
      cases this)
    (refine sx_sound Γok _ ?_; conv => whnf)
    (repeat (first | (exact Out.same; conv => whnf) | (exact Out1.same; conv => whnf) | (refine QAnd.mk ?_ ?_; conv => whnf) | (apply QStepH.go; conv => whnf) | (refine Both.lit_true ?_; conv => whnf) | (refine Both.lit_false ?_; conv => whnf) | (apply QStep.go; conv => whnf) | (refine Need.au ?_; conv => whnf) | (refine ⟨_, rfl, ?_⟩; conv => whnf)))
    refine CallVC.auto pparse_k.gl ⟨hs, fun a1 L1 e1 h1 => ?_⟩
    obtain ⟨u1, u3⟩ := Prod.mk.inj (h1.symm.trans hp)
    obtain ⟨u1, u2⟩ := Prod.mk.inj u1
    clear h1
    subst u1 u2 u3
    (conv => whnf)
    (repeat (first | (refine Both.of_false c5 ?_; conv => whnf) | (exact Out.same; conv => whnf) | (exact Out1.same; conv => whnf) | (refine QAnd.mk ?_ ?_; conv => whnf) | (apply QStepH.go; conv => whnf) | (refine Both.lit_true ?_; conv => whnf) | (refine Both.lit_false ?_; conv => whnf) | (apply QStep.go; conv => whnf) | (refine Need.au ?_; conv => whnf) | (refine ⟨_, rfl, ?_⟩; conv => whnf)))
    exact ⟨_, _, WeakV.drop rfl, h⟩
  (refine sx_sound Γok _ ?_; conv => whnf)
  (repeat (first | (exact Out.same; conv => whnf) | (exact Out1.same; conv => whnf) | (refine QAnd.mk ?_ ?_; conv => whnf) | (apply QStepH.go; conv => whnf) | (refine Both.lit_true ?_; conv => whnf) | (refine Both.lit_false ?_; conv => whnf) | (apply QStep.go; conv => whnf) | (refine Need.au ?_; conv => whnf) | (refine ⟨_, rfl, ?_⟩; conv => whnf)))
  refine CallVC.auto pparse_k.gl ⟨hs, fun a1 L1 e1 h1 => ?_⟩
  obtain ⟨u1, u3⟩ := Prod.mk.inj (h1.symm.trans hp)
  obtain ⟨u1, u2⟩ := Prod.mk.inj u1
  clear h1
  subst u1 u2 u3
  cases a1 with
  | true =>
    have h := hno (fun ⟨x, q, _⟩ => by
      have := (Prod.mk.inj (Prod.mk.inj (hp.symm.trans q)).1).1
      cases this)
    (conv => whnf)
    (repeat (first | (refine Both.of_true cz ?_; conv => whnf) | (exact Out.same; conv => whnf) | (exact Out1.same; conv => whnf) | (refine QAnd.mk ?_ ?_; conv => whnf) | (apply QStepH.go; conv => whnf) | (refine Both.lit_true ?_; conv => whnf) | (refine Both.lit_false ?_; conv => whnf) | (apply QStep.go; conv => whnf) | (refine Need.au ?_; conv => whnf) | (refine ⟨_, rfl, ?_⟩; conv => whnf)))
    exact ⟨_, _, WeakV.drop rfl, h⟩
  | false =>
  by_cases hl : L1.length = 1
  case neg =>
    have cl : decide (((L1.length : Nat) : Int) = 1) = false := decide_eq_false (by omega)
    have h := hno (fun ⟨x, q, _⟩ => by
      have := (Prod.mk.inj (Prod.mk.inj (hp.symm.trans q)).1).2
      rw [this] at hl
      exact hl rfl)
    (conv => whnf)
    (repeat (first | (refine Both.of_true cz ?_; conv => whnf) | (refine Both.of_false cl ?_; conv => whnf) | (exact Out.same; conv => whnf) | (exact Out1.same; conv => whnf) | (refine QAnd.mk ?_ ?_; conv => whnf) | (apply QStepH.go; conv => whnf) | (refine Both.lit_true ?_; conv => whnf) | (refine Both.lit_false ?_; conv => whnf) | (apply QStep.go; conv => whnf) | (refine Need.au ?_; conv => whnf) | (refine ⟨_, rfl, ?_⟩; conv => whnf)))
    exact ⟨_, _, WeakV.drop rfl, h⟩
  obtain ⟨x, rfl⟩ : ∃ x, L1 = [x] := List.length_eq_one_iff.1 hl
  have hxo := hf.2 x (List.mem_singleton.2 rfl)
  have cl : decide (((([x] : List Lf).length : Nat) : Int) = 1) = true := rfl
  have hat : ((flL [x]).drop ((0 : Int).toNat * 5)).take 5 = [CV.int .i64 x.i, .int .i64 x.c, .str x.k, .str x.v, .sl 1 x.p.length (strs x.p) false] := rfl
  have hix : ti50.size = 5 ∧ (0 : Int) ≤ 0 ∧ (0 : Int) < ((([x] : List Lf).length : Nat) : Int) := ⟨rfl, by omega, by simp⟩
  have ho1 : ([x] : List Lf).length ≤ 1000000 := by show 1 ≤ 1000000; decide
  have hoA : ∀ z ∈ [x], okLf z := fun z hz => by rw [List.mem_singleton.1 hz]; exact hxo
  by_cases hkv : x.k = key ∧ x.v = value
  case neg =>
    have ck : (decide (x.k = key) && (decide (x.v = value) && true)) = false := by
      by_cases q1 : x.k = key
      · rw [decide_eq_false (fun q2 : x.v = value => hkv ⟨q1, q2⟩)]
        simp
      · rw [decide_eq_false q1]
        rfl
    have h := hno (fun ⟨z, q, q2, _⟩ => by
      have := (Prod.mk.inj (Prod.mk.inj (hp.symm.trans q)).1).2
      obtain rfl : x = z := by simpa using this
      exact hkv q2)
    (conv => whnf)
    (repeat (first | (refine Both.of_true cz ?_; conv => whnf) | (refine Both.of_true cl ?_; conv => whnf) | (refine Need.mk hix ?_; conv => whnf) | (refine ⟨_, hat, ?_⟩; conv => whnf) | (refine Both.of_false ck ?_; conv => whnf) | (exact Out.same; conv => whnf) | (exact Out1.same; conv => whnf) | (refine QAnd.mk ?_ ?_; conv => whnf) | (apply QStepH.go; conv => whnf) | (refine Both.lit_true ?_; conv => whnf) | (refine Both.lit_false ?_; conv => whnf) | (apply QStep.go; conv => whnf) | (refine Need.au ?_; conv => whnf) | (refine ⟨_, rfl, ?_⟩; conv => whnf)))
    exact ⟨_, _, WeakV.drop rfl, h⟩
  have ck : (decide (x.k = key) && (decide (x.v = value) && true)) = true := by rw [decide_eq_true hkv.1, decide_eq_true hkv.2]; rfl
  have hfin : Q (.bool (decide (∀ z ∈ [x], goodC root z = true))) [] := by
    by_cases hg : goodC root x = true
    · rw [decide_eq_true (show ∀ z ∈ [x], goodC root z = true from fun z hz => by rw [List.mem_singleton.1 hz]; exact hg)]
      exact hyes ⟨x, hp, hkv, hg⟩
    · rw [decide_eq_false (fun q : ∀ z ∈ [x], goodC root z = true => hg (q x (List.mem_singleton.2 rfl)))]
      exact hno (fun ⟨z, q, _, q3⟩ => by
        have := (Prod.mk.inj (Prod.mk.inj (hp.symm.trans q)).1).2
        obtain rfl : x = z := by simpa using this
        exact hg q3)
  (conv => whnf)
  (repeat (first | (refine Both.of_true cz ?_; conv => whnf) | (refine Both.of_true cl ?_; conv => whnf) | (refine Need.mk hix ?_; conv => whnf) | (refine ⟨_, hat, ?_⟩; conv => whnf) | (refine Both.of_true ck ?_; conv => whnf) | (exact Out.same; conv => whnf) | (exact Out1.same; conv => whnf) | (refine QAnd.mk ?_ ?_; conv => whnf) | (apply QStepH.go; conv => whnf) | (refine Both.lit_true ?_; conv => whnf) | (refine Both.lit_false ?_; conv => whnf) | (apply QStep.go; conv => whnf) | (refine Need.au ?_; conv => whnf) | (refine ⟨_, rfl, ?_⟩; conv => whnf)))
  refine CallVC.auto (climb9_k hK) ⟨[x], rfl, rfl, ho1, hoA, ?_⟩
  (conv => whnf)
  (repeat (first | (exact Out.same; conv => whnf) | (exact Out1.same; conv => whnf) | (refine QAnd.mk ?_ ?_; conv => whnf) | (apply QStepH.go; conv => whnf) | (refine Both.lit_true ?_; conv => whnf) | (refine Both.lit_false ?_; conv => whnf) | (apply QStep.go; conv => whnf) | (refine Need.au ?_; conv => whnf) | (refine ⟨_, rfl, ?_⟩; conv => whnf)))
  exact ⟨_, _, WeakV.drop rfl, hfin⟩
theorem has_k {y0 : CV} {cs0 : List CV} (hK : KAt y0 cs0) : Contract Tryz.prog [(0, y0 :: cs0)] 8 hasS := ⟨⟨⟨_, rfl, rfl, rfl⟩⟩, has_c hK⟩
def standL (root key : Bs) : List Lf → Prop
  | [] => root = shaD (rootX [])
  | [x] => (x.i = 0 ∧ lessS key x.k = true) ∨ (x.i = x.c - 1 ∧ lessS x.k key = true)
  | x :: y :: _ => (x.c = y.c ∧ x.i + 1 = y.i) ∧ lessS x.k key = true ∧ lessS key y.k = true
def lacksP (root s key : Bs) : Prop := (1 ≤ key.length ∧ key.length ≤ 16) ∧ ∃ L : List Lf, parseV s = ((true, L), 0) ∧ (∀ x ∈ L, goodC root x = true) ∧ standL root key L
open Classical in
def lacksS : Spec := fun args H Q => match args, H with
  | [.str root, .str s, .str key], [] => s.length < 1000000 ∧ Q (.bool (decide (lacksP root s key))) []
  | _, _ => False
open Classical in
theorem lacks_c {y0 : CV} {cs0 : List CV} (hK : KAt y0 cs0) : Meets Tryz.prog [(0, y0 :: cs0)] 10 lacksS := by
  refine meets_of Γok Tryz.func10 rfl ?_
  intro args H Q h
  unfold lacksS at h
  split at h
  case h_2 => exact h.elim
  rename_i root s key
  obtain ⟨hs, h⟩ := h
  have cz : (!decide ((0 : Int) = 0)) = false := rfl
  have c5 : (!decide ((5 : Int) = 0)) = true := rfl
  have hno : (¬ lacksP root s key) → Q (.bool false) [] := fun q => by rw [decide_eq_false q] at h; exact h
  have hval : ∀ b : Bool, (b = true ↔ lacksP root s key) → Q (.bool b) [] := fun b q => by
    have e : b = decide (lacksP root s key) := by
      cases b with
      | true => exact (decide_eq_true (q.1 rfl)).symm
      | false => exact (decide_eq_false (fun u => by cases q.2 u)).symm
    rw [e]
    exact h
  clear h
  rcases parseV_cases s with ⟨a, L, hf, hr, hp⟩ | hp
  case inr =>
    have h := hno (fun ⟨_, L, q, _⟩ => by
      have := (Prod.mk.inj (hp.symm.trans q)).2
      cases this)
    (refine sx_sound Γok _ ?_; conv => whnf)
    (repeat (first | (exact Out.same; conv => whnf) | (exact Out1.same; conv => whnf) | (refine QAnd.mk ?_ ?_; conv => whnf) | (apply QStepH.go; conv => whnf) | (refine Both.lit_true ?_; conv => whnf) | (refine Both.lit_false ?_; conv => whnf) | (apply QStep.go; conv => whnf) | (refine Need.au ?_; conv => whnf) | (refine ⟨_, rfl, ?_⟩; conv => whnf)))
    refine CallVC.auto pparse_k.gl ⟨hs, fun a1 L1 e1 h1 => ?_⟩
    obtain ⟨u1, u3⟩ := Prod.mk.inj (h1.symm.trans hp)
    obtain ⟨u1, u2⟩ := Prod.mk.inj u1
    clear h1
    subst u1 u2 u3
    (conv => whnf)
    (repeat (first | (refine Both.of_true c5 ?_; conv => whnf) | (exact Out.same; conv => whnf) | (exact Out1.same; conv => whnf) | (refine QAnd.mk ?_ ?_; conv => whnf) | (apply QStepH.go; conv => whnf) | (refine Both.lit_true ?_; conv => whnf) | (refine Both.lit_false ?_; conv => whnf) | (apply QStep.go; conv => whnf) | (refine Need.au ?_; conv => whnf) | (refine ⟨_, rfl, ?_⟩; conv => whnf)))
    exact ⟨_, _, WeakV.drop rfl, h⟩
  (refine sx_sound Γok _ ?_; conv => whnf)
  (repeat (first | (exact Out.same; conv => whnf) | (exact Out1.same; conv => whnf) | (refine QAnd.mk ?_ ?_; conv => whnf) | (apply QStepH.go; conv => whnf) | (refine Both.lit_true ?_; conv => whnf) | (refine Both.lit_false ?_; conv => whnf) | (apply QStep.go; conv => whnf) | (refine Need.au ?_; conv => whnf) | (refine ⟨_, rfl, ?_⟩; conv => whnf)))
  refine CallVC.auto pparse_k.gl ⟨hs, fun a1 L1 e1 h1 => ?_⟩
  obtain ⟨u1, u3⟩ := Prod.mk.inj (h1.symm.trans hp)
  obtain ⟨u1, u2⟩ := Prod.mk.inj u1
  clear h1
  subst u1 u2 u3
  cases a1 with
  | false =>
    have h := hno (fun ⟨_, L, q, _⟩ => by
      have := (Prod.mk.inj (Prod.mk.inj (hp.symm.trans q)).1).1
      cases this)
    (conv => whnf)
    (repeat (first | (refine Both.of_false cz ?_; conv => whnf) | (exact Out.same; conv => whnf) | (exact Out1.same; conv => whnf) | (refine QAnd.mk ?_ ?_; conv => whnf) | (apply QStepH.go; conv => whnf) | (refine Both.lit_true ?_; conv => whnf) | (refine Both.lit_false ?_; conv => whnf) | (apply QStep.go; conv => whnf) | (refine Need.au ?_; conv => whnf) | (refine ⟨_, rfl, ?_⟩; conv => whnf)))
    exact ⟨_, _, WeakV.drop rfl, h⟩
  | true =>
  have hLu : ∀ L, parseV s = ((true, L), 0) → L1 = L := fun L q => (Prod.mk.inj (Prod.mk.inj (hp.symm.trans q)).1).2
  (conv => whnf)
  (repeat (first | (refine Both.of_false cz ?_; conv => whnf) | (exact Out.same; conv => whnf) | (exact Out1.same; conv => whnf) | (refine QAnd.mk ?_ ?_; conv => whnf) | (apply QStepH.go; conv => whnf) | (refine Both.lit_true ?_; conv => whnf) | (refine Both.lit_false ?_; conv => whnf) | (apply QStep.go; conv => whnf) | (refine Need.au ?_; conv => whnf) | (refine ⟨_, rfl, ?_⟩; conv => whnf)))
  refine Both.dec (fun k1 => ?_) (fun k1 => ?_)
  · have h := hno (fun q => by have := q.1; omega)
    (conv => whnf)
    (repeat (first | (exact Out.same; conv => whnf) | (exact Out1.same; conv => whnf) | (refine QAnd.mk ?_ ?_; conv => whnf) | (apply QStepH.go; conv => whnf) | (refine Both.lit_true ?_; conv => whnf) | (refine Both.lit_false ?_; conv => whnf) | (apply QStep.go; conv => whnf) | (refine Need.au ?_; conv => whnf) | (refine ⟨_, rfl, ?_⟩; conv => whnf)))
    exact ⟨_, _, WeakV.drop rfl, h⟩
  (conv => whnf)
  (repeat (first | (exact Out.same; conv => whnf) | (exact Out1.same; conv => whnf) | (refine QAnd.mk ?_ ?_; conv => whnf) | (apply QStepH.go; conv => whnf) | (refine Both.lit_true ?_; conv => whnf) | (refine Both.lit_false ?_; conv => whnf) | (apply QStep.go; conv => whnf) | (refine Need.au ?_; conv => whnf) | (refine ⟨_, rfl, ?_⟩; conv => whnf)))
  refine Both.dec (fun k2 => ?_) (fun k2 => ?_)
  · have h := hno (fun q => by have := q.1; omega)
    (conv => whnf)
    (repeat (first | (exact Out.same; conv => whnf) | (exact Out1.same; conv => whnf) | (refine QAnd.mk ?_ ?_; conv => whnf) | (apply QStepH.go; conv => whnf) | (refine Both.lit_true ?_; conv => whnf) | (refine Both.lit_false ?_; conv => whnf) | (apply QStep.go; conv => whnf) | (refine Need.au ?_; conv => whnf) | (refine ⟨_, rfl, ?_⟩; conv => whnf)))
    exact ⟨_, _, WeakV.drop rfl, h⟩
  have hkl : 1 ≤ key.length ∧ key.length ≤ 16 := by omega
  (conv => whnf)
  (repeat (first | (exact Out.same; conv => whnf) | (exact Out1.same; conv => whnf) | (refine QAnd.mk ?_ ?_; conv => whnf) | (apply QStepH.go; conv => whnf) | (refine Both.lit_true ?_; conv => whnf) | (refine Both.lit_false ?_; conv => whnf) | (apply QStep.go; conv => whnf) | (refine Need.au ?_; conv => whnf) | (refine ⟨_, rfl, ?_⟩; conv => whnf)))
  refine CallVC.auto (climb9_k hK) ⟨L1, rfl, rfl, (fits_sm hf).1, hf.2, ?_⟩
  by_cases hall : ∀ x ∈ L1, goodC root x = true
  case neg =>
    have ca : (!decide (∀ x ∈ L1, goodC root x = true)) = true := by rw [decide_eq_false hall]; rfl
    have h := hno (fun ⟨_, L, q, q2, _⟩ => hall (by rw [hLu L q]; exact q2))
    (conv => whnf)
    (repeat (first | (refine Both.of_true ca ?_; conv => whnf) | (exact Out.same; conv => whnf) | (exact Out1.same; conv => whnf) | (refine QAnd.mk ?_ ?_; conv => whnf) | (apply QStepH.go; conv => whnf) | (refine Both.lit_true ?_; conv => whnf) | (refine Both.lit_false ?_; conv => whnf) | (apply QStep.go; conv => whnf) | (refine Need.au ?_; conv => whnf) | (refine ⟨_, rfl, ?_⟩; conv => whnf)))
    exact ⟨_, _, WeakV.drop rfl, h⟩
  have ca : (!decide (∀ x ∈ L1, goodC root x = true)) = false := by rw [decide_eq_true hall]; rfl
  have hfin : ∀ b : Bool, (b = true ↔ standL root key L1) → Q (.bool b) [] := fun b q => hval b (q.trans ⟨fun u => ⟨hkl, L1, hp, hall, u⟩, fun ⟨_, L, v, _, u⟩ => by rw [hLu L v]; exact u⟩)
  clear hno hval
  have hlen := hf.1
  (conv => whnf)
  (repeat (first | (refine Both.of_false ca ?_; conv => whnf) | (exact Out.same; conv => whnf) | (exact Out1.same; conv => whnf) | (refine QAnd.mk ?_ ?_; conv => whnf) | (apply QStepH.go; conv => whnf) | (refine Both.lit_true ?_; conv => whnf) | (refine Both.lit_false ?_; conv => whnf) | (apply QStep.go; conv => whnf) | (refine Need.au ?_; conv => whnf) | (refine ⟨_, rfl, ?_⟩; conv => whnf)))
  match L1, hlen, hf, hfin with
  | [], _, _, hfin =>
    have c0 : decide (((([] : List Lf).length : Nat) : Int) = 0) = true := rfl
    have hfin := hfin (decide (root = shaD (topX 0 []))) (by
      show _ ↔ root = shaD (rootX [])
      exact ⟨fun u => of_decide_eq_true u, fun u => decide_eq_true u⟩)
    (conv => whnf)
    (repeat (first | (refine Both.of_true c0 ?_; conv => whnf) | (exact Out.same; conv => whnf) | (exact Out1.same; conv => whnf) | (refine QAnd.mk ?_ ?_; conv => whnf) | (apply QStepH.go; conv => whnf) | (refine Both.lit_true ?_; conv => whnf) | (refine Both.lit_false ?_; conv => whnf) | (apply QStep.go; conv => whnf) | (refine Need.au ?_; conv => whnf) | (refine ⟨_, rfl, ?_⟩; conv => whnf)))
    refine CallVC.auto (mroot_k hK) ?_
    (conv => whnf)
    (repeat (first | (exact Out.same; conv => whnf) | (exact Out1.same; conv => whnf) | (refine QAnd.mk ?_ ?_; conv => whnf) | (apply QStepH.go; conv => whnf) | (refine Both.lit_true ?_; conv => whnf) | (refine Both.lit_false ?_; conv => whnf) | (apply QStep.go; conv => whnf) | (refine Need.au ?_; conv => whnf) | (refine ⟨_, rfl, ?_⟩; conv => whnf)))
    exact ⟨_, _, WeakV.drop rfl, hfin⟩
  | [x], _, hf, hfin =>
    have hxo := hf.2 x (List.mem_singleton.2 rfl)
    have hxc := hxo.c
    have c0 : decide (((([x] : List Lf).length : Nat) : Int) = 0) = false := rfl
    have c1 : decide (((([x] : List Lf).length : Nat) : Int) = 1) = true := rfl
    have hat : ((flL [x]).drop ((0 : Int).toNat * 5)).take 5 = [CV.int .i64 x.i, .int .i64 x.c, .str x.k, .str x.v, .sl 1 x.p.length (strs x.p) false] := rfl
    have hix : ti50.size = 5 ∧ (0 : Int) ≤ 0 ∧ (0 : Int) < ((([x] : List Lf).length : Nat) : Int) := ⟨rfl, by omega, by simp⟩
    have hwc : IntKind.i64.wrap (x.c - 1) = x.c - 1 := wrap_i64 (by omega) (by omega)
    have hfin : ∀ b : Bool, (b = true ↔ (x.i = 0 ∧ lessS key x.k = true) ∨ (x.i = x.c - 1 ∧ lessS x.k key = true)) → Q (.bool b) [] := hfin
    by_cases q1 : x.i = 0
    · have e1 : decide (x.i = 0) = true := decide_eq_true q1
      cases b1 : lessS key x.k with
      | true =>
        have h := hfin true ⟨fun _ => .inl ⟨q1, b1⟩, fun _ => rfl⟩
        (conv => whnf)
        (repeat (first | (refine Both.of_false c0 ?_; conv => whnf) | (refine Both.of_true c1 ?_; conv => whnf) | (exact Out.same; conv => whnf) | (exact Out1.same; conv => whnf) | (refine QAnd.mk ?_ ?_; conv => whnf) | (apply QStepH.go; conv => whnf) | (refine Both.lit_true ?_; conv => whnf) | (refine Both.lit_false ?_; conv => whnf) | (apply QStep.go; conv => whnf) | (refine Need.au ?_; conv => whnf) | (refine ⟨_, rfl, ?_⟩; conv => whnf)))
        (refine DrawVC.any Γok (by kernel_rfl) (by kernel_rfl) (by kernel_rfl) (by rfl) ?_; conv => whnf)
        (repeat (first | (refine Need.mk hix ?_; conv => whnf) | (refine ⟨_, hat, ?_⟩; conv => whnf) | (refine Both.of_true e1 ?_; conv => whnf) | (refine Both.of_true b1 ?_; conv => whnf) | (exact Out.same; conv => whnf) | (exact Out1.same; conv => whnf) | (refine QAnd.mk ?_ ?_; conv => whnf) | (apply QStepH.go; conv => whnf) | (refine Both.lit_true ?_; conv => whnf) | (refine Both.lit_false ?_; conv => whnf) | (apply QStep.go; conv => whnf) | (refine Need.au ?_; conv => whnf) | (refine ⟨_, rfl, ?_⟩; conv => whnf)))
        exact ⟨_, _, WeakV.drop rfl, h⟩
      | false =>
        by_cases q2 : x.i = x.c - 1
        · have e2 : decide (x.i = IntKind.i64.wrap (x.c - 1)) = true := by rw [hwc]; exact decide_eq_true q2
          have h := hfin (lessS x.k key) ⟨fun u => .inr ⟨q2, u⟩, fun u => by
            rcases u with u | u
            · rw [b1] at u; cases u.2
            · exact u.2⟩
          (conv => whnf)
          (repeat (first | (refine Both.of_false c0 ?_; conv => whnf) | (refine Both.of_true c1 ?_; conv => whnf) | (exact Out.same; conv => whnf) | (exact Out1.same; conv => whnf) | (refine QAnd.mk ?_ ?_; conv => whnf) | (apply QStepH.go; conv => whnf) | (refine Both.lit_true ?_; conv => whnf) | (refine Both.lit_false ?_; conv => whnf) | (apply QStep.go; conv => whnf) | (refine Need.au ?_; conv => whnf) | (refine ⟨_, rfl, ?_⟩; conv => whnf)))
          (refine DrawVC.any Γok (by kernel_rfl) (by kernel_rfl) (by kernel_rfl) (by rfl) ?_; conv => whnf)
          (repeat (first | (refine Need.mk hix ?_; conv => whnf) | (refine ⟨_, hat, ?_⟩; conv => whnf) | (refine Both.of_true e1 ?_; conv => whnf) | (refine Both.of_false b1 ?_; conv => whnf) | (refine Both.of_true e2 ?_; conv => whnf) | (exact Out.same; conv => whnf) | (exact Out1.same; conv => whnf) | (refine QAnd.mk ?_ ?_; conv => whnf) | (apply QStepH.go; conv => whnf) | (refine Both.lit_true ?_; conv => whnf) | (refine Both.lit_false ?_; conv => whnf) | (apply QStep.go; conv => whnf) | (refine Need.au ?_; conv => whnf) | (refine ⟨_, rfl, ?_⟩; conv => whnf)))
          exact ⟨_, _, WeakV.drop rfl, h⟩
        · have e2 : decide (x.i = IntKind.i64.wrap (x.c - 1)) = false := by rw [hwc]; exact decide_eq_false q2
          have h := hfin false ⟨fun u => (by cases u), fun u => by
            rcases u with u | u
            · rw [b1] at u; cases u.2
            · exact absurd u.1 q2⟩
          (conv => whnf)
          (repeat (first | (refine Both.of_false c0 ?_; conv => whnf) | (refine Both.of_true c1 ?_; conv => whnf) | (exact Out.same; conv => whnf) | (exact Out1.same; conv => whnf) | (refine QAnd.mk ?_ ?_; conv => whnf) | (apply QStepH.go; conv => whnf) | (refine Both.lit_true ?_; conv => whnf) | (refine Both.lit_false ?_; conv => whnf) | (apply QStep.go; conv => whnf) | (refine Need.au ?_; conv => whnf) | (refine ⟨_, rfl, ?_⟩; conv => whnf)))
          (refine DrawVC.any Γok (by kernel_rfl) (by kernel_rfl) (by kernel_rfl) (by rfl) ?_; conv => whnf)
          (repeat (first | (refine Need.mk hix ?_; conv => whnf) | (refine ⟨_, hat, ?_⟩; conv => whnf) | (refine Both.of_true e1 ?_; conv => whnf) | (refine Both.of_false b1 ?_; conv => whnf) | (refine Both.of_false e2 ?_; conv => whnf) | (exact Out.same; conv => whnf) | (exact Out1.same; conv => whnf) | (refine QAnd.mk ?_ ?_; conv => whnf) | (apply QStepH.go; conv => whnf) | (refine Both.lit_true ?_; conv => whnf) | (refine Both.lit_false ?_; conv => whnf) | (apply QStep.go; conv => whnf) | (refine Need.au ?_; conv => whnf) | (refine ⟨_, rfl, ?_⟩; conv => whnf)))
          exact ⟨_, _, WeakV.drop rfl, h⟩
    · have e1 : decide (x.i = 0) = false := decide_eq_false q1
      by_cases q2 : x.i = x.c - 1
      · have e2 : decide (x.i = IntKind.i64.wrap (x.c - 1)) = true := by rw [hwc]; exact decide_eq_true q2
        have h := hfin (lessS x.k key) ⟨fun u => .inr ⟨q2, u⟩, fun u => by
          rcases u with u | u
          · exact absurd u.1 q1
          · exact u.2⟩
        (conv => whnf)
        (repeat (first | (refine Both.of_false c0 ?_; conv => whnf) | (refine Both.of_true c1 ?_; conv => whnf) | (exact Out.same; conv => whnf) | (exact Out1.same; conv => whnf) | (refine QAnd.mk ?_ ?_; conv => whnf) | (apply QStepH.go; conv => whnf) | (refine Both.lit_true ?_; conv => whnf) | (refine Both.lit_false ?_; conv => whnf) | (apply QStep.go; conv => whnf) | (refine Need.au ?_; conv => whnf) | (refine ⟨_, rfl, ?_⟩; conv => whnf)))
        (refine DrawVC.any Γok (by kernel_rfl) (by kernel_rfl) (by kernel_rfl) (by rfl) ?_; conv => whnf)
        (repeat (first | (refine Need.mk hix ?_; conv => whnf) | (refine ⟨_, hat, ?_⟩; conv => whnf) | (refine Both.of_false e1 ?_; conv => whnf) | (refine Both.of_true e2 ?_; conv => whnf) | (exact Out.same; conv => whnf) | (exact Out1.same; conv => whnf) | (refine QAnd.mk ?_ ?_; conv => whnf) | (apply QStepH.go; conv => whnf) | (refine Both.lit_true ?_; conv => whnf) | (refine Both.lit_false ?_; conv => whnf) | (apply QStep.go; conv => whnf) | (refine Need.au ?_; conv => whnf) | (refine ⟨_, rfl, ?_⟩; conv => whnf)))
        exact ⟨_, _, WeakV.drop rfl, h⟩
      · have e2 : decide (x.i = IntKind.i64.wrap (x.c - 1)) = false := by rw [hwc]; exact decide_eq_false q2
        have h := hfin false ⟨fun u => (by cases u), fun u => by
          rcases u with u | u
          · exact absurd u.1 q1
          · exact absurd u.1 q2⟩
        (conv => whnf)
        (repeat (first | (refine Both.of_false c0 ?_; conv => whnf) | (refine Both.of_true c1 ?_; conv => whnf) | (exact Out.same; conv => whnf) | (exact Out1.same; conv => whnf) | (refine QAnd.mk ?_ ?_; conv => whnf) | (apply QStepH.go; conv => whnf) | (refine Both.lit_true ?_; conv => whnf) | (refine Both.lit_false ?_; conv => whnf) | (apply QStep.go; conv => whnf) | (refine Need.au ?_; conv => whnf) | (refine ⟨_, rfl, ?_⟩; conv => whnf)))
        (refine DrawVC.any Γok (by kernel_rfl) (by kernel_rfl) (by kernel_rfl) (by rfl) ?_; conv => whnf)
        (repeat (first | (refine Need.mk hix ?_; conv => whnf) | (refine ⟨_, hat, ?_⟩; conv => whnf) | (refine Both.of_false e1 ?_; conv => whnf) | (refine Both.of_false e2 ?_; conv => whnf) | (exact Out.same; conv => whnf) | (exact Out1.same; conv => whnf) | (refine QAnd.mk ?_ ?_; conv => whnf) | (apply QStepH.go; conv => whnf) | (refine Both.lit_true ?_; conv => whnf) | (refine Both.lit_false ?_; conv => whnf) | (apply QStep.go; conv => whnf) | (refine Need.au ?_; conv => whnf) | (refine ⟨_, rfl, ?_⟩; conv => whnf)))
        exact ⟨_, _, WeakV.drop rfl, h⟩
  | [x, y], _, hf, hfin =>
    have hxo := hf.2 x (by simp)
    have hxi := hxo.i
    have c0 : decide (((([x, y] : List Lf).length : Nat) : Int) = 0) = false := rfl
    have c1 : decide (((([x, y] : List Lf).length : Nat) : Int) = 1) = false := rfl
    have hat0 : ((flL [x, y]).drop ((0 : Int).toNat * 5)).take 5 = [CV.int .i64 x.i, .int .i64 x.c, .str x.k, .str x.v, .sl 1 x.p.length (strs x.p) false] := rfl
    have hix0 : ti50.size = 5 ∧ (0 : Int) ≤ 0 ∧ (0 : Int) < ((([x, y] : List Lf).length : Nat) : Int) := ⟨rfl, by omega, by simp⟩
    have hat1 : ((flL [x, y]).drop ((1 : Int).toNat * 5)).take 5 = [CV.int .i64 y.i, .int .i64 y.c, .str y.k, .str y.v, .sl 1 y.p.length (strs y.p) false] := rfl
    have hix1 : ti50.size = 5 ∧ (0 : Int) ≤ 1 ∧ (1 : Int) < ((([x, y] : List Lf).length : Nat) : Int) := ⟨rfl, by omega, by simp⟩
    have hwi : IntKind.i64.wrap (x.i + 1) = x.i + 1 := wrap_i64 (by omega) (by omega)
    have hfin : ∀ b : Bool, (b = true ↔ (x.c = y.c ∧ x.i + 1 = y.i) ∧ lessS x.k key = true ∧ lessS key y.k = true) → Q (.bool b) [] := hfin
    by_cases q1 : x.c = y.c
    · have e1 : decide (x.c = y.c) = true := decide_eq_true q1
      by_cases q2 : x.i + 1 = y.i
      · have e2 : decide (IntKind.i64.wrap (x.i + 1) = y.i) = true := by rw [hwi]; exact decide_eq_true q2
        cases b1 : lessS x.k key with
        | true =>
          have h := hfin (lessS key y.k) ⟨fun u => ⟨⟨q1, q2⟩, b1, u⟩, fun u => u.2.2⟩
          (conv => whnf)
          (repeat (first | (refine Both.of_false c0 ?_; conv => whnf) | (refine Both.of_false c1 ?_; conv => whnf) | (exact Out.same; conv => whnf) | (exact Out1.same; conv => whnf) | (refine QAnd.mk ?_ ?_; conv => whnf) | (apply QStepH.go; conv => whnf) | (refine Both.lit_true ?_; conv => whnf) | (refine Both.lit_false ?_; conv => whnf) | (apply QStep.go; conv => whnf) | (refine Need.au ?_; conv => whnf) | (refine ⟨_, rfl, ?_⟩; conv => whnf)))
          (refine DrawVC.any Γok (by kernel_rfl) (by kernel_rfl) (by kernel_rfl) (by rfl) ?_; conv => whnf)
          (repeat (first | (refine Need.mk hix0 ?_; conv => whnf) | (refine Need.mk hix1 ?_; conv => whnf) | (refine ⟨_, hat0, ?_⟩; conv => whnf) | (refine ⟨_, hat1, ?_⟩; conv => whnf) | (refine Both.of_true e1 ?_; conv => whnf) | (refine Both.of_true e2 ?_; conv => whnf) | (refine Both.of_true b1 ?_; conv => whnf) | (exact Out.same; conv => whnf) | (exact Out1.same; conv => whnf) | (refine QAnd.mk ?_ ?_; conv => whnf) | (apply QStepH.go; conv => whnf) | (refine Both.lit_true ?_; conv => whnf) | (refine Both.lit_false ?_; conv => whnf) | (apply QStep.go; conv => whnf) | (refine Need.au ?_; conv => whnf) | (refine ⟨_, rfl, ?_⟩; conv => whnf)))
          exact ⟨_, _, WeakV.drop rfl, h⟩
        | false =>
          have h := hfin false ⟨fun u => (by cases u), fun u => by rw [b1] at u; cases u.2.1⟩
          (conv => whnf)
          (repeat (first | (refine Both.of_false c0 ?_; conv => whnf) | (refine Both.of_false c1 ?_; conv => whnf) | (exact Out.same; conv => whnf) | (exact Out1.same; conv => whnf) | (refine QAnd.mk ?_ ?_; conv => whnf) | (apply QStepH.go; conv => whnf) | (refine Both.lit_true ?_; conv => whnf) | (refine Both.lit_false ?_; conv => whnf) | (apply QStep.go; conv => whnf) | (refine Need.au ?_; conv => whnf) | (refine ⟨_, rfl, ?_⟩; conv => whnf)))
          (refine DrawVC.any Γok (by kernel_rfl) (by kernel_rfl) (by kernel_rfl) (by rfl) ?_; conv => whnf)
          (repeat (first | (refine Need.mk hix0 ?_; conv => whnf) | (refine Need.mk hix1 ?_; conv => whnf) | (refine ⟨_, hat0, ?_⟩; conv => whnf) | (refine ⟨_, hat1, ?_⟩; conv => whnf) | (refine Both.of_true e1 ?_; conv => whnf) | (refine Both.of_true e2 ?_; conv => whnf) | (refine Both.of_false b1 ?_; conv => whnf) | (exact Out.same; conv => whnf) | (exact Out1.same; conv => whnf) | (refine QAnd.mk ?_ ?_; conv => whnf) | (apply QStepH.go; conv => whnf) | (refine Both.lit_true ?_; conv => whnf) | (refine Both.lit_false ?_; conv => whnf) | (apply QStep.go; conv => whnf) | (refine Need.au ?_; conv => whnf) | (refine ⟨_, rfl, ?_⟩; conv => whnf)))
          exact ⟨_, _, WeakV.drop rfl, h⟩
      · have e2 : decide (IntKind.i64.wrap (x.i + 1) = y.i) = false := by rw [hwi]; exact decide_eq_false q2
        have h := hfin false ⟨fun u => (by cases u), fun u => absurd u.1.2 q2⟩
        (conv => whnf)
        (repeat (first | (refine Both.of_false c0 ?_; conv => whnf) | (refine Both.of_false c1 ?_; conv => whnf) | (exact Out.same; conv => whnf) | (exact Out1.same; conv => whnf) | (refine QAnd.mk ?_ ?_; conv => whnf) | (apply QStepH.go; conv => whnf) | (refine Both.lit_true ?_; conv => whnf) | (refine Both.lit_false ?_; conv => whnf) | (apply QStep.go; conv => whnf) | (refine Need.au ?_; conv => whnf) | (refine ⟨_, rfl, ?_⟩; conv => whnf)))
        (refine DrawVC.any Γok (by kernel_rfl) (by kernel_rfl) (by kernel_rfl) (by rfl) ?_; conv => whnf)
        (repeat (first | (refine Need.mk hix0 ?_; conv => whnf) | (refine Need.mk hix1 ?_; conv => whnf) | (refine ⟨_, hat0, ?_⟩; conv => whnf) | (refine ⟨_, hat1, ?_⟩; conv => whnf) | (refine Both.of_true e1 ?_; conv => whnf) | (refine Both.of_false e2 ?_; conv => whnf) | (exact Out.same; conv => whnf) | (exact Out1.same; conv => whnf) | (refine QAnd.mk ?_ ?_; conv => whnf) | (apply QStepH.go; conv => whnf) | (refine Both.lit_true ?_; conv => whnf) | (refine Both.lit_false ?_; conv => whnf) | (apply QStep.go; conv => whnf) | (refine Need.au ?_; conv => whnf) | (refine ⟨_, rfl, ?_⟩; conv => whnf)))
        exact ⟨_, _, WeakV.drop rfl, h⟩
    · have e1 : decide (x.c = y.c) = false := decide_eq_false q1
      have h := hfin false ⟨fun u => (by cases u), fun u => absurd u.1.1 q1⟩
      (conv => whnf)
      (repeat (first | (refine Both.of_false c0 ?_; conv => whnf) | (refine Both.of_false c1 ?_; conv => whnf) | (exact Out.same; conv => whnf) | (exact Out1.same; conv => whnf) | (refine QAnd.mk ?_ ?_; conv => whnf) | (apply QStepH.go; conv => whnf) | (refine Both.lit_true ?_; conv => whnf) | (refine Both.lit_false ?_; conv => whnf) | (apply QStep.go; conv => whnf) | (refine Need.au ?_; conv => whnf) | (refine ⟨_, rfl, ?_⟩; conv => whnf)))
      (refine DrawVC.any Γok (by kernel_rfl) (by kernel_rfl) (by kernel_rfl) (by rfl) ?_; conv => whnf)
      (repeat (first | (refine Need.mk hix0 ?_; conv => whnf) | (refine Need.mk hix1 ?_; conv => whnf) | (refine ⟨_, hat0, ?_⟩; conv => whnf) | (refine ⟨_, hat1, ?_⟩; conv => whnf) | (refine Both.of_false e1 ?_; conv => whnf) | (exact Out.same; conv => whnf) | (exact Out1.same; conv => whnf) | (refine QAnd.mk ?_ ?_; conv => whnf) | (apply QStepH.go; conv => whnf) | (refine Both.lit_true ?_; conv => whnf) | (refine Both.lit_false ?_; conv => whnf) | (apply QStep.go; conv => whnf) | (refine Need.au ?_; conv => whnf) | (refine ⟨_, rfl, ?_⟩; conv => whnf)))
      exact ⟨_, _, WeakV.drop rfl, h⟩
  | _ :: _ :: _ :: _, hl3, _, _ => exact absurd hl3 (by simp)
theorem lacks_k {y0 : CV} {cs0 : List CV} (hK : KAt y0 cs0) : Contract Tryz.prog [(0, y0 :: cs0)] 10 lacksS := ⟨⟨⟨_, rfl, rfl, rfl⟩⟩, lacks_c hK⟩
end Go.LX
end
section
set_option maxRecDepth 100000
set_option maxHeartbeats 2000000
set_option autoImplicit false
set_option linter.unusedVariables false
set_option linter.unusedSimpArgs false
namespace Go.LX
open Go.Proofs

open Classical in
noncomputable def clT (x : Lf) (T : List Bs) : List Bs := if rightP x.p x.i x.c then climbT (txLeaf (x.k, x.v)) x.i x.c x.p T else T
noncomputable def clsT : List Lf → List Bs → List Bs
  | [], T => T
  | x :: L, T => clsT L (clT x T)
theorem clsT_snoc (x : Lf) : ∀ (L : List Lf) (T : List Bs), clsT (L ++ [x]) T = clT x (clsT L T)
  | [], T => rfl
  | y :: L, T => clsT_snoc x L (clT y T)
theorem good_yes {root : Bs} {x : Lf} (h : rightP x.p x.i x.c) : goodC root x = decide (shaD (topX x.c.toNat (upD (txLeaf (x.k, x.v)) x.p x.i.toNat x.c.toNat)) = root) := by
  unfold goodC
  rw [climb_yes h]
  rfl
theorem good_no {root : Bs} {x : Lf} (h : ¬ rightP x.p x.i x.c) : goodC root x = false := by
  unfold goodC
  rw [climb_no h]
  rfl
theorem all_snoc {root : Bs} {x : Lf} {L : List Lf} : (∀ z ∈ L ++ [x], goodC root z = true) ↔ (∀ z ∈ L, goodC root z = true) ∧ goodC root x = true := by
  constructor
  · intro h
    exact ⟨fun z hz => h z (List.mem_append.2 (.inl hz)), h x (by simp)⟩
  · rintro ⟨h1, h2⟩ z hz
    rcases List.mem_append.1 hz with hz | hz
    · exact h1 z hz
    · rw [List.mem_singleton.1 hz]; exact h2
theorem take_snoc {L : List Lf} {j : Nat} (h : j < L.length) : L.take (j + 1) = L.take j ++ [L[j]] := (List.take_append_getElem h).symm
def rclimbsS : Spec := fun args H Q => match args with
  | [.ptr 0 0, .str root, .agg [.bool a, .sl 5 n cs false]] => inB H fun T => ∃ L : List Lf, cs = flL L ∧ n = L.length ∧ L.length ≤ 1000000 ∧ (∀ x ∈ L, okLf x) ∧ Q (.bool (decide (∀ x ∈ L, goodC root x = true))) (bkO (clsT L T))
  | _ => False
theorem rclimbs_c : Meets Tryz.prog [] 22 rclimbsS := by
  refine meets_of Γok Tryz.func22 rfl ?_
  intro args H Q h
  unfold rclimbsS at h
  split at h
  case h_2 => exact h.elim
  rename_i root a n cs
  obtain ⟨T, rfl, L, rfl, rfl, hL, hok, h⟩ := inB_out h
  (refine sx_sound Γok _ ?_; conv => whnf)
  (repeat (first | (exact Out.same; conv => whnf) | (exact Out1.same; conv => whnf) | (refine QAnd.mk ?_ ?_; conv => whnf) | (apply QStepH.go; conv => whnf) | (refine Both.lit_true ?_; conv => whnf) | (refine Both.lit_false ?_; conv => whnf) | (apply QStep.go; conv => whnf) | (refine Need.au ?_; conv => whnf) | (refine ⟨_, rfl, ?_⟩; conv => whnf)))
  refine loop_rule (fun x : Nat × Bool × List Bs => match x with | (j, b, U) => ⟨[.ptr 0 0, .str root, .any, .any, .any, .ptr 2 0, .any, .bool b, .int .i64 (j : Int), .any, .any, .any, .any, .any, .any, .any, .any, .any, .any, .any, .any, .any, .any, .any, .any, .any, .any, .any, .any, .any, .any, .any, .any, .any, .any, .any, .any, .any], bkO U ++ [.cells [.bool a, .sl 5 L.length (flL L) false] 42]⟩) (fun x => match x with | (j, b, U) => j ≤ L.length ∧ U = clsT (L.take j) T ∧ (b = true ↔ ∀ z ∈ L.take j, goodC root z = true)) (fun x => match x with | (j, b, U) => L.length - j) (0, true, T) ⟨Nat.zero_le _, rfl, ⟨fun _ z hz => (by simp at hz), fun _ => rfl⟩⟩ (Weak.auto ?_) ?_
  · (repeat' ((conv => whnf); first | exact True.intro | (refine And.intro ?_ ?_)))
    all_goals first | rfl | exact .eq rfl
  rintro ⟨j, b, U⟩ ⟨hj, hU, hb⟩
  (refine sx_sound Γok _ ?_; conv => whnf)
  (repeat (first | (exact Out.same; conv => whnf) | (exact Out1.same; conv => whnf) | (refine QAnd.mk ?_ ?_; conv => whnf) | (apply QStepH.go; conv => whnf) | (refine Both.lit_true ?_; conv => whnf) | (refine Both.lit_false ?_; conv => whnf) | (apply QStep.go; conv => whnf) | (refine Need.au ?_; conv => whnf) | (refine ⟨_, rfl, ?_⟩; conv => whnf)))
  refine Both.dec (fun hlt => ?_) (fun hge => ?_)
  rotate_left
  · have hje : j = L.length := by omega
    rw [hje, List.take_length] at hU hb
    have hbe : b = decide (∀ x ∈ L, goodC root x = true) := by
      cases b with
      | true => exact (decide_eq_true (hb.1 rfl)).symm
      | false => exact (decide_eq_false (fun u => by cases hb.2 u)).symm
    rw [← hbe, ← hU] at h
    (conv => whnf)
    (repeat (first | (exact Out.same; conv => whnf) | (exact Out1.same; conv => whnf) | (refine QAnd.mk ?_ ?_; conv => whnf) | (apply QStepH.go; conv => whnf) | (refine Both.lit_true ?_; conv => whnf) | (refine Both.lit_false ?_; conv => whnf) | (apply QStep.go; conv => whnf) | (refine Need.au ?_; conv => whnf) | (refine ⟨_, rfl, ?_⟩; conv => whnf)))
    refine ⟨_, _, WeakV.auto ?_, h⟩
    (repeat' ((conv => whnf); first | exact True.intro | (refine And.intro ?_ ?_)))
    all_goals first | rfl | exact .eq rfl
  have hjl : j < L.length := by omega
  have hts := take_snoc hjl
  have hxo : okLf L[j] := hok _ (List.getElem_mem _)
  have hwr : IntKind.i64.wrap ((j : Int) + 1) = ((j + 1 : Nat) : Int) := by rw [wrap_i64 (by omega) (by omega)]; rfl
  have hU2 := clsT_snoc L[j] (L.take j) T
  rw [← hts, ← hU] at hU2
  have hb2 : (∀ z ∈ L.take (j + 1), goodC root z = true) ↔ b = true ∧ goodC root L[j] = true := by rw [hts, all_snoc, hb]
  have hat := flL_at L hjl L[j]
  rw [show L.getD j L[j] = L[j] from by rw [List.getD_eq_getElem?_getD, List.getElem?_eq_getElem hjl]; rfl] at hat
  have hix : ti50.size = 5 ∧ (0 : Int) ≤ (j : Int) ∧ (j : Int) < ((L.length : Nat) : Int) := ⟨rfl, by omega, by omega⟩
  generalize L[j] = x at hxo hU2 hb2 hat
  have hxp := hxo.p
  have hxk := hxo.k
  have hxv := hxo.v
  (conv => whnf)
  (repeat (first | (refine Need.mk hix ?_; conv => whnf) | (refine ⟨_, hat, ?_⟩; conv => whnf) | (exact Out.same; conv => whnf) | (exact Out1.same; conv => whnf) | (refine QAnd.mk ?_ ?_; conv => whnf) | (apply QStepH.go; conv => whnf) | (refine Both.lit_true ?_; conv => whnf) | (refine Both.lit_false ?_; conv => whnf) | (apply QStep.go; conv => whnf) | (refine Need.au ?_; conv => whnf) | (refine ⟨_, rfl, ?_⟩; conv => whnf)))
  refine CallVC.auto rclimb_k (inB_mk ⟨x.p, rfl, rfl, by omega, by omega, by omega, fun hr => ?_, fun hr => ?_⟩)
  · have hg := good_yes (root := root) hr
    have hcT : clT x U = climbT (txLeaf (x.k, x.v)) x.i x.c x.p U := if_pos hr
    obtain ⟨U2, hU3⟩ : ∃ U2, clsT (L.take (j + 1)) T = U2 := ⟨_, rfl⟩
    rw [← hcT, ← hU2, hU3]
    rw [hg] at hb2
    generalize shaD (topX x.c.toNat (upD (txLeaf (x.k, x.v)) x.p x.i.toNat x.c.toNat)) = d at hb2 ⊢
    cases b with
    | false =>
      (conv => whnf)
      (repeat (first | (exact Out.same; conv => whnf) | (exact Out1.same; conv => whnf) | (refine QAnd.mk ?_ ?_; conv => whnf) | (apply QStepH.go; conv => whnf) | (refine Both.lit_true ?_; conv => whnf) | (refine Both.lit_false ?_; conv => whnf) | (apply QStep.go; conv => whnf) | (refine Need.au ?_; conv => whnf) | (refine ⟨_, rfl, ?_⟩; conv => whnf)))
      refine ⟨(j + 1, false, U2), ⟨hjl, hU3.symm, ⟨fun q => (by cases q), fun q => (hb2.1 q).1⟩⟩, by show L.length - (j + 1) < L.length - j; omega, Weak.auto ?_⟩
      (repeat' ((conv => whnf); first | exact True.intro | (refine And.intro ?_ ?_)))
      all_goals first | rfl | exact .eq rfl | exact congrArg (SV.int .i64) hwr
    | true =>
      (conv => whnf)
      (repeat (first | (exact Out.same; conv => whnf) | (exact Out1.same; conv => whnf) | (refine QAnd.mk ?_ ?_; conv => whnf) | (apply QStepH.go; conv => whnf) | (refine Both.lit_true ?_; conv => whnf) | (refine Both.lit_false ?_; conv => whnf) | (apply QStep.go; conv => whnf) | (refine Need.au ?_; conv => whnf) | (refine ⟨_, rfl, ?_⟩; conv => whnf)))
      refine ⟨(j + 1, decide (d = root), U2), ⟨hjl, hU3.symm, ⟨fun q => hb2.2 ⟨rfl, q⟩, fun q => (hb2.1 q).2⟩⟩, by show L.length - (j + 1) < L.length - j; omega, Weak.auto ?_⟩
      (repeat' ((conv => whnf); first | exact True.intro | (refine And.intro ?_ ?_)))
      all_goals first | rfl | exact .eq rfl | exact congrArg (SV.int .i64) hwr
  · have hg := good_no (root := root) hr
    have hcT : clT x U = U := if_neg hr
    rw [hcT] at hU2
    rw [hg] at hb2
    have hbf : ¬ ∀ z ∈ L.take (j + 1), goodC root z = true := fun q => by cases (hb2.1 q).2
    cases b with
    | false =>
      (conv => whnf)
      (repeat (first | (exact Out.same; conv => whnf) | (exact Out1.same; conv => whnf) | (refine QAnd.mk ?_ ?_; conv => whnf) | (apply QStepH.go; conv => whnf) | (refine Both.lit_true ?_; conv => whnf) | (refine Both.lit_false ?_; conv => whnf) | (apply QStep.go; conv => whnf) | (refine Need.au ?_; conv => whnf) | (refine ⟨_, rfl, ?_⟩; conv => whnf)))
      refine ⟨(j + 1, false, U), ⟨hjl, hU2.symm, ⟨fun q => (by cases q), fun q => absurd q hbf⟩⟩, by show L.length - (j + 1) < L.length - j; omega, Weak.auto ?_⟩
      (repeat' ((conv => whnf); first | exact True.intro | (refine And.intro ?_ ?_)))
      all_goals first | rfl | exact .eq rfl | exact congrArg (SV.int .i64) hwr
    | true =>
      (conv => whnf)
      (repeat (first | (exact Out.same; conv => whnf) | (exact Out1.same; conv => whnf) | (refine QAnd.mk ?_ ?_; conv => whnf) | (apply QStepH.go; conv => whnf) | (refine Both.lit_true ?_; conv => whnf) | (refine Both.lit_false ?_; conv => whnf) | (apply QStep.go; conv => whnf) | (refine Need.au ?_; conv => whnf) | (refine ⟨_, rfl, ?_⟩; conv => whnf)))
      refine ⟨(j + 1, false, U), ⟨hjl, hU2.symm, ⟨fun q => (by cases q), fun q => absurd q hbf⟩⟩, by show L.length - (j + 1) < L.length - j; omega, Weak.auto ?_⟩
      (repeat' ((conv => whnf); first | exact True.intro | (refine And.intro ?_ ?_)))
      all_goals first | rfl | exact .eq rfl | exact congrArg (SV.int .i64) hwr
theorem rclimbs_k : Contract Tryz.prog [] 22 rclimbsS := ⟨⟨⟨_, rfl, rfl, rfl⟩⟩, rclimbs_c⟩
end Go.LX
end
section
set_option maxRecDepth 100000
set_option maxHeartbeats 2000000
set_option autoImplicit false
set_option linter.unusedVariables false
set_option linter.unusedSimpArgs false
namespace Go.LX
open Go.Proofs

theorem gt_k (a b : Bs) : (!(lessS a b || decide (a = b))) = lessS b a := by
  rw [less_tri0 b a, show decide (a = b) = decide (b = a) from decide_eq_decide.2 ⟨Eq.symm, Eq.symm⟩]
def rrootNS : Spec := fun args H Q => match args with
  | [.ptr 0 0, .nilsl] => inB H fun T => Q (.str (shaD (topX 0 []))) (bkO (topX 0 [] :: T))
  | _ => False
theorem rrootN_c : Meets Tryz.prog [] 14 rrootNS := by
  refine meets_of Γok Tryz.func14 rfl ?_
  intro args H Q h
  unfold rrootNS at h
  split at h
  case h_2 => exact h.elim
  obtain ⟨T, rfl, h2⟩ := inB_out h
  have h := h2
  clear h2
  have hz : decide ((((0 : Nat) : Nat) : Int) = 0) = true := rfl
  (refine sx_sound Γok _ ?_; conv => whnf)
  (repeat (first | (refine Both.of_true hz ?_; conv => whnf) | (exact Out.same; conv => whnf) | (exact Out1.same; conv => whnf) | (refine QAnd.mk ?_ ?_; conv => whnf) | (apply QStepH.go; conv => whnf) | (refine Both.lit_true ?_; conv => whnf) | (refine Both.lit_false ?_; conv => whnf) | (apply QStep.go; conv => whnf) | (refine Need.au ?_; conv => whnf) | (refine ⟨_, rfl, ?_⟩; conv => whnf)))
  refine CallVC.auto rtop_k (inB_mk ⟨by decide, by decide, by decide, ?_⟩)
  (conv => whnf)
  (repeat (first | (exact Out.same; conv => whnf) | (exact Out1.same; conv => whnf) | (refine QAnd.mk ?_ ?_; conv => whnf) | (apply QStepH.go; conv => whnf) | (refine Both.lit_true ?_; conv => whnf) | (refine Both.lit_false ?_; conv => whnf) | (apply QStep.go; conv => whnf) | (refine Need.au ?_; conv => whnf) | (refine ⟨_, rfl, ?_⟩; conv => whnf)))
  refine ⟨_, _, WeakV.auto ?_, h⟩
  (repeat' ((conv => whnf); first | exact True.intro | (refine And.intro ?_ ?_)))
  all_goals first | rfl | exact .eq rfl
theorem rrootN_k : Contract Tryz.prog [] 14 rrootNS := ⟨⟨⟨_, rfl, rfl, rfl⟩⟩, rrootN_c⟩
noncomputable def hasT (s : Bs) (T : List Bs) : List Bs := if (parseV s).2 = 0 ∧ (parseV s).1.1 = false ∧ (parseV s).1.2.length = 1 then clsT (parseV s).1.2 T else T
noncomputable def lacksT (s key : Bs) (T : List Bs) : List Bs := if ((parseV s).2 = 0 ∧ (parseV s).1.1 = true) ∧ (1 ≤ key.length ∧ key.length ≤ 16) then (if (parseV s).1.2.length = 0 then topX 0 [] :: T else clsT (parseV s).1.2 T) else T
open Classical in
def rhasS : Spec := fun args H Q => match args with
  | [.ptr 0 0, .str root, .str s, .str key, .str value] => inB H fun T => s.length < 1000000 ∧ Q (.bool (decide (hasP root s key value))) (bkO (hasT s T))
  | _ => False
open Classical in
theorem rhas_c : Meets Tryz.prog [] 9 rhasS := by
  refine meets_of Γok Tryz.func9 rfl ?_
  intro args H Q h
  unfold rhasS at h
  split at h
  case h_2 => exact h.elim
  rename_i root s key value
  obtain ⟨T, rfl, hs, h⟩ := inB_out h
  have cz : (!decide ((0 : Int) = 0)) = false := rfl
  have c5 : (!decide ((5 : Int) = 0)) = true := rfl
  rcases parseV_cases s with ⟨a, L, hf, hr, hp⟩ | hp
  case inr =>
    have hn : ¬ hasP root s key value := fun ⟨x, q, _⟩ => by
      have := (Prod.mk.inj (hp.symm.trans q)).2
      cases this
    have hT : hasT s T = T := by
      unfold hasT
      rw [hp, if_neg (fun q => by have := q.1; cases this)]
    rw [decide_eq_false hn, hT] at h
    (refine sx_sound Γok _ ?_; conv => whnf)
    (repeat (first | (exact Out.same; conv => whnf) | (exact Out1.same; conv => whnf) | (refine QAnd.mk ?_ ?_; conv => whnf) | (apply QStepH.go; conv => whnf) | (refine Both.lit_true ?_; conv => whnf) | (refine Both.lit_false ?_; conv => whnf) | (apply QStep.go; conv => whnf) | (refine Need.au ?_; conv => whnf) | (refine ⟨_, rfl, ?_⟩; conv => whnf)))
    refine CallVC.auto rparse_k ⟨hs, fun a1 L1 e1 h1 => ?_⟩
    obtain ⟨u1, u3⟩ := Prod.mk.inj (h1.symm.trans hp)
    obtain ⟨u1, u2⟩ := Prod.mk.inj u1
    clear h1
    subst u1 u2 u3
    (conv => whnf)
    (repeat (first | (refine Both.of_true c5 ?_; conv => whnf) | (exact Out.same; conv => whnf) | (exact Out1.same; conv => whnf) | (refine QAnd.mk ?_ ?_; conv => whnf) | (apply QStepH.go; conv => whnf) | (refine Both.lit_true ?_; conv => whnf) | (refine Both.lit_false ?_; conv => whnf) | (apply QStep.go; conv => whnf) | (refine Need.au ?_; conv => whnf) | (refine ⟨_, rfl, ?_⟩; conv => whnf)))
    refine ⟨_, _, WeakV.auto ?_, h⟩
    (repeat' ((conv => whnf); first | exact True.intro | (refine And.intro ?_ ?_)))
    all_goals first | rfl | exact .eq rfl
  (refine sx_sound Γok _ ?_; conv => whnf)
  (repeat (first | (exact Out.same; conv => whnf) | (exact Out1.same; conv => whnf) | (refine QAnd.mk ?_ ?_; conv => whnf) | (apply QStepH.go; conv => whnf) | (refine Both.lit_true ?_; conv => whnf) | (refine Both.lit_false ?_; conv => whnf) | (apply QStep.go; conv => whnf) | (refine Need.au ?_; conv => whnf) | (refine ⟨_, rfl, ?_⟩; conv => whnf)))
  refine CallVC.auto rparse_k ⟨hs, fun a1 L1 e1 h1 => ?_⟩
  obtain ⟨u1, u3⟩ := Prod.mk.inj (h1.symm.trans hp)
  obtain ⟨u1, u2⟩ := Prod.mk.inj u1
  clear h1
  subst u1 u2 u3
  cases a1 with
  | true =>
    have hn : ¬ hasP root s key value := fun ⟨x, q, _⟩ => by
      have := (Prod.mk.inj (Prod.mk.inj (hp.symm.trans q)).1).1
      cases this
    have hT : hasT s T = T := by
      unfold hasT
      rw [hp, if_neg (fun q => by have := q.2.1; cases this)]
    rw [decide_eq_false hn, hT] at h
    (conv => whnf)
    (repeat (first | (refine Both.of_false cz ?_; conv => whnf) | (exact Out.same; conv => whnf) | (exact Out1.same; conv => whnf) | (refine QAnd.mk ?_ ?_; conv => whnf) | (apply QStepH.go; conv => whnf) | (refine Both.lit_true ?_; conv => whnf) | (refine Both.lit_false ?_; conv => whnf) | (apply QStep.go; conv => whnf) | (refine Need.au ?_; conv => whnf) | (refine ⟨_, rfl, ?_⟩; conv => whnf)))
    refine ⟨_, _, WeakV.auto ?_, h⟩
    (repeat' ((conv => whnf); first | exact True.intro | (refine And.intro ?_ ?_)))
    all_goals first | rfl | exact .eq rfl
  | false =>
  by_cases hl : L1.length = 1
  case neg =>
    have cl : (!decide (((L1.length : Nat) : Int) = 1)) = true := by rw [decide_eq_false (by omega)]; rfl
    have hn : ¬ hasP root s key value := fun ⟨x, q, _⟩ => by
      have := (Prod.mk.inj (Prod.mk.inj (hp.symm.trans q)).1).2
      rw [this] at hl
      exact hl rfl
    have hT : hasT s T = T := by
      unfold hasT
      rw [hp, if_neg (fun q => hl q.2.2)]
    rw [decide_eq_false hn, hT] at h
    (conv => whnf)
    (repeat (first | (refine Both.of_false cz ?_; conv => whnf) | (refine Both.of_true cl ?_; conv => whnf) | (exact Out.same; conv => whnf) | (exact Out1.same; conv => whnf) | (refine QAnd.mk ?_ ?_; conv => whnf) | (apply QStepH.go; conv => whnf) | (refine Both.lit_true ?_; conv => whnf) | (refine Both.lit_false ?_; conv => whnf) | (apply QStep.go; conv => whnf) | (refine Need.au ?_; conv => whnf) | (refine ⟨_, rfl, ?_⟩; conv => whnf)))
    refine ⟨_, _, WeakV.auto ?_, h⟩
    (repeat' ((conv => whnf); first | exact True.intro | (refine And.intro ?_ ?_)))
    all_goals first | rfl | exact .eq rfl
  obtain ⟨x, rfl⟩ : ∃ x, L1 = [x] := List.length_eq_one_iff.1 hl
  have hxo := hf.2 x (List.mem_singleton.2 rfl)
  have hT : hasT s T = clsT [x] T := by
    unfold hasT
    rw [hp, if_pos ⟨rfl, rfl, rfl⟩]
  rw [hT] at h
  have cl : (!decide (((([x] : List Lf).length : Nat) : Int) = 1)) = false := rfl
  have hat : ((flL [x]).drop ((0 : Int).toNat * 5)).take 5 = [CV.int .i64 x.i, .int .i64 x.c, .str x.k, .str x.v, .sl 1 x.p.length (strs x.p) false] := rfl
  have hix : ti50.size = 5 ∧ (0 : Int) ≤ 0 ∧ (0 : Int) < ((([x] : List Lf).length : Nat) : Int) := ⟨rfl, by omega, by simp⟩
  have ho1 : ([x] : List Lf).length ≤ 1000000 := by show 1 ≤ 1000000; decide
  have hoA : ∀ z ∈ [x], okLf z := fun z hz => by rw [List.mem_singleton.1 hz]; exact hxo
  have hone : ∀ z : Lf, parseV s = ((false, [z]), 0) → x = z := fun z q => by
    have := (Prod.mk.inj (Prod.mk.inj (hp.symm.trans q)).1).2
    simpa using this
  have hfin : ∀ b : Bool, (b = true ↔ ((∀ z ∈ [x], goodC root z = true) ∧ x.k = key) ∧ x.v = value) → Q (.bool b) (bkO (clsT [x] T)) := fun b q => by
    have e : b = decide (hasP root s key value) := by
      have q2 : b = true ↔ hasP root s key value := q.trans ⟨fun u => ⟨x, hp, ⟨u.1.2, u.2⟩, u.1.1 x (List.mem_singleton.2 rfl)⟩, fun ⟨z, q3, q4, q5⟩ => by
        obtain rfl := hone z q3
        exact ⟨⟨fun y hy => by rw [List.mem_singleton.1 hy]; exact q5, q4.1⟩, q4.2⟩⟩
      cases b with
      | true => exact (decide_eq_true (q2.1 rfl)).symm
      | false => exact (decide_eq_false (fun u => by cases q2.2 u)).symm
    rw [e]
    exact h
  (conv => whnf)
  (repeat (first | (refine Both.of_false cz ?_; conv => whnf) | (refine Both.of_false cl ?_; conv => whnf) | (exact Out.same; conv => whnf) | (exact Out1.same; conv => whnf) | (refine QAnd.mk ?_ ?_; conv => whnf) | (apply QStepH.go; conv => whnf) | (refine Both.lit_true ?_; conv => whnf) | (refine Both.lit_false ?_; conv => whnf) | (apply QStep.go; conv => whnf) | (refine Need.au ?_; conv => whnf) | (refine ⟨_, rfl, ?_⟩; conv => whnf)))
  refine CallVC.auto rclimbs_k (inB_mk ⟨[x], rfl, rfl, ho1, hoA, ?_⟩)
  by_cases hg : ∀ z ∈ [x], goodC root z = true
  case neg =>
    rw [decide_eq_false hg]
    have h := hfin false ⟨fun u => (by cases u), fun u => absurd u.1.1 hg⟩
    (conv => whnf)
    (repeat (first | (exact Out.same; conv => whnf) | (exact Out1.same; conv => whnf) | (refine QAnd.mk ?_ ?_; conv => whnf) | (apply QStepH.go; conv => whnf) | (refine Both.lit_true ?_; conv => whnf) | (refine Both.lit_false ?_; conv => whnf) | (apply QStep.go; conv => whnf) | (refine Need.au ?_; conv => whnf) | (refine ⟨_, rfl, ?_⟩; conv => whnf)))
    refine ⟨_, _, WeakV.auto ?_, h⟩
    (repeat' ((conv => whnf); first | exact True.intro | (refine And.intro ?_ ?_)))
    all_goals first | rfl | exact .eq rfl
  rw [decide_eq_true hg]
  by_cases hk : x.k = key
  case neg =>
    have ck : decide (x.k = key) = false := decide_eq_false hk
    have h := hfin false ⟨fun u => (by cases u), fun u => absurd u.1.2 hk⟩
    (conv => whnf)
    (repeat (first | (refine Need.mk hix ?_; conv => whnf) | (refine ⟨_, hat, ?_⟩; conv => whnf) | (refine Both.of_false ck ?_; conv => whnf) | (exact Out.same; conv => whnf) | (exact Out1.same; conv => whnf) | (refine QAnd.mk ?_ ?_; conv => whnf) | (apply QStepH.go; conv => whnf) | (refine Both.lit_true ?_; conv => whnf) | (refine Both.lit_false ?_; conv => whnf) | (apply QStep.go; conv => whnf) | (refine Need.au ?_; conv => whnf) | (refine ⟨_, rfl, ?_⟩; conv => whnf)))
    refine ⟨_, _, WeakV.auto ?_, h⟩
    (repeat' ((conv => whnf); first | exact True.intro | (refine And.intro ?_ ?_)))
    all_goals first | rfl | exact .eq rfl
  have ck : decide (x.k = key) = true := decide_eq_true hk
  have h := hfin (decide (x.v = value)) ⟨fun u => ⟨⟨hg, hk⟩, of_decide_eq_true u⟩, fun u => decide_eq_true u.2⟩
  (conv => whnf)
  (repeat (first | (refine Need.mk hix ?_; conv => whnf) | (refine ⟨_, hat, ?_⟩; conv => whnf) | (refine Both.of_true ck ?_; conv => whnf) | (exact Out.same; conv => whnf) | (exact Out1.same; conv => whnf) | (refine QAnd.mk ?_ ?_; conv => whnf) | (apply QStepH.go; conv => whnf) | (refine Both.lit_true ?_; conv => whnf) | (refine Both.lit_false ?_; conv => whnf) | (apply QStep.go; conv => whnf) | (refine Need.au ?_; conv => whnf) | (refine ⟨_, rfl, ?_⟩; conv => whnf)))
  refine ⟨_, _, WeakV.auto ?_, h⟩
  (repeat' ((conv => whnf); first | exact True.intro | (refine And.intro ?_ ?_)))
  all_goals first | rfl | exact .eq rfl
theorem rhas_k : Contract Tryz.prog [] 9 rhasS := ⟨⟨⟨_, rfl, rfl, rfl⟩⟩, rhas_c⟩
open Classical in
def rlacksS : Spec := fun args H Q => match args with
  | [.ptr 0 0, .str root, .str s, .str key] => inB H fun T => s.length < 1000000 ∧ Q (.bool (decide (lacksP root s key))) (bkO (lacksT s key T))
  | _ => False
open Classical in
theorem rlacks_c : Meets Tryz.prog [] 11 rlacksS := by
  refine meets_of Γok Tryz.func11 rfl ?_
  intro args H Q h
  unfold rlacksS at h
  split at h
  case h_2 => exact h.elim
  rename_i root s key
  obtain ⟨T, rfl, hs, h⟩ := inB_out h
  have cz : (!decide ((0 : Int) = 0)) = false := rfl
  have c5 : (!decide ((5 : Int) = 0)) = true := rfl
  rcases parseV_cases s with ⟨a, L, hf, hr, hp⟩ | hp
  case inr =>
    have hn : ¬ lacksP root s key := fun ⟨_, L, q, _⟩ => by
      have := (Prod.mk.inj (hp.symm.trans q)).2
      cases this
    have hT : lacksT s key T = T := by
      unfold lacksT
      rw [hp, if_neg (fun q => by have := q.1.1; cases this)]
    rw [decide_eq_false hn, hT] at h
    (refine sx_sound Γok _ ?_; conv => whnf)
    (repeat (first | (exact Out.same; conv => whnf) | (exact Out1.same; conv => whnf) | (refine QAnd.mk ?_ ?_; conv => whnf) | (apply QStepH.go; conv => whnf) | (refine Both.lit_true ?_; conv => whnf) | (refine Both.lit_false ?_; conv => whnf) | (apply QStep.go; conv => whnf) | (refine Need.au ?_; conv => whnf) | (refine ⟨_, rfl, ?_⟩; conv => whnf)))
    refine CallVC.auto rparse_k ⟨hs, fun a1 L1 e1 h1 => ?_⟩
    obtain ⟨u1, u3⟩ := Prod.mk.inj (h1.symm.trans hp)
    obtain ⟨u1, u2⟩ := Prod.mk.inj u1
    clear h1
    subst u1 u2 u3
    (conv => whnf)
    (repeat (first | (refine Both.of_true c5 ?_; conv => whnf) | (exact Out.same; conv => whnf) | (exact Out1.same; conv => whnf) | (refine QAnd.mk ?_ ?_; conv => whnf) | (apply QStepH.go; conv => whnf) | (refine Both.lit_true ?_; conv => whnf) | (refine Both.lit_false ?_; conv => whnf) | (apply QStep.go; conv => whnf) | (refine Need.au ?_; conv => whnf) | (refine ⟨_, rfl, ?_⟩; conv => whnf)))
    refine ⟨_, _, WeakV.auto ?_, h⟩
    (repeat' ((conv => whnf); first | exact True.intro | (refine And.intro ?_ ?_)))
    all_goals first | rfl | exact .eq rfl
  (refine sx_sound Γok _ ?_; conv => whnf)
  (repeat (first | (exact Out.same; conv => whnf) | (exact Out1.same; conv => whnf) | (refine QAnd.mk ?_ ?_; conv => whnf) | (apply QStepH.go; conv => whnf) | (refine Both.lit_true ?_; conv => whnf) | (refine Both.lit_false ?_; conv => whnf) | (apply QStep.go; conv => whnf) | (refine Need.au ?_; conv => whnf) | (refine ⟨_, rfl, ?_⟩; conv => whnf)))
  refine CallVC.auto rparse_k ⟨hs, fun a1 L1 e1 h1 => ?_⟩
  obtain ⟨u1, u3⟩ := Prod.mk.inj (h1.symm.trans hp)
  obtain ⟨u1, u2⟩ := Prod.mk.inj u1
  clear h1
  subst u1 u2 u3
  cases a1 with
  | false =>
    have hn : ¬ lacksP root s key := fun ⟨_, L, q, _⟩ => by
      have := (Prod.mk.inj (Prod.mk.inj (hp.symm.trans q)).1).1
      cases this
    have hT : lacksT s key T = T := by
      unfold lacksT
      rw [hp, if_neg (fun q => by have := q.1.2; cases this)]
    rw [decide_eq_false hn, hT] at h
    (conv => whnf)
    (repeat (first | (refine Both.of_false cz ?_; conv => whnf) | (exact Out.same; conv => whnf) | (exact Out1.same; conv => whnf) | (refine QAnd.mk ?_ ?_; conv => whnf) | (apply QStepH.go; conv => whnf) | (refine Both.lit_true ?_; conv => whnf) | (refine Both.lit_false ?_; conv => whnf) | (apply QStep.go; conv => whnf) | (refine Need.au ?_; conv => whnf) | (refine ⟨_, rfl, ?_⟩; conv => whnf)))
    refine ⟨_, _, WeakV.auto ?_, h⟩
    (repeat' ((conv => whnf); first | exact True.intro | (refine And.intro ?_ ?_)))
    all_goals first | rfl | exact .eq rfl
  | true =>
  have hLu : ∀ L, parseV s = ((true, L), 0) → L1 = L := fun L q => (Prod.mk.inj (Prod.mk.inj (hp.symm.trans q)).1).2
  by_cases hkl : 1 ≤ key.length ∧ key.length ≤ 16
  case neg =>
    have hn : ¬ lacksP root s key := fun q => hkl q.1
    have hT : lacksT s key T = T := by
      unfold lacksT
      rw [if_neg (fun q => hkl q.2)]
    rw [decide_eq_false hn, hT] at h
    (conv => whnf)
    (repeat (first | (refine Both.of_false cz ?_; conv => whnf) | (exact Out.same; conv => whnf) | (exact Out1.same; conv => whnf) | (refine QAnd.mk ?_ ?_; conv => whnf) | (apply QStepH.go; conv => whnf) | (refine Both.lit_true ?_; conv => whnf) | (refine Both.lit_false ?_; conv => whnf) | (apply QStep.go; conv => whnf) | (refine Need.au ?_; conv => whnf) | (refine ⟨_, rfl, ?_⟩; conv => whnf)))
    refine Both.dec (fun k1 => ?_) (fun k1 => ?_)
    · (conv => whnf)
      (repeat (first | (exact Out.same; conv => whnf) | (exact Out1.same; conv => whnf) | (refine QAnd.mk ?_ ?_; conv => whnf) | (apply QStepH.go; conv => whnf) | (refine Both.lit_true ?_; conv => whnf) | (refine Both.lit_false ?_; conv => whnf) | (apply QStep.go; conv => whnf) | (refine Need.au ?_; conv => whnf) | (refine ⟨_, rfl, ?_⟩; conv => whnf)))
      refine ⟨_, _, WeakV.auto ?_, h⟩
      (repeat' ((conv => whnf); first | exact True.intro | (refine And.intro ?_ ?_)))
      all_goals first | rfl | exact .eq rfl
    (conv => whnf)
    (repeat (first | (exact Out.same; conv => whnf) | (exact Out1.same; conv => whnf) | (refine QAnd.mk ?_ ?_; conv => whnf) | (apply QStepH.go; conv => whnf) | (refine Both.lit_true ?_; conv => whnf) | (refine Both.lit_false ?_; conv => whnf) | (apply QStep.go; conv => whnf) | (refine Need.au ?_; conv => whnf) | (refine ⟨_, rfl, ?_⟩; conv => whnf)))
    refine Both.dec (fun k2 => ?_) (fun k2 => ?_)
    · (conv => whnf)
      (repeat (first | (exact Out.same; conv => whnf) | (exact Out1.same; conv => whnf) | (refine QAnd.mk ?_ ?_; conv => whnf) | (apply QStepH.go; conv => whnf) | (refine Both.lit_true ?_; conv => whnf) | (refine Both.lit_false ?_; conv => whnf) | (apply QStep.go; conv => whnf) | (refine Need.au ?_; conv => whnf) | (refine ⟨_, rfl, ?_⟩; conv => whnf)))
      refine ⟨_, _, WeakV.auto ?_, h⟩
      (repeat' ((conv => whnf); first | exact True.intro | (refine And.intro ?_ ?_)))
      all_goals first | rfl | exact .eq rfl
    · exact absurd (by omega) hkl
  have hT : lacksT s key T = (if L1.length = 0 then topX 0 [] :: T else clsT L1 T) := by
    unfold lacksT
    rw [hp, if_pos ⟨⟨rfl, rfl⟩, hkl⟩]
  rw [hT] at h
  have k1 : decide (((key.length : Nat) : Int) < 1) = false := decide_eq_false (by omega)
  have k2 : decide ((16 : Int) < ((key.length : Nat) : Int)) = false := decide_eq_false (by omega)
  have hval : ∀ b : Bool, (b = true ↔ (∀ x ∈ L1, goodC root x = true) ∧ standL root key L1) → Q (.bool b) (bkO (if L1.length = 0 then topX 0 [] :: T else clsT L1 T)) := fun b q => by
    have q2 : b = true ↔ lacksP root s key := q.trans ⟨fun u => ⟨hkl, L1, hp, u.1, u.2⟩, fun ⟨_, L, v, u1, u2⟩ => by rw [hLu L v]; exact ⟨u1, u2⟩⟩
    have e : b = decide (lacksP root s key) := by
      cases b with
      | true => exact (decide_eq_true (q2.1 rfl)).symm
      | false => exact (decide_eq_false (fun u => by cases q2.2 u)).symm
    rw [e]
    exact h
  clear h
  (conv => whnf)
  (repeat (first | (refine Both.of_false cz ?_; conv => whnf) | (refine Both.of_false k1 ?_; conv => whnf) | (refine Both.of_false k2 ?_; conv => whnf) | (exact Out.same; conv => whnf) | (exact Out1.same; conv => whnf) | (refine QAnd.mk ?_ ?_; conv => whnf) | (apply QStepH.go; conv => whnf) | (refine Both.lit_true ?_; conv => whnf) | (refine Both.lit_false ?_; conv => whnf) | (apply QStep.go; conv => whnf) | (refine Need.au ?_; conv => whnf) | (refine ⟨_, rfl, ?_⟩; conv => whnf)))
  refine CallVC.auto rclimbs_k (inB_mk ⟨L1, rfl, rfl, (fits_sm hf).1, hf.2, ?_⟩)
  by_cases hall : ∀ x ∈ L1, goodC root x = true
  case neg =>
    have hl0 : ¬ L1.length = 0 := fun q => hall (fun x hx => by rw [List.eq_nil_of_length_eq_zero q] at hx; cases hx)
    have h := hval false ⟨fun u => (by cases u), fun u => absurd u.1 hall⟩
    rw [if_neg hl0] at h
    rw [decide_eq_false hall]
    (conv => whnf)
    (repeat (first | (exact Out.same; conv => whnf) | (exact Out1.same; conv => whnf) | (refine QAnd.mk ?_ ?_; conv => whnf) | (apply QStepH.go; conv => whnf) | (refine Both.lit_true ?_; conv => whnf) | (refine Both.lit_false ?_; conv => whnf) | (apply QStep.go; conv => whnf) | (refine Need.au ?_; conv => whnf) | (refine ⟨_, rfl, ?_⟩; conv => whnf)))
    refine ⟨_, _, WeakV.auto ?_, h⟩
    (repeat' ((conv => whnf); first | exact True.intro | (refine And.intro ?_ ?_)))
    all_goals first | rfl | exact .eq rfl
  rw [decide_eq_true hall]
  have hfin : ∀ b : Bool, (b = true ↔ standL root key L1) → Q (.bool b) (bkO (if L1.length = 0 then topX 0 [] :: T else clsT L1 T)) := fun b q => hval b (q.trans ⟨fun u => ⟨hall, u⟩, fun u => u.2⟩)
  clear hval hT
  have hlen := hf.1
  match L1, hlen, hf, hfin with
  | [], _, _, hfin =>
    have c0 : decide (((([] : List Lf).length : Nat) : Int) = 0) = true := rfl
    have h : Q (.bool (decide (root = shaD (topX 0 [])))) (bkO (topX 0 [] :: T)) := hfin (decide (root = shaD (topX 0 []))) (by
      show _ ↔ root = shaD (rootX [])
      exact ⟨fun u => of_decide_eq_true u, fun u => decide_eq_true u⟩)
    (conv => whnf)
    (repeat (first | (refine Both.of_true c0 ?_; conv => whnf) | (exact Out.same; conv => whnf) | (exact Out1.same; conv => whnf) | (refine QAnd.mk ?_ ?_; conv => whnf) | (apply QStepH.go; conv => whnf) | (refine Both.lit_true ?_; conv => whnf) | (refine Both.lit_false ?_; conv => whnf) | (apply QStep.go; conv => whnf) | (refine Need.au ?_; conv => whnf) | (refine ⟨_, rfl, ?_⟩; conv => whnf)))
    refine CallVC.auto rrootN_k (inB_mk (T := T) ?_)
    (conv => whnf)
    (repeat (first | (exact Out.same; conv => whnf) | (exact Out1.same; conv => whnf) | (refine QAnd.mk ?_ ?_; conv => whnf) | (apply QStepH.go; conv => whnf) | (refine Both.lit_true ?_; conv => whnf) | (refine Both.lit_false ?_; conv => whnf) | (apply QStep.go; conv => whnf) | (refine Need.au ?_; conv => whnf) | (refine ⟨_, rfl, ?_⟩; conv => whnf)))
    refine ⟨_, _, WeakV.auto ?_, h⟩
    (repeat' ((conv => whnf); first | exact True.intro | (refine And.intro ?_ ?_)))
    all_goals first | rfl | exact .eq rfl
  | [x], _, hf, hfin =>
    have hxo := hf.2 x (List.mem_singleton.2 rfl)
    have hxc := hxo.c
    have c0 : decide (((([x] : List Lf).length : Nat) : Int) = 0) = false := rfl
    have c1 : decide (((([x] : List Lf).length : Nat) : Int) = 1) = true := rfl
    have hat : ((flL [x]).drop ((0 : Int).toNat * 5)).take 5 = [CV.int .i64 x.i, .int .i64 x.c, .str x.k, .str x.v, .sl 1 x.p.length (strs x.p) false] := rfl
    have hix : ti50.size = 5 ∧ (0 : Int) ≤ 0 ∧ (0 : Int) < ((([x] : List Lf).length : Nat) : Int) := ⟨rfl, by omega, by simp⟩
    have hwc : IntKind.i64.wrap (x.c - 1) = x.c - 1 := wrap_i64 (by omega) (by omega)
    have hfin : ∀ b : Bool, (b = true ↔ (x.i = 0 ∧ lessS key x.k = true) ∨ (x.i = x.c - 1 ∧ lessS x.k key = true)) → Q (.bool b) (bkO (clsT [x] T)) := hfin
    generalize clsT [x] T = U at hfin ⊢
    by_cases q1 : x.i = 0
    · cases b1 : lessS key x.k with
      | true =>
        by_cases q2 : x.i = x.c - 1
        · have e1 : decide (x.i = 0) = true := decide_eq_true q1
          have e2 : decide (x.i = IntKind.i64.wrap (x.c - 1)) = true := by rw [hwc]; exact decide_eq_true q2
          have h := hfin true ⟨fun _ => .inl ⟨q1, b1⟩, fun _ => rfl⟩
          have b1 : (!(lessS x.k key || decide (x.k = key))) = true := by rw [gt_k]; exact b1
          (conv => whnf)
          (repeat (first | (refine Both.of_false c0 ?_; conv => whnf) | (refine Both.of_true c1 ?_; conv => whnf) | (refine Need.mk hix ?_; conv => whnf) | (refine ⟨_, hat, ?_⟩; conv => whnf) | (refine Both.of_true e1 ?_; conv => whnf) | (refine Both.of_true b1 ?_; conv => whnf) | (exact Out.same; conv => whnf) | (exact Out1.same; conv => whnf) | (refine QAnd.mk ?_ ?_; conv => whnf) | (apply QStepH.go; conv => whnf) | (refine Both.lit_true ?_; conv => whnf) | (refine Both.lit_false ?_; conv => whnf) | (apply QStep.go; conv => whnf) | (refine Need.au ?_; conv => whnf) | (refine ⟨_, rfl, ?_⟩; conv => whnf)))
          (refine DrawVC.any Γok (by kernel_rfl) (by kernel_rfl) (by kernel_rfl) (by rfl) ?_; conv => whnf)
          (repeat (first | (refine Need.mk hix ?_; conv => whnf) | (refine ⟨_, hat, ?_⟩; conv => whnf) | (refine Both.of_true e2 ?_; conv => whnf) | (refine Both.of_true b1 ?_; conv => whnf) | (exact Out.same; conv => whnf) | (exact Out1.same; conv => whnf) | (refine QAnd.mk ?_ ?_; conv => whnf) | (apply QStepH.go; conv => whnf) | (refine Both.lit_true ?_; conv => whnf) | (refine Both.lit_false ?_; conv => whnf) | (apply QStep.go; conv => whnf) | (refine Need.au ?_; conv => whnf) | (refine ⟨_, rfl, ?_⟩; conv => whnf)))
          refine ⟨_, _, WeakV.auto ?_, h⟩
          (repeat' ((conv => whnf); first | exact True.intro | (refine And.intro ?_ ?_)))
          all_goals first | rfl | exact .eq rfl
        · have e1 : decide (x.i = 0) = true := decide_eq_true q1
          have e2 : decide (x.i = IntKind.i64.wrap (x.c - 1)) = false := by rw [hwc]; exact decide_eq_false q2
          have h := hfin true ⟨fun _ => .inl ⟨q1, b1⟩, fun _ => rfl⟩
          have b1 : (!(lessS x.k key || decide (x.k = key))) = true := by rw [gt_k]; exact b1
          (conv => whnf)
          (repeat (first | (refine Both.of_false c0 ?_; conv => whnf) | (refine Both.of_true c1 ?_; conv => whnf) | (refine Need.mk hix ?_; conv => whnf) | (refine ⟨_, hat, ?_⟩; conv => whnf) | (refine Both.of_true e1 ?_; conv => whnf) | (refine Both.of_true b1 ?_; conv => whnf) | (exact Out.same; conv => whnf) | (exact Out1.same; conv => whnf) | (refine QAnd.mk ?_ ?_; conv => whnf) | (apply QStepH.go; conv => whnf) | (refine Both.lit_true ?_; conv => whnf) | (refine Both.lit_false ?_; conv => whnf) | (apply QStep.go; conv => whnf) | (refine Need.au ?_; conv => whnf) | (refine ⟨_, rfl, ?_⟩; conv => whnf)))
          (refine DrawVC.any Γok (by kernel_rfl) (by kernel_rfl) (by kernel_rfl) (by rfl) ?_; conv => whnf)
          (repeat (first | (refine Need.mk hix ?_; conv => whnf) | (refine ⟨_, hat, ?_⟩; conv => whnf) | (refine Both.of_false e2 ?_; conv => whnf) | (refine Both.of_true b1 ?_; conv => whnf) | (exact Out.same; conv => whnf) | (exact Out1.same; conv => whnf) | (refine QAnd.mk ?_ ?_; conv => whnf) | (apply QStepH.go; conv => whnf) | (refine Both.lit_true ?_; conv => whnf) | (refine Both.lit_false ?_; conv => whnf) | (apply QStep.go; conv => whnf) | (refine Need.au ?_; conv => whnf) | (refine ⟨_, rfl, ?_⟩; conv => whnf)))
          refine ⟨_, _, WeakV.auto ?_, h⟩
          (repeat' ((conv => whnf); first | exact True.intro | (refine And.intro ?_ ?_)))
          all_goals first | rfl | exact .eq rfl
      | false =>
        by_cases q2 : x.i = x.c - 1
        · have e1 : decide (x.i = 0) = true := decide_eq_true q1
          have e2 : decide (x.i = IntKind.i64.wrap (x.c - 1)) = true := by rw [hwc]; exact decide_eq_true q2
          have h := hfin (lessS x.k key) ⟨fun u => .inr ⟨q2, u⟩, fun u => u.elim (fun u => (by rw [b1] at u; cases u.2)) (fun u => u.2)⟩
          have b1 : (!(lessS x.k key || decide (x.k = key))) = false := by rw [gt_k]; exact b1
          (conv => whnf)
          (repeat (first | (refine Both.of_false c0 ?_; conv => whnf) | (refine Both.of_true c1 ?_; conv => whnf) | (refine Need.mk hix ?_; conv => whnf) | (refine ⟨_, hat, ?_⟩; conv => whnf) | (refine Both.of_true e1 ?_; conv => whnf) | (refine Both.of_false b1 ?_; conv => whnf) | (exact Out.same; conv => whnf) | (exact Out1.same; conv => whnf) | (refine QAnd.mk ?_ ?_; conv => whnf) | (apply QStepH.go; conv => whnf) | (refine Both.lit_true ?_; conv => whnf) | (refine Both.lit_false ?_; conv => whnf) | (apply QStep.go; conv => whnf) | (refine Need.au ?_; conv => whnf) | (refine ⟨_, rfl, ?_⟩; conv => whnf)))
          (refine DrawVC.any Γok (by kernel_rfl) (by kernel_rfl) (by kernel_rfl) (by rfl) ?_; conv => whnf)
          (repeat (first | (refine Need.mk hix ?_; conv => whnf) | (refine ⟨_, hat, ?_⟩; conv => whnf) | (refine Both.of_true e2 ?_; conv => whnf) | (refine Both.of_false b1 ?_; conv => whnf) | (exact Out.same; conv => whnf) | (exact Out1.same; conv => whnf) | (refine QAnd.mk ?_ ?_; conv => whnf) | (apply QStepH.go; conv => whnf) | (refine Both.lit_true ?_; conv => whnf) | (refine Both.lit_false ?_; conv => whnf) | (apply QStep.go; conv => whnf) | (refine Need.au ?_; conv => whnf) | (refine ⟨_, rfl, ?_⟩; conv => whnf)))
          refine ⟨_, _, WeakV.auto ?_, h⟩
          (repeat' ((conv => whnf); first | exact True.intro | (refine And.intro ?_ ?_)))
          all_goals first | rfl | exact .eq rfl
        · have e1 : decide (x.i = 0) = true := decide_eq_true q1
          have e2 : decide (x.i = IntKind.i64.wrap (x.c - 1)) = false := by rw [hwc]; exact decide_eq_false q2
          have h := hfin false ⟨fun u => (by cases u), fun u => u.elim (fun u => (by rw [b1] at u; cases u.2)) (fun u => absurd u.1 q2)⟩
          have b1 : (!(lessS x.k key || decide (x.k = key))) = false := by rw [gt_k]; exact b1
          (conv => whnf)
          (repeat (first | (refine Both.of_false c0 ?_; conv => whnf) | (refine Both.of_true c1 ?_; conv => whnf) | (refine Need.mk hix ?_; conv => whnf) | (refine ⟨_, hat, ?_⟩; conv => whnf) | (refine Both.of_true e1 ?_; conv => whnf) | (refine Both.of_false b1 ?_; conv => whnf) | (exact Out.same; conv => whnf) | (exact Out1.same; conv => whnf) | (refine QAnd.mk ?_ ?_; conv => whnf) | (apply QStepH.go; conv => whnf) | (refine Both.lit_true ?_; conv => whnf) | (refine Both.lit_false ?_; conv => whnf) | (apply QStep.go; conv => whnf) | (refine Need.au ?_; conv => whnf) | (refine ⟨_, rfl, ?_⟩; conv => whnf)))
          (refine DrawVC.any Γok (by kernel_rfl) (by kernel_rfl) (by kernel_rfl) (by rfl) ?_; conv => whnf)
          (repeat (first | (refine Need.mk hix ?_; conv => whnf) | (refine ⟨_, hat, ?_⟩; conv => whnf) | (refine Both.of_false e2 ?_; conv => whnf) | (refine Both.of_false b1 ?_; conv => whnf) | (exact Out.same; conv => whnf) | (exact Out1.same; conv => whnf) | (refine QAnd.mk ?_ ?_; conv => whnf) | (apply QStepH.go; conv => whnf) | (refine Both.lit_true ?_; conv => whnf) | (refine Both.lit_false ?_; conv => whnf) | (apply QStep.go; conv => whnf) | (refine Need.au ?_; conv => whnf) | (refine ⟨_, rfl, ?_⟩; conv => whnf)))
          refine ⟨_, _, WeakV.auto ?_, h⟩
          (repeat' ((conv => whnf); first | exact True.intro | (refine And.intro ?_ ?_)))
          all_goals first | rfl | exact .eq rfl
    · by_cases q2 : x.i = x.c - 1
      · have e1 : decide (x.i = 0) = false := decide_eq_false q1
        have e2 : decide (x.i = IntKind.i64.wrap (x.c - 1)) = true := by rw [hwc]; exact decide_eq_true q2
        have h := hfin (lessS x.k key) ⟨fun u => .inr ⟨q2, u⟩, fun u => u.elim (fun u => absurd u.1 q1) (fun u => u.2)⟩
        (conv => whnf)
        (repeat (first | (refine Both.of_false c0 ?_; conv => whnf) | (refine Both.of_true c1 ?_; conv => whnf) | (refine Need.mk hix ?_; conv => whnf) | (refine ⟨_, hat, ?_⟩; conv => whnf) | (refine Both.of_false e1 ?_; conv => whnf) | (exact Out.same; conv => whnf) | (exact Out1.same; conv => whnf) | (refine QAnd.mk ?_ ?_; conv => whnf) | (apply QStepH.go; conv => whnf) | (refine Both.lit_true ?_; conv => whnf) | (refine Both.lit_false ?_; conv => whnf) | (apply QStep.go; conv => whnf) | (refine Need.au ?_; conv => whnf) | (refine ⟨_, rfl, ?_⟩; conv => whnf)))
        (refine DrawVC.any Γok (by kernel_rfl) (by kernel_rfl) (by kernel_rfl) (by rfl) ?_; conv => whnf)
        (repeat (first | (refine Need.mk hix ?_; conv => whnf) | (refine ⟨_, hat, ?_⟩; conv => whnf) | (refine Both.of_true e2 ?_; conv => whnf) | (exact Out.same; conv => whnf) | (exact Out1.same; conv => whnf) | (refine QAnd.mk ?_ ?_; conv => whnf) | (apply QStepH.go; conv => whnf) | (refine Both.lit_true ?_; conv => whnf) | (refine Both.lit_false ?_; conv => whnf) | (apply QStep.go; conv => whnf) | (refine Need.au ?_; conv => whnf) | (refine ⟨_, rfl, ?_⟩; conv => whnf)))
        refine ⟨_, _, WeakV.auto ?_, h⟩
        (repeat' ((conv => whnf); first | exact True.intro | (refine And.intro ?_ ?_)))
        all_goals first | rfl | exact .eq rfl
      · have e1 : decide (x.i = 0) = false := decide_eq_false q1
        have e2 : decide (x.i = IntKind.i64.wrap (x.c - 1)) = false := by rw [hwc]; exact decide_eq_false q2
        have h := hfin false ⟨fun u => (by cases u), fun u => u.elim (fun u => absurd u.1 q1) (fun u => absurd u.1 q2)⟩
        (conv => whnf)
        (repeat (first | (refine Both.of_false c0 ?_; conv => whnf) | (refine Both.of_true c1 ?_; conv => whnf) | (refine Need.mk hix ?_; conv => whnf) | (refine ⟨_, hat, ?_⟩; conv => whnf) | (refine Both.of_false e1 ?_; conv => whnf) | (exact Out.same; conv => whnf) | (exact Out1.same; conv => whnf) | (refine QAnd.mk ?_ ?_; conv => whnf) | (apply QStepH.go; conv => whnf) | (refine Both.lit_true ?_; conv => whnf) | (refine Both.lit_false ?_; conv => whnf) | (apply QStep.go; conv => whnf) | (refine Need.au ?_; conv => whnf) | (refine ⟨_, rfl, ?_⟩; conv => whnf)))
        (refine DrawVC.any Γok (by kernel_rfl) (by kernel_rfl) (by kernel_rfl) (by rfl) ?_; conv => whnf)
        (repeat (first | (refine Need.mk hix ?_; conv => whnf) | (refine ⟨_, hat, ?_⟩; conv => whnf) | (refine Both.of_false e2 ?_; conv => whnf) | (exact Out.same; conv => whnf) | (exact Out1.same; conv => whnf) | (refine QAnd.mk ?_ ?_; conv => whnf) | (apply QStepH.go; conv => whnf) | (refine Both.lit_true ?_; conv => whnf) | (refine Both.lit_false ?_; conv => whnf) | (apply QStep.go; conv => whnf) | (refine Need.au ?_; conv => whnf) | (refine ⟨_, rfl, ?_⟩; conv => whnf)))
        refine ⟨_, _, WeakV.auto ?_, h⟩
        (repeat' ((conv => whnf); first | exact True.intro | (refine And.intro ?_ ?_)))
        all_goals first | rfl | exact .eq rfl
  | [x, y], _, hf, hfin =>
    have hxo := hf.2 x (by simp)
    have hxi := hxo.i
    have c0 : decide (((([x, y] : List Lf).length : Nat) : Int) = 0) = false := rfl
    have c1 : decide (((([x, y] : List Lf).length : Nat) : Int) = 1) = false := rfl
    have hat0 : ((flL [x, y]).drop ((0 : Int).toNat * 5)).take 5 = [CV.int .i64 x.i, .int .i64 x.c, .str x.k, .str x.v, .sl 1 x.p.length (strs x.p) false] := rfl
    have hix0 : ti50.size = 5 ∧ (0 : Int) ≤ 0 ∧ (0 : Int) < ((([x, y] : List Lf).length : Nat) : Int) := ⟨rfl, by omega, by simp⟩
    have hat1 : ((flL [x, y]).drop ((1 : Int).toNat * 5)).take 5 = [CV.int .i64 y.i, .int .i64 y.c, .str y.k, .str y.v, .sl 1 y.p.length (strs y.p) false] := rfl
    have hix1 : ti50.size = 5 ∧ (0 : Int) ≤ 1 ∧ (1 : Int) < ((([x, y] : List Lf).length : Nat) : Int) := ⟨rfl, by omega, by simp⟩
    have hwi : IntKind.i64.wrap (x.i + 1) = x.i + 1 := wrap_i64 (by omega) (by omega)
    have hfin : ∀ b : Bool, (b = true ↔ (x.c = y.c ∧ x.i + 1 = y.i) ∧ lessS x.k key = true ∧ lessS key y.k = true) → Q (.bool b) (bkO (clsT [x, y] T)) := hfin
    generalize clsT [x, y] T = U at hfin ⊢
    by_cases q1 : x.c = y.c
    · by_cases q2 : x.i + 1 = y.i
      · cases b1 : lessS x.k key with
        | true =>
          · have e1 : decide (x.c = y.c) = true := decide_eq_true q1
            have e2 : decide (y.i = IntKind.i64.wrap (x.i + 1)) = true := by rw [hwi]; exact decide_eq_true q2.symm
            have h := hfin (!(lessS y.k key || decide (y.k = key))) (by rw [gt_k]; exact ⟨fun u => ⟨⟨q1, q2⟩, b1, u⟩, fun u => u.2.2⟩)
            (conv => whnf)
            (repeat (first | (refine Both.of_false c0 ?_; conv => whnf) | (refine Both.of_false c1 ?_; conv => whnf) | (exact Out.same; conv => whnf) | (exact Out1.same; conv => whnf) | (refine QAnd.mk ?_ ?_; conv => whnf) | (apply QStepH.go; conv => whnf) | (refine Both.lit_true ?_; conv => whnf) | (refine Both.lit_false ?_; conv => whnf) | (apply QStep.go; conv => whnf) | (refine Need.au ?_; conv => whnf) | (refine ⟨_, rfl, ?_⟩; conv => whnf)))
            (refine DrawVC.any Γok (by kernel_rfl) (by kernel_rfl) (by kernel_rfl) (by rfl) ?_; conv => whnf)
            (repeat (first | (refine Need.mk hix0 ?_; conv => whnf) | (refine Need.mk hix1 ?_; conv => whnf) | (refine ⟨_, hat0, ?_⟩; conv => whnf) | (refine ⟨_, hat1, ?_⟩; conv => whnf) | (refine Both.of_true e1 ?_; conv => whnf) | (refine Both.of_true e2 ?_; conv => whnf) | (refine Both.of_true b1 ?_; conv => whnf) | (exact Out.same; conv => whnf) | (exact Out1.same; conv => whnf) | (refine QAnd.mk ?_ ?_; conv => whnf) | (apply QStepH.go; conv => whnf) | (refine Both.lit_true ?_; conv => whnf) | (refine Both.lit_false ?_; conv => whnf) | (apply QStep.go; conv => whnf) | (refine Need.au ?_; conv => whnf) | (refine ⟨_, rfl, ?_⟩; conv => whnf)))
            refine ⟨_, _, WeakV.auto ?_, h⟩
            (repeat' ((conv => whnf); first | exact True.intro | (refine And.intro ?_ ?_)))
            all_goals first | rfl | exact .eq rfl
        | false =>
          · have e1 : decide (x.c = y.c) = true := decide_eq_true q1
            have e2 : decide (y.i = IntKind.i64.wrap (x.i + 1)) = true := by rw [hwi]; exact decide_eq_true q2.symm
            have h := hfin false ⟨fun u => (by cases u), fun u => (by rw [b1] at u; cases u.2.1)⟩
            (conv => whnf)
            (repeat (first | (refine Both.of_false c0 ?_; conv => whnf) | (refine Both.of_false c1 ?_; conv => whnf) | (exact Out.same; conv => whnf) | (exact Out1.same; conv => whnf) | (refine QAnd.mk ?_ ?_; conv => whnf) | (apply QStepH.go; conv => whnf) | (refine Both.lit_true ?_; conv => whnf) | (refine Both.lit_false ?_; conv => whnf) | (apply QStep.go; conv => whnf) | (refine Need.au ?_; conv => whnf) | (refine ⟨_, rfl, ?_⟩; conv => whnf)))
            (refine DrawVC.any Γok (by kernel_rfl) (by kernel_rfl) (by kernel_rfl) (by rfl) ?_; conv => whnf)
            (repeat (first | (refine Need.mk hix0 ?_; conv => whnf) | (refine Need.mk hix1 ?_; conv => whnf) | (refine ⟨_, hat0, ?_⟩; conv => whnf) | (refine ⟨_, hat1, ?_⟩; conv => whnf) | (refine Both.of_true e1 ?_; conv => whnf) | (refine Both.of_true e2 ?_; conv => whnf) | (refine Both.of_false b1 ?_; conv => whnf) | (exact Out.same; conv => whnf) | (exact Out1.same; conv => whnf) | (refine QAnd.mk ?_ ?_; conv => whnf) | (apply QStepH.go; conv => whnf) | (refine Both.lit_true ?_; conv => whnf) | (refine Both.lit_false ?_; conv => whnf) | (apply QStep.go; conv => whnf) | (refine Need.au ?_; conv => whnf) | (refine ⟨_, rfl, ?_⟩; conv => whnf)))
            refine ⟨_, _, WeakV.auto ?_, h⟩
            (repeat' ((conv => whnf); first | exact True.intro | (refine And.intro ?_ ?_)))
            all_goals first | rfl | exact .eq rfl
      · have e1 : decide (x.c = y.c) = true := decide_eq_true q1
        have e2 : decide (y.i = IntKind.i64.wrap (x.i + 1)) = false := by rw [hwi]; exact decide_eq_false (fun q => q2 q.symm)
        have h := hfin false ⟨fun u => (by cases u), fun u => absurd u.1.2 q2⟩
        (conv => whnf)
        (repeat (first | (refine Both.of_false c0 ?_; conv => whnf) | (refine Both.of_false c1 ?_; conv => whnf) | (exact Out.same; conv => whnf) | (exact Out1.same; conv => whnf) | (refine QAnd.mk ?_ ?_; conv => whnf) | (apply QStepH.go; conv => whnf) | (refine Both.lit_true ?_; conv => whnf) | (refine Both.lit_false ?_; conv => whnf) | (apply QStep.go; conv => whnf) | (refine Need.au ?_; conv => whnf) | (refine ⟨_, rfl, ?_⟩; conv => whnf)))
        (refine DrawVC.any Γok (by kernel_rfl) (by kernel_rfl) (by kernel_rfl) (by rfl) ?_; conv => whnf)
        (repeat (first | (refine Need.mk hix0 ?_; conv => whnf) | (refine Need.mk hix1 ?_; conv => whnf) | (refine ⟨_, hat0, ?_⟩; conv => whnf) | (refine ⟨_, hat1, ?_⟩; conv => whnf) | (refine Both.of_true e1 ?_; conv => whnf) | (refine Both.of_false e2 ?_; conv => whnf) | (exact Out.same; conv => whnf) | (exact Out1.same; conv => whnf) | (refine QAnd.mk ?_ ?_; conv => whnf) | (apply QStepH.go; conv => whnf) | (refine Both.lit_true ?_; conv => whnf) | (refine Both.lit_false ?_; conv => whnf) | (apply QStep.go; conv => whnf) | (refine Need.au ?_; conv => whnf) | (refine ⟨_, rfl, ?_⟩; conv => whnf)))
        refine ⟨_, _, WeakV.auto ?_, h⟩
        (repeat' ((conv => whnf); first | exact True.intro | (refine And.intro ?_ ?_)))
        all_goals first | rfl | exact .eq rfl
    · have e1 : decide (x.c = y.c) = false := decide_eq_false q1
      have h := hfin false ⟨fun u => (by cases u), fun u => absurd u.1.1 q1⟩
      (conv => whnf)
      (repeat (first | (refine Both.of_false c0 ?_; conv => whnf) | (refine Both.of_false c1 ?_; conv => whnf) | (exact Out.same; conv => whnf) | (exact Out1.same; conv => whnf) | (refine QAnd.mk ?_ ?_; conv => whnf) | (apply QStepH.go; conv => whnf) | (refine Both.lit_true ?_; conv => whnf) | (refine Both.lit_false ?_; conv => whnf) | (apply QStep.go; conv => whnf) | (refine Need.au ?_; conv => whnf) | (refine ⟨_, rfl, ?_⟩; conv => whnf)))
      (refine DrawVC.any Γok (by kernel_rfl) (by kernel_rfl) (by kernel_rfl) (by rfl) ?_; conv => whnf)
      (repeat (first | (refine Need.mk hix0 ?_; conv => whnf) | (refine Need.mk hix1 ?_; conv => whnf) | (refine ⟨_, hat0, ?_⟩; conv => whnf) | (refine ⟨_, hat1, ?_⟩; conv => whnf) | (refine Both.of_false e1 ?_; conv => whnf) | (exact Out.same; conv => whnf) | (exact Out1.same; conv => whnf) | (refine QAnd.mk ?_ ?_; conv => whnf) | (apply QStepH.go; conv => whnf) | (refine Both.lit_true ?_; conv => whnf) | (refine Both.lit_false ?_; conv => whnf) | (apply QStep.go; conv => whnf) | (refine Need.au ?_; conv => whnf) | (refine ⟨_, rfl, ?_⟩; conv => whnf)))
      refine ⟨_, _, WeakV.auto ?_, h⟩
      (repeat' ((conv => whnf); first | exact True.intro | (refine And.intro ?_ ?_)))
      all_goals first | rfl | exact .eq rfl
  | _ :: _ :: _ :: _, hl3, _, _ => exact absurd hl3 (by simp)
theorem rlacks_k : Contract Tryz.prog [] 11 rlacksS := ⟨⟨⟨_, rfl, rfl, rfl⟩⟩, rlacks_c⟩
end Go.LX
end
section
set_option maxRecDepth 100000
set_option maxHeartbeats 2000000
set_option autoImplicit false
set_option linter.unusedVariables false
set_option linter.unusedSimpArgs false
namespace Go.LX
open Go.Proofs

theorem up_path {U : List Bs} (hU : NoC U) (lf : Bs) (path : List Bs) (h32 : ∀ s ∈ path, s.length = 32) : ∀ (m : Nat) (l : List Pr) (i : Nat), l.length ≤ m → i < l.length → depP i l.length ≤ path.length →
    (∀ x ∈ dgT l [], x ∈ U) → (∀ x ∈ upT lf path i l.length [], x ∈ U) → upD lf path i l.length = dgP l → path.take (depP i l.length) = pathP l i
  | 0, l, i, hm, hi, _, _, _, _ => by omega
  | m + 1, l, i, hm, hil, hd, h1, h2, he => by
    by_cases h : l.length ≤ 1
    · rw [depP_one h, pathP_one h]
      rfl
    · have hlt := lft_lt (n := l.length) (by omega)
      have hpos := lft_pos l.length
      have e1 : (l.take (lft l.length)).length = lft l.length := by rw [List.length_take]; omega
      have e2 : (l.drop (lft l.length)).length = l.length - lft l.length := List.length_drop
      obtain ⟨a1, a2, a3⟩ := dg_parts h h1
      rw [upD_two h, dgP_two h] at he
      rw [upT_two h] at h2
      rw [depP_two h] at he h2 hd ⊢
      rw [pathP_two h]
      have step : ∀ d : Nat, 1 + d ≤ path.length → path.take (1 + d) = path.take d ++ [path.getD (1 + d - 1) []] := fun d q => by
        rw [show 1 + d - 1 = d by omega, show 1 + d = d + 1 by omega, List.getD_eq_getElem?_getD, List.getElem?_eq_getElem (by omega)]
        exact (List.take_append_getElem (by omega)).symm
      have p32 : ∀ d : Nat, 1 + d ≤ path.length → (path.getD (1 + d - 1) []).length = 32 := fun d q => by
        rw [show 1 + d - 1 = d by omega, List.getD_eq_getElem?_getD, List.getElem?_eq_getElem (by omega)]
        exact h32 _ (List.getElem_mem _)
      by_cases hi : i < lft l.length
      · rw [if_pos hi] at he h2 hd ⊢
        rw [if_pos hi] at he h2
        rw [if_pos hi]
        have ht := hU _ (h2 _ List.mem_cons_self) _ a1 he
        obtain ⟨t1, t2⟩ := two_inj (by rw [upD_len, dgP_len]) ht
        rw [step _ hd, t2]
        congr 1
        have := up_path hU lf path h32 m (l.take (lft l.length)) i (by omega) (by omega) (by rw [e1]; omega) a2 (fun x hx => h2 x (List.mem_cons_of_mem _ (by rw [e1] at hx; exact hx))) (by rw [e1]; exact t1)
        rw [e1] at this
        exact this
      · rw [if_neg hi] at he h2 hd ⊢
        rw [if_neg hi] at he h2
        rw [if_neg hi]
        have ht := hU _ (h2 _ List.mem_cons_self) _ a1 he
        obtain ⟨t1, t2⟩ := two_inj (by rw [p32 _ hd, dgP_len]) ht
        rw [step _ hd, t1]
        congr 1
        have := up_path hU lf path h32 m (l.drop (lft l.length)) (i - lft l.length) (by omega) (by omega) (by rw [e2]; omega) a3 (fun x hx => h2 x (List.mem_cons_of_mem _ (by rw [e2] at hx; exact hx))) (by rw [e2]; exact t2)
        rw [e2] at this
        exact this
theorem sound_n {U : List Bs} (hU : NoC U) {l : List Pr} {k v : Bs} {x c : Int} {p : List Bs} (hs : ∀ q ∈ l, short q) (hk : short (k, v)) (hl : l.length ≤ 4096) (hr : rightP p x c)
    (u1 : ∀ z ∈ rootT l [], z ∈ U) (u2 : ∀ z ∈ climbT (txLeaf (k, v)) x c p [], z ∈ U) (he : shaD (topX c.toNat (upD (txLeaf (k, v)) p x.toNat c.toNat)) = shaD (rootX l)) :
    (c = (l.length : Int) ∧ x = (x.toNat : Int) ∧ x.toNat < l.length) ∧ (k, v) = l.getD x.toNat ([], []) ∧ p = pathP l x.toNat := by
  obtain ⟨⟨c1, c2, c3, c4⟩, hd, h32⟩ := hr
  have m1 := rootT_mem l []
  have b8 : (4096 : Nat) < 256 ^ 8 := by decide
  have ht := hU _ (u2 _ List.mem_cons_self) _ (u1 _ m1.2.1) he
  have h0 : 0 < l.length := by
    rcases Nat.eq_zero_or_pos l.length with q | q
    · unfold rootX at ht
      rw [if_pos q] at ht
      have := (top_inj (by omega) (by decide) ht).1
      omega
    · exact q
  unfold rootX at ht
  rw [if_neg (by omega)] at ht
  obtain ⟨e1, e2⟩ := top_inj (by omega) (by omega) ht
  have u3 : ∀ z ∈ upT (txLeaf (k, v)) p x.toNat c.toNat [], z ∈ U := fun z hz => u2 z (List.mem_cons_of_mem _ hz)
  rw [e1] at e2 hd u3
  have hxl : x.toNat < l.length := by omega
  have hlf := up_leaf hU (txLeaf (k, v)) p h32 l.length l x.toNat (Nat.le_refl _) hxl (by omega) (fun z hz => u1 z (m1.2.2 h0 z hz)) u3 e2
  have hpt := up_path hU (txLeaf (k, v)) p h32 l.length l x.toNat (Nat.le_refl _) hxl (by omega) (fun z hz => u1 z (m1.2.2 h0 z hz)) u3 e2
  rw [← hd, List.take_length] at hpt
  refine ⟨⟨by omega, by omega, hxl⟩, leaf_inj hk (hs _ ?_) hlf, hpt⟩
  rw [List.getD_eq_getElem?_getD, List.getElem?_eq_getElem hxl]
  exact List.getElem_mem _
theorem climbT_mem (lf : Bs) (x c : Int) (p : List Bs) (T : List Bs) (z : Bs) : z ∈ climbT lf x c p T ↔ z ∈ climbT lf x c p [] ∨ z ∈ T := by
  unfold climbT
  rw [List.mem_cons, List.mem_cons, upT_mem lf p _ _ _ T (Nat.le_refl _), or_assoc]
theorem clT_old {x : Lf} {T : List Bs} {z : Bs} (h : z ∈ T) : z ∈ clT x T := by
  unfold clT
  split
  · exact (climbT_mem _ _ _ _ T z).2 (.inr h)
  · exact h
theorem clT_new {x : Lf} {T : List Bs} {z : Bs} (hr : rightP x.p x.i x.c) (h : z ∈ climbT (txLeaf (x.k, x.v)) x.i x.c x.p []) : z ∈ clT x T := by
  unfold clT
  rw [if_pos hr]
  exact (climbT_mem _ _ _ _ T z).2 (.inl h)
theorem clsT_old {z : Bs} : ∀ {L : List Lf} {T : List Bs}, z ∈ T → z ∈ clsT L T
  | [], T, h => h
  | x :: L, T, h => clsT_old (L := L) (clT_old h)
theorem clsT_new {z : Bs} {x : Lf} (hr : rightP x.p x.i x.c) (h : z ∈ climbT (txLeaf (x.k, x.v)) x.i x.c x.p []) : ∀ {L : List Lf} {T : List Bs}, x ∈ L → z ∈ clsT L T
  | [], T, q => by cases q
  | y :: L, T, q => by
    rcases List.mem_cons.1 q with q | q
    · subst q
      exact clsT_old (L := L) (clT_new hr h)
    · exact clsT_new hr h (L := L) q
theorem hasT_old {s : Bs} {T : List Bs} {z : Bs} (h : z ∈ T) : z ∈ hasT s T := by
  unfold hasT
  split
  · exact clsT_old h
  · exact h
theorem lacksT_old {s key : Bs} {T : List Bs} {z : Bs} (h : z ∈ T) : z ∈ lacksT s key T := by
  unfold lacksT
  split
  · split
    · exact List.mem_cons_of_mem _ h
    · exact clsT_old h
  · exact h
theorem good_right {root : Bs} {x : Lf} (h : goodC root x = true) : rightP x.p x.i x.c ∧ shaD (topX x.c.toNat (upD (txLeaf (x.k, x.v)) x.p x.i.toNat x.c.toNat)) = root := by
  by_cases hr : rightP x.p x.i x.c
  · rw [good_yes hr] at h
    exact ⟨hr, of_decide_eq_true h⟩
  · rw [good_no hr] at h
    cases h
theorem okLf_short {x : Lf} (h : okLf x) : short (x.k, x.v) := by
  have h1 := h.k
  have h2 := h.v
  exact ⟨by show x.k.length < 256; omega, by show x.v.length < 256; omega⟩
theorem less_irr (a : Bs) : lessS a a = false := by
  have h := less_tri0 a a
  rw [show decide (a = a) = true from decide_eq_true rfl, Bool.or_true] at h
  exact h
theorem IsPlace.only {l : List Pr} {t : Bs} {k j : Nat} (h : IsPlace l t k) (hs : sortB l) (hj : j < l.length) (e : kAt l j = t) : j = k := by
  rcases Nat.lt_trichotomy j k with q | q | q
  · have := h.lo j q
    rw [e, less_irr] at this
    cases this
  · exact q
  · have h1 := h.hi k (Nat.le_refl _) (by omega)
    have h2 := sort_less hs (j - k - 1) k (by omega)
    rw [show k + (j - k - 1 + 1) = j by omega, e, h1] at h2
    cases h2
theorem good_at {U : List Bs} (hU : NoC U) {l : List Pr} {x : Lf} (hs : ∀ q ∈ l, short q) (hl : l.length ≤ 4096) (hx : okLf x) (hg : goodC (shaD (rootX l)) x = true)
    (u1 : ∀ z ∈ rootT l [], z ∈ U) (u2 : ∀ z ∈ climbT (txLeaf (x.k, x.v)) x.i x.c x.p [], z ∈ U) : ∃ j, j < l.length ∧ x = madeL l j := by
  obtain ⟨hr, he⟩ := good_right hg
  obtain ⟨⟨a1, a2, a3⟩, a4, a5⟩ := sound_n hU hs (okLf_short hx) hl hr u1 u2 he
  refine ⟨x.i.toNat, a3, ?_⟩
  obtain ⟨i, c, k, v, p⟩ := x
  obtain ⟨b1, b2⟩ := Prod.mk.inj (show (k, v) = ((l.getD i.toNat ([], [])).1, (l.getD i.toNat ([], [])).2) from a4)
  unfold madeL
  rw [Lf.mk.injEq]
  exact ⟨a2, a1, b1, b2, a5⟩
end Go.LX
end
section
set_option maxRecDepth 100000
set_option maxHeartbeats 2000000
set_option autoImplicit false
set_option linter.unusedVariables false
set_option linter.unusedSimpArgs false
namespace Go.LX
open Go.Proofs

theorem sort_up {l : List Pr} (h : sortB l) {t : Bs} {j k : Nat} (hjk : j ≤ k) (hk : k < l.length) (ht : lessS t (kAt l j) = true) : lessS t (kAt l k) = true := by
  rcases Nat.lt_or_ge j k with q | q
  · have := sort_less h (k - j - 1) j (by omega)
    rw [show j + (k - j - 1 + 1) = k by omega] at this
    exact less_trans _ _ _ ht this
  · rw [show k = j by omega]
    exact ht
theorem parse_fits {s : Bs} {a : Bool} {L : List Lf} (h : parseV s = ((a, L), 0)) : fitsX L ∧ bytesX a L = s := by
  rcases parseV_cases s with ⟨b, M, hf, hb, hp⟩ | hp
  · obtain ⟨q1, _⟩ := Prod.mk.inj (hp.symm.trans h)
    obtain ⟨rfl, rfl⟩ := Prod.mk.inj q1
    exact ⟨hf, hb⟩
  · have := (Prod.mk.inj (hp.symm.trans h)).2
    cases this
theorem has_sound {l : List Pr} {root s key value : Bs} {T : List Bs} {k0 : Nat} (hs : ∀ q ∈ l, short q) (hl : l.length ≤ 4096) (hroot : shaD (rootX l) = root) (hsort : sortB l) (hk : IsPlace l key k0)
    (hU : NoC (hasT s T)) (u1 : ∀ z ∈ rootT l [], z ∈ T) (h : hasP root s key value) : (k0 < l.length ∧ kAt l k0 = key) ∧ (l.getD k0 ([], [])).2 = value ∧ s = bytesX false [madeL l k0] := by
  obtain ⟨x, hp, ⟨e1, e2⟩, hg⟩ := h
  obtain ⟨hf, hb⟩ := parse_fits hp
  have hT : hasT s T = clsT [x] T := by
    unfold hasT
    rw [hp, if_pos ⟨rfl, rfl, rfl⟩]
  rw [hT] at hU
  rw [← hroot] at hg
  have hr := (good_right hg).1
  obtain ⟨j, hj, rfl⟩ := good_at hU hs hl (hf.2 x (by simp)) hg (fun z hz => clsT_old (u1 z hz)) (fun z hz => clsT_new hr hz (L := [x]) (by simp))
  have hjk : j = k0 := hk.only hsort hj e1
  subst hjk
  exact ⟨⟨hj, e1⟩, e2, hb.symm⟩
theorem lacks_sound {l : List Pr} {root s key : Bs} {T : List Bs} {k0 : Nat} (hs : ∀ q ∈ l, short q) (hl : l.length ≤ 4096) (hroot : shaD (rootX l) = root) (hsort : sortB l)
    (hU : NoC (lacksT s key T)) (u1 : ∀ z ∈ rootT l [], z ∈ T) (h : lacksP root s key) : ¬ (k0 < l.length ∧ kAt l k0 = key) := by
  rintro ⟨g1, g2⟩
  obtain ⟨hkl, L, hp, hall, hst⟩ := h
  obtain ⟨hf, hb⟩ := parse_fits hp
  have hT : lacksT s key T = (if L.length = 0 then topX 0 [] :: T else clsT L T) := by
    unfold lacksT
    rw [hp, if_pos ⟨⟨rfl, rfl⟩, hkl⟩]
  rw [hT] at hU
  have irr : lessS key key = true → False := fun q => by rw [less_irr] at q; cases q
  match L, hp, hf, hall, hst, hU with
  | [], hp, hf, hall, hst, hU =>
    rw [if_pos (show ([] : List Lf).length = 0 from rfl)] at hU
    have hst : root = shaD (rootX []) := hst
    have e0 : rootX [] = topX 0 [] := rfl
    rw [← hroot, e0] at hst
    have ht := hU _ (List.mem_cons_of_mem _ (u1 _ (rootT_mem l []).2.1)) _ List.mem_cons_self hst
    unfold rootX at ht
    rw [if_neg (by omega)] at ht
    have b8 : (4096 : Nat) < 256 ^ 8 := by decide
    have := (top_inj (by omega) (by decide) ht).1
    omega
  | [x], hp, hf, hall, hst, hU =>
    rw [if_neg (by simp)] at hU
    have hg := hall x (by simp)
    rw [← hroot] at hg
    have hr := (good_right hg).1
    obtain ⟨j, hj, rfl⟩ := good_at hU hs hl (hf.2 x (by simp)) hg (fun z hz => clsT_old (u1 z hz)) (fun z hz => clsT_new hr hz (L := [x]) (by simp))
    have hst : (((j : Nat) : Int) = 0 ∧ lessS key (kAt l j) = true) ∨ (((j : Nat) : Int) = ((l.length : Nat) : Int) - 1 ∧ lessS (kAt l j) key = true) := hst
    rcases hst with ⟨q1, q2⟩ | ⟨q1, q2⟩
    · have := sort_up hsort (show j ≤ k0 by omega) g1 q2
      rw [g2] at this
      exact irr this
    · have := sort_down hsort (show k0 ≤ j by omega) hj q2
      rw [g2] at this
      exact irr this
  | x :: y :: r, hp, hf, hall, hst, hU =>
    rw [if_neg (by simp)] at hU
    have hgx := hall x (by simp)
    have hgy := hall y (by simp)
    rw [← hroot] at hgx hgy
    have hrx := (good_right hgx).1
    have hry := (good_right hgy).1
    obtain ⟨i, hi, ex⟩ := good_at hU hs hl (hf.2 x (by simp)) hgx (fun z hz => clsT_old (u1 z hz)) (fun z hz => clsT_new hrx hz (L := x :: y :: r) (by simp))
    obtain ⟨j, hj, ey⟩ := good_at hU hs hl (hf.2 y (by simp)) hgy (fun z hz => clsT_old (u1 z hz)) (fun z hz => clsT_new hry hz (L := x :: y :: r) (by simp))
    subst ex ey
    have hst : (((l.length : Nat) : Int) = ((l.length : Nat) : Int) ∧ ((i : Nat) : Int) + 1 = ((j : Nat) : Int)) ∧ lessS (kAt l i) key = true ∧ lessS key (kAt l j) = true := hst
    obtain ⟨⟨_, q1⟩, q2, q3⟩ := hst
    rcases Nat.lt_or_ge i k0 with q | q
    · have := sort_up hsort (show j ≤ k0 by omega) g1 q3
      rw [g2] at this
      exact irr this
    · have := sort_down hsort q hi q2
      rw [g2] at this
      exact irr this
theorem both_sound {l : List Pr} {root s key value : Bs} {k0 : Nat} (hs : ∀ q ∈ l, short q) (hl : l.length ≤ 4096) (hroot : shaD (rootX l) = root) (hsort : sortB l) (hk : IsPlace l key k0)
    (hc : bcl (lacksT s key (hasT s (topX 0 [] :: rootT l []))) = false) : (hasP root s key value → (k0 < l.length ∧ kAt l k0 = key) ∧ (l.getD k0 ([], [])).2 = value) ∧ (lacksP root s key → ¬ (k0 < l.length ∧ kAt l k0 = key)) := by
  have hU := noc_of hc
  constructor
  · intro h
    have hU2 : NoC (hasT s (topX 0 [] :: rootT l [])) := fun a ha b hb e => hU a (lacksT_old ha) b (lacksT_old hb) e
    obtain ⟨q1, q2, _⟩ := has_sound hs hl hroot hsort hk hU2 (fun z hz => List.mem_cons_of_mem _ hz) h
    exact ⟨q1, q2⟩
  · intro h
    exact lacks_sound hs hl hroot hsort hU (fun z hz => hasT_old (List.mem_cons_of_mem _ hz)) h
end Go.LX
end
section
set_option maxRecDepth 100000
set_option maxHeartbeats 2000000
set_option autoImplicit false
set_option linter.unusedVariables false
set_option linter.unusedSimpArgs false
namespace Go.LX
open Go.Proofs

end Go.LX
end
section
set_option maxRecDepth 100000
set_option maxHeartbeats 2000000
set_option autoImplicit false
set_option linter.unusedVariables false
set_option linter.unusedSimpArgs false
namespace Go.LX
open Go.Proofs

def lawSound9S : Spec := fun args H Q => match args, H with
  | [.sl 2 n cs f, .str s, .str key, .str value], [] => ∃ l : List Pr, n = l.length ∧ cs = flP l ∧ l.length ≤ 9223372036854775807 ∧ Q (.bool true) []
  | _, _ => False
theorem IsPlace.here {l : List Pr} {t : Bs} {k j : Nat} (h : IsPlace l t k) (hs : sortB l) (hj : j < l.length) : (l.getD j ([], [])).1 = t ↔ (k < l.length ∧ kAt l k = t) ∧ k < j + 1 ∧ ¬ (k < j) := by
  constructor
  · intro e
    have := h.only hs hj e
    subst this
    exact ⟨⟨hj, e⟩, by omega, by omega⟩
  · rintro ⟨⟨_, e⟩, q1, q2⟩
    have : j = k := by omega
    subst this
    exact e
open Classical in
theorem sound9_law {y0 : CV} {cs0 : List CV} (hK : KAt y0 cs0) : Meets Tryz.prog [(0, y0 :: cs0)] 4 lawSound9S := by
  refine meets_of Γok Tryz.func4 rfl ?_
  intro args H Q h
  unfold lawSound9S at h
  split at h
  case h_2 => exact h.elim
  rename_i n cs f s key value
  obtain ⟨l, rfl, rfl, hl, h⟩ := h
  by_cases hf : l.length ≤ 40 ∧ chkV l = 0
  case neg =>
    (refine sx_sound Γok _ ?_; conv => whnf)
    (repeat (first | (exact Out.same; conv => whnf) | (exact Out1.same; conv => whnf) | (refine QAnd.mk ?_ ?_; conv => whnf) | (apply QStepH.go; conv => whnf) | (refine Both.lit_true ?_; conv => whnf) | (refine Both.lit_false ?_; conv => whnf) | (apply QStep.go; conv => whnf) | (refine Need.au ?_; conv => whnf) | (refine ⟨_, rfl, ?_⟩; conv => whnf) | (refine CallVC.auto (awake9_k hK) ?_; conv => whnf)))
    refine CallVC.auto few9_k.gl ⟨l, rfl, rfl, hl, ?_⟩
    rw [show decide (l.length ≤ 40 ∧ chkV l = 0) = false from decide_eq_false hf]
    (conv => whnf)
    (repeat (first | (exact Out.same; conv => whnf) | (exact Out1.same; conv => whnf) | (refine QAnd.mk ?_ ?_; conv => whnf) | (apply QStepH.go; conv => whnf) | (refine Both.lit_true ?_; conv => whnf) | (refine Both.lit_false ?_; conv => whnf) | (apply QStep.go; conv => whnf) | (refine Need.au ?_; conv => whnf) | (refine ⟨_, rfl, ?_⟩; conv => whnf)))
    exact ⟨_, _, WeakV.drop rfl, h⟩
  have hsort := chk_sort hf.2
  have hsm := (chk_short hf.2).2
  have h60 : l.length < 60000 := by omega
  have hok : ∀ p ∈ l, okP p := fun p hp => by
    have := hsm p hp
    exact ⟨by omega, by omega⟩
  have hs1 : ∀ p ∈ l, short p := fun p hp => by
    have := hsm p hp
    exact ⟨by omega, by omega⟩
  (refine sx_sound Γok _ ?_; conv => whnf)
  (repeat (first | (exact Out.same; conv => whnf) | (exact Out1.same; conv => whnf) | (refine QAnd.mk ?_ ?_; conv => whnf) | (apply QStepH.go; conv => whnf) | (refine Both.lit_true ?_; conv => whnf) | (refine Both.lit_false ?_; conv => whnf) | (apply QStep.go; conv => whnf) | (refine Need.au ?_; conv => whnf) | (refine ⟨_, rfl, ?_⟩; conv => whnf) | (refine CallVC.auto (awake9_k hK) ?_; conv => whnf)))
  refine CallVC.auto few9_k.gl ⟨l, rfl, rfl, hl, ?_⟩
  rw [show decide (l.length ≤ 40 ∧ chkV l = 0) = true from decide_eq_true hf]
  (conv => whnf)
  (repeat (first | (exact Out.same; conv => whnf) | (exact Out1.same; conv => whnf) | (refine QAnd.mk ?_ ?_; conv => whnf) | (apply QStepH.go; conv => whnf) | (refine Both.lit_true ?_; conv => whnf) | (refine Both.lit_false ?_; conv => whnf) | (apply QStep.go; conv => whnf) | (refine Need.au ?_; conv => whnf) | (refine ⟨_, rfl, ?_⟩; conv => whnf)))
  refine Both.dec (fun h1 => ?_) (fun h1 => ?_)
  · (conv => whnf)
    (repeat (first | (exact Out.same; conv => whnf) | (exact Out1.same; conv => whnf) | (refine QAnd.mk ?_ ?_; conv => whnf) | (apply QStepH.go; conv => whnf) | (refine Both.lit_true ?_; conv => whnf) | (refine Both.lit_false ?_; conv => whnf) | (apply QStep.go; conv => whnf) | (refine Need.au ?_; conv => whnf) | (refine ⟨_, rfl, ?_⟩; conv => whnf)))
    exact ⟨_, _, WeakV.drop rfl, h⟩
  (conv => whnf)
  (repeat (first | (exact Out.same; conv => whnf) | (exact Out1.same; conv => whnf) | (refine QAnd.mk ?_ ?_; conv => whnf) | (apply QStepH.go; conv => whnf) | (refine Both.lit_true ?_; conv => whnf) | (refine Both.lit_false ?_; conv => whnf) | (apply QStep.go; conv => whnf) | (refine Need.au ?_; conv => whnf) | (refine ⟨_, rfl, ?_⟩; conv => whnf)))
  refine Both.dec (fun h2 => ?_) (fun h2 => ?_)
  · (conv => whnf)
    (repeat (first | (exact Out.same; conv => whnf) | (exact Out1.same; conv => whnf) | (refine QAnd.mk ?_ ?_; conv => whnf) | (apply QStepH.go; conv => whnf) | (refine Both.lit_true ?_; conv => whnf) | (refine Both.lit_false ?_; conv => whnf) | (apply QStep.go; conv => whnf) | (refine Need.au ?_; conv => whnf) | (refine ⟨_, rfl, ?_⟩; conv => whnf)))
    exact ⟨_, _, WeakV.drop rfl, h⟩
  (conv => whnf)
  (repeat (first | (exact Out.same; conv => whnf) | (exact Out1.same; conv => whnf) | (refine QAnd.mk ?_ ?_; conv => whnf) | (apply QStepH.go; conv => whnf) | (refine Both.lit_true ?_; conv => whnf) | (refine Both.lit_false ?_; conv => whnf) | (apply QStep.go; conv => whnf) | (refine Need.au ?_; conv => whnf) | (refine ⟨_, rfl, ?_⟩; conv => whnf)))
  refine Both.dec (fun h3 => ?_) (fun h3 => ?_)
  · (conv => whnf)
    (repeat (first | (exact Out.same; conv => whnf) | (exact Out1.same; conv => whnf) | (refine QAnd.mk ?_ ?_; conv => whnf) | (apply QStepH.go; conv => whnf) | (refine Both.lit_true ?_; conv => whnf) | (refine Both.lit_false ?_; conv => whnf) | (apply QStep.go; conv => whnf) | (refine Need.au ?_; conv => whnf) | (refine ⟨_, rfl, ?_⟩; conv => whnf)))
    exact ⟨_, _, WeakV.drop rfl, h⟩
  have hslen : s.length < 1000000 := by omega
  obtain ⟨k, hk⟩ := place_ex hsort key
  obtain ⟨root, hroot⟩ : ∃ r, shaD (rootX l) = r := ⟨_, rfl⟩
  have hbad : ((((hasP root s key value → (k < l.length ∧ kAt l k = key) ∧ (l.getD k ([], [])).2 = value)) → (lacksP root s key → ¬ (k < l.length ∧ kAt l k = key)) → False) → bcl (lacksT s key (hasT s (topX 0 [] :: rootT l []))) = true) := fun q => by
    cases hb : bcl (lacksT s key (hasT s (topX 0 [] :: rootT l []))) with
    | true => rfl
    | false =>
      obtain ⟨u1, u2⟩ := both_sound (value := value) hs1 (by omega) hroot hsort hk hb
      exact (q u1 u2).elim
  (conv => whnf)
  (repeat (first | (exact Out.same; conv => whnf) | (exact Out1.same; conv => whnf) | (refine QAnd.mk ?_ ?_; conv => whnf) | (apply QStepH.go; conv => whnf) | (refine Both.lit_true ?_; conv => whnf) | (refine Both.lit_false ?_; conv => whnf) | (apply QStep.go; conv => whnf) | (refine Need.au ?_; conv => whnf) | (refine ⟨_, rfl, ?_⟩; conv => whnf)))
  refine CallVC.auto (mroot_k hK) ⟨l, rfl, rfl, h60, hok, ?_⟩
  rw [hroot]
  (conv => whnf)
  (repeat (first | (exact Out.same; conv => whnf) | (exact Out1.same; conv => whnf) | (refine QAnd.mk ?_ ?_; conv => whnf) | (apply QStepH.go; conv => whnf) | (refine Both.lit_true ?_; conv => whnf) | (refine Both.lit_false ?_; conv => whnf) | (apply QStep.go; conv => whnf) | (refine Need.au ?_; conv => whnf) | (refine ⟨_, rfl, ?_⟩; conv => whnf)))
  refine loop_rule (fun x : Nat × Int => match x with | (j, t) => ⟨[.sl 2 l.length (flP l) f, .str s, .str key, .str value, .any, .any, .any, .any, .any, .str root, .int .i64 t, .int .i64 (j : Int), .any, .any, .any, .any, .any, .any, .any, .any, .any, .any, .any, .any, .any, .any, .any, .any, .any, .any, .any, .any, .any, .any, .any, .any, .any, .any, .any, .any, .any, .any, .any, .any, .any, .any, .any, .any, .any, .any, .any, .any, .any, .any, .any, .any, .any, .any, .any, .any, .any, .any, .any, .any, .any, .any, .any, .any, .any, .any, .any, .any, .any, .any, .any, .any, .any, .any, .any, .any, .any, .any, .any, .any, .any, .any, .any, .any, .any, .any, .any, .any, .any, .any, .any, .any, .any, .any, .any, .any, .any, .any, .any, .any], []⟩) (fun x => match x with | (j, t) => j ≤ l.length ∧ t = (if (k < l.length ∧ kAt l k = key) ∧ k < j then (k : Int) else -1)) (fun x => match x with | (j, t) => l.length - j) (0, -1) ⟨Nat.zero_le _, by rw [if_neg (fun q => by have := q.2; omega)]⟩ (Weak.auto ?_) ?_
  · (repeat' ((conv => whnf); first | exact True.intro | (refine And.intro ?_ ?_)))
    all_goals first | rfl | exact .eq rfl
  rintro ⟨j, t⟩ ⟨hj, ht⟩
  (refine sx_sound Γok _ ?_; conv => whnf)
  (repeat (first | (exact Out.same; conv => whnf) | (exact Out1.same; conv => whnf) | (refine QAnd.mk ?_ ?_; conv => whnf) | (apply QStepH.go; conv => whnf) | (refine Both.lit_true ?_; conv => whnf) | (refine Both.lit_false ?_; conv => whnf) | (apply QStep.go; conv => whnf) | (refine Need.au ?_; conv => whnf) | (refine ⟨_, rfl, ?_⟩; conv => whnf)))
  refine Both.dec (fun hlt => ?_) (fun hge => ?_)
  · have hjl : j < l.length := by omega
    have hat := flP_at l hjl
    have hin : ti33.size = 2 ∧ (0 : Int) ≤ (j : Int) ∧ (j : Int) < ((l.length : Nat) : Int) := ⟨rfl, by omega, by omega⟩
    have hwr : IntKind.i64.wrap ((j : Int) + 1) = ((j + 1 : Nat) : Int) := by rw [wrap_i64 (by omega) (by omega)]; rfl
    have hh := hk.here hsort hjl
    (conv => whnf)
    (repeat (first | (refine Need.mk hin ?_; conv => whnf) | (refine ⟨_, hat, ?_⟩; conv => whnf) | (exact Out.same; conv => whnf) | (exact Out1.same; conv => whnf) | (refine QAnd.mk ?_ ?_; conv => whnf) | (apply QStepH.go; conv => whnf) | (refine Both.lit_true ?_; conv => whnf) | (refine Both.lit_false ?_; conv => whnf) | (apply QStep.go; conv => whnf) | (refine Need.au ?_; conv => whnf) | (refine ⟨_, rfl, ?_⟩; conv => whnf)))
    refine Both.dec (fun heq => ?_) (fun hne => ?_)
    · obtain ⟨g1, g2, g3⟩ := hh.1 heq
      have hkj : k = j := by omega
      (conv => whnf)
      (repeat (first | (exact Out.same; conv => whnf) | (exact Out1.same; conv => whnf) | (refine QAnd.mk ?_ ?_; conv => whnf) | (apply QStepH.go; conv => whnf) | (refine Both.lit_true ?_; conv => whnf) | (refine Both.lit_false ?_; conv => whnf) | (apply QStep.go; conv => whnf) | (refine Need.au ?_; conv => whnf) | (refine ⟨_, rfl, ?_⟩; conv => whnf) | (refine Both.of_false ?_ ?_; (focus (first | rfl | (simp <;> fail))); conv => whnf) | (refine Both.of_true ?_ ?_; (focus (first | rfl | (simp <;> fail))); conv => whnf)))
      refine ⟨(j + 1, (j : Int)), ⟨hjl, by rw [if_pos ⟨g1, g2⟩, hkj]⟩, by show l.length - (j + 1) < l.length - j; omega, Weak.auto ?_⟩
      (repeat' ((conv => whnf); first | exact True.intro | (refine And.intro ?_ ?_)))
      all_goals first | rfl | exact .eq rfl | exact congrArg (SV.int .i64) hwr
    · have hsame : t = (if (k < l.length ∧ kAt l k = key) ∧ k < j + 1 then (k : Int) else -1) := by
        rw [ht]
        by_cases g : (k < l.length ∧ kAt l k = key) ∧ k < j
        · rw [if_pos g, if_pos ⟨g.1, by omega⟩]
        · rw [if_neg g, if_neg (fun q => hne (hh.2 ⟨q.1, q.2, fun w => g ⟨q.1, w⟩⟩))]
      (conv => whnf)
      (repeat (first | (exact Out.same; conv => whnf) | (exact Out1.same; conv => whnf) | (refine QAnd.mk ?_ ?_; conv => whnf) | (apply QStepH.go; conv => whnf) | (refine Both.lit_true ?_; conv => whnf) | (refine Both.lit_false ?_; conv => whnf) | (apply QStep.go; conv => whnf) | (refine Need.au ?_; conv => whnf) | (refine ⟨_, rfl, ?_⟩; conv => whnf) | (refine Both.of_false ?_ ?_; (focus (first | rfl | (simp <;> fail))); conv => whnf) | (refine Both.of_true ?_ ?_; (focus (first | rfl | (simp <;> fail))); conv => whnf)))
      refine ⟨(j + 1, t), ⟨hjl, hsame⟩, by show l.length - (j + 1) < l.length - j; omega, Weak.auto ?_⟩
      (repeat' ((conv => whnf); first | exact True.intro | (refine And.intro ?_ ?_)))
      all_goals first | rfl | exact .eq rfl | exact congrArg (SV.int .i64) hwr
  have hje : j = l.length := by omega
  subst hje
  by_cases hc : k < l.length ∧ kAt l k = key
  · have ht2 : t = (k : Int) := by rw [ht, if_pos ⟨hc, hc.1⟩]
    clear ht
    subst ht2
    have d1 : decide ((0 : Int) ≤ (k : Int)) = true := decide_eq_true (by omega)
    have d2 : decide ((k : Int) < 0) = false := decide_eq_false (by omega)
    have hat := flP_at l hc.1
    have hix : ti33.size = 2 ∧ (0 : Int) ≤ (k : Int) ∧ (k : Int) < ((l.length : Nat) : Int) := ⟨rfl, by omega, by omega⟩
    (conv => whnf)
    (repeat (first | (exact Out.same; conv => whnf) | (exact Out1.same; conv => whnf) | (refine QAnd.mk ?_ ?_; conv => whnf) | (apply QStepH.go; conv => whnf) | (refine Both.lit_true ?_; conv => whnf) | (refine Both.lit_false ?_; conv => whnf) | (apply QStep.go; conv => whnf) | (refine Need.au ?_; conv => whnf) | (refine ⟨_, rfl, ?_⟩; conv => whnf)))
    refine CallVC.auto (has_k hK) ⟨hslen, ?_⟩
    by_cases e1 : hasP root s key value
    · by_cases e2 : (l.getD k ([], [])).2 = value
      · have dv : decide ((l.getD k ([], [])).2 = value) = true := decide_eq_true e2
        by_cases e3 : lacksP root s key
        · have hcl := hbad (fun u1 u2 => u2 e3 hc)
          rw [decide_eq_true e1]
          (conv => whnf)
          (repeat (first | (refine Both.of_true d1 ?_; conv => whnf) | (refine Need.mk hix ?_; conv => whnf) | (refine ⟨_, hat, ?_⟩; conv => whnf) | (exact Out.same; conv => whnf) | (exact Out1.same; conv => whnf) | (refine QAnd.mk ?_ ?_; conv => whnf) | (apply QStepH.go; conv => whnf) | (refine Both.lit_true ?_; conv => whnf) | (refine Both.lit_false ?_; conv => whnf) | (apply QStep.go; conv => whnf) | (refine Need.au ?_; conv => whnf) | (refine ⟨_, rfl, ?_⟩; conv => whnf)))
          refine CallVC.auto (lacks_k hK) ⟨hslen, ?_⟩
          rw [decide_eq_true e3]
          (conv => whnf)
          (repeat (first | (refine Both.of_true dv ?_; conv => whnf) | (refine Both.of_false d2 ?_; conv => whnf) | (exact Out.same; conv => whnf) | (exact Out1.same; conv => whnf) | (refine QAnd.mk ?_ ?_; conv => whnf) | (apply QStepH.go; conv => whnf) | (refine Both.lit_true ?_; conv => whnf) | (refine Both.lit_false ?_; conv => whnf) | (apply QStep.go; conv => whnf) | (refine Need.au ?_; conv => whnf) | (refine ⟨_, rfl, ?_⟩; conv => whnf) | (refine CallVC.auto newb_k.gl ?_; conv => whnf)))
          refine CallVC.auto (rroot_k.gl (G := [(0, y0 :: cs0)])) (inB_mk (T := []) ⟨l, rfl, rfl, h60, hok, ?_⟩)
          generalize rootT l [] = T0 at hcl ⊢
          (conv => whnf)
          (repeat (first | (exact Out.same; conv => whnf) | (exact Out1.same; conv => whnf) | (refine QAnd.mk ?_ ?_; conv => whnf) | (apply QStepH.go; conv => whnf) | (refine Both.lit_true ?_; conv => whnf) | (refine Both.lit_false ?_; conv => whnf) | (apply QStep.go; conv => whnf) | (refine Need.au ?_; conv => whnf) | (refine ⟨_, rfl, ?_⟩; conv => whnf)))
          refine CallVC.auto (rrootN_k.gl (G := [(0, y0 :: cs0)])) (inB_mk (T := T0) ?_)
          generalize topX 0 [] :: T0 = T1 at hcl ⊢
          (conv => whnf)
          (repeat (first | (exact Out.same; conv => whnf) | (exact Out1.same; conv => whnf) | (refine QAnd.mk ?_ ?_; conv => whnf) | (apply QStepH.go; conv => whnf) | (refine Both.lit_true ?_; conv => whnf) | (refine Both.lit_false ?_; conv => whnf) | (apply QStep.go; conv => whnf) | (refine Need.au ?_; conv => whnf) | (refine ⟨_, rfl, ?_⟩; conv => whnf)))
          refine CallVC.auto (rhas_k.gl (G := [(0, y0 :: cs0)])) (inB_mk (T := T1) ⟨hslen, ?_⟩)
          generalize hasT s T1 = T2 at hcl ⊢
          (conv => whnf)
          (repeat (first | (exact Out.same; conv => whnf) | (exact Out1.same; conv => whnf) | (refine QAnd.mk ?_ ?_; conv => whnf) | (apply QStepH.go; conv => whnf) | (refine Both.lit_true ?_; conv => whnf) | (refine Both.lit_false ?_; conv => whnf) | (apply QStep.go; conv => whnf) | (refine Need.au ?_; conv => whnf) | (refine ⟨_, rfl, ?_⟩; conv => whnf)))
          refine CallVC.auto (rlacks_k.gl (G := [(0, y0 :: cs0)])) (inB_mk (T := T2) ⟨hslen, ?_⟩)
          generalize lacksT s key T2 = T3 at hcl ⊢
          (conv => whnf)
          (repeat (first | (exact Out.same; conv => whnf) | (exact Out1.same; conv => whnf) | (refine QAnd.mk ?_ ?_; conv => whnf) | (apply QStepH.go; conv => whnf) | (refine Both.lit_true ?_; conv => whnf) | (refine Both.lit_false ?_; conv => whnf) | (apply QStep.go; conv => whnf) | (refine Need.au ?_; conv => whnf) | (refine ⟨_, rfl, ?_⟩; conv => whnf)))
          exact ⟨_, _, WeakV.drop (congrArg SV.bool hcl), h⟩
        · rw [decide_eq_true e1]
          (conv => whnf)
          (repeat (first | (refine Both.of_true d1 ?_; conv => whnf) | (refine Need.mk hix ?_; conv => whnf) | (refine ⟨_, hat, ?_⟩; conv => whnf) | (exact Out.same; conv => whnf) | (exact Out1.same; conv => whnf) | (refine QAnd.mk ?_ ?_; conv => whnf) | (apply QStepH.go; conv => whnf) | (refine Both.lit_true ?_; conv => whnf) | (refine Both.lit_false ?_; conv => whnf) | (apply QStep.go; conv => whnf) | (refine Need.au ?_; conv => whnf) | (refine ⟨_, rfl, ?_⟩; conv => whnf)))
          refine CallVC.auto (lacks_k hK) ⟨hslen, ?_⟩
          rw [decide_eq_false e3]
          (conv => whnf)
          (repeat (first | (refine Both.of_true dv ?_; conv => whnf) | (refine Both.of_false d2 ?_; conv => whnf) | (exact Out.same; conv => whnf) | (exact Out1.same; conv => whnf) | (refine QAnd.mk ?_ ?_; conv => whnf) | (apply QStepH.go; conv => whnf) | (refine Both.lit_true ?_; conv => whnf) | (refine Both.lit_false ?_; conv => whnf) | (apply QStep.go; conv => whnf) | (refine Need.au ?_; conv => whnf) | (refine ⟨_, rfl, ?_⟩; conv => whnf)))
          exact ⟨_, _, WeakV.drop rfl, h⟩
      · have dv : decide ((l.getD k ([], [])).2 = value) = false := decide_eq_false e2
        by_cases e3 : lacksP root s key
        · have hcl := hbad (fun u1 u2 => e2 (u1 e1).2)
          rw [decide_eq_true e1]
          (conv => whnf)
          (repeat (first | (refine Both.of_true d1 ?_; conv => whnf) | (refine Need.mk hix ?_; conv => whnf) | (refine ⟨_, hat, ?_⟩; conv => whnf) | (exact Out.same; conv => whnf) | (exact Out1.same; conv => whnf) | (refine QAnd.mk ?_ ?_; conv => whnf) | (apply QStepH.go; conv => whnf) | (refine Both.lit_true ?_; conv => whnf) | (refine Both.lit_false ?_; conv => whnf) | (apply QStep.go; conv => whnf) | (refine Need.au ?_; conv => whnf) | (refine ⟨_, rfl, ?_⟩; conv => whnf)))
          refine CallVC.auto (lacks_k hK) ⟨hslen, ?_⟩
          rw [decide_eq_true e3]
          (conv => whnf)
          (repeat (first | (refine Both.of_false dv ?_; conv => whnf) | (refine Both.of_false d2 ?_; conv => whnf) | (exact Out.same; conv => whnf) | (exact Out1.same; conv => whnf) | (refine QAnd.mk ?_ ?_; conv => whnf) | (apply QStepH.go; conv => whnf) | (refine Both.lit_true ?_; conv => whnf) | (refine Both.lit_false ?_; conv => whnf) | (apply QStep.go; conv => whnf) | (refine Need.au ?_; conv => whnf) | (refine ⟨_, rfl, ?_⟩; conv => whnf) | (refine CallVC.auto newb_k.gl ?_; conv => whnf)))
          refine CallVC.auto (rroot_k.gl (G := [(0, y0 :: cs0)])) (inB_mk (T := []) ⟨l, rfl, rfl, h60, hok, ?_⟩)
          generalize rootT l [] = T0 at hcl ⊢
          (conv => whnf)
          (repeat (first | (exact Out.same; conv => whnf) | (exact Out1.same; conv => whnf) | (refine QAnd.mk ?_ ?_; conv => whnf) | (apply QStepH.go; conv => whnf) | (refine Both.lit_true ?_; conv => whnf) | (refine Both.lit_false ?_; conv => whnf) | (apply QStep.go; conv => whnf) | (refine Need.au ?_; conv => whnf) | (refine ⟨_, rfl, ?_⟩; conv => whnf)))
          refine CallVC.auto (rrootN_k.gl (G := [(0, y0 :: cs0)])) (inB_mk (T := T0) ?_)
          generalize topX 0 [] :: T0 = T1 at hcl ⊢
          (conv => whnf)
          (repeat (first | (exact Out.same; conv => whnf) | (exact Out1.same; conv => whnf) | (refine QAnd.mk ?_ ?_; conv => whnf) | (apply QStepH.go; conv => whnf) | (refine Both.lit_true ?_; conv => whnf) | (refine Both.lit_false ?_; conv => whnf) | (apply QStep.go; conv => whnf) | (refine Need.au ?_; conv => whnf) | (refine ⟨_, rfl, ?_⟩; conv => whnf)))
          refine CallVC.auto (rhas_k.gl (G := [(0, y0 :: cs0)])) (inB_mk (T := T1) ⟨hslen, ?_⟩)
          generalize hasT s T1 = T2 at hcl ⊢
          (conv => whnf)
          (repeat (first | (exact Out.same; conv => whnf) | (exact Out1.same; conv => whnf) | (refine QAnd.mk ?_ ?_; conv => whnf) | (apply QStepH.go; conv => whnf) | (refine Both.lit_true ?_; conv => whnf) | (refine Both.lit_false ?_; conv => whnf) | (apply QStep.go; conv => whnf) | (refine Need.au ?_; conv => whnf) | (refine ⟨_, rfl, ?_⟩; conv => whnf)))
          refine CallVC.auto (rlacks_k.gl (G := [(0, y0 :: cs0)])) (inB_mk (T := T2) ⟨hslen, ?_⟩)
          generalize lacksT s key T2 = T3 at hcl ⊢
          (conv => whnf)
          (repeat (first | (exact Out.same; conv => whnf) | (exact Out1.same; conv => whnf) | (refine QAnd.mk ?_ ?_; conv => whnf) | (apply QStepH.go; conv => whnf) | (refine Both.lit_true ?_; conv => whnf) | (refine Both.lit_false ?_; conv => whnf) | (apply QStep.go; conv => whnf) | (refine Need.au ?_; conv => whnf) | (refine ⟨_, rfl, ?_⟩; conv => whnf)))
          exact ⟨_, _, WeakV.drop (congrArg SV.bool hcl), h⟩
        · have hcl := hbad (fun u1 u2 => e2 (u1 e1).2)
          rw [decide_eq_true e1]
          (conv => whnf)
          (repeat (first | (refine Both.of_true d1 ?_; conv => whnf) | (refine Need.mk hix ?_; conv => whnf) | (refine ⟨_, hat, ?_⟩; conv => whnf) | (exact Out.same; conv => whnf) | (exact Out1.same; conv => whnf) | (refine QAnd.mk ?_ ?_; conv => whnf) | (apply QStepH.go; conv => whnf) | (refine Both.lit_true ?_; conv => whnf) | (refine Both.lit_false ?_; conv => whnf) | (apply QStep.go; conv => whnf) | (refine Need.au ?_; conv => whnf) | (refine ⟨_, rfl, ?_⟩; conv => whnf)))
          refine CallVC.auto (lacks_k hK) ⟨hslen, ?_⟩
          rw [decide_eq_false e3]
          (conv => whnf)
          (repeat (first | (refine Both.of_false dv ?_; conv => whnf) | (refine Both.of_false d2 ?_; conv => whnf) | (exact Out.same; conv => whnf) | (exact Out1.same; conv => whnf) | (refine QAnd.mk ?_ ?_; conv => whnf) | (apply QStepH.go; conv => whnf) | (refine Both.lit_true ?_; conv => whnf) | (refine Both.lit_false ?_; conv => whnf) | (apply QStep.go; conv => whnf) | (refine Need.au ?_; conv => whnf) | (refine ⟨_, rfl, ?_⟩; conv => whnf) | (refine CallVC.auto newb_k.gl ?_; conv => whnf)))
          refine CallVC.auto (rroot_k.gl (G := [(0, y0 :: cs0)])) (inB_mk (T := []) ⟨l, rfl, rfl, h60, hok, ?_⟩)
          generalize rootT l [] = T0 at hcl ⊢
          (conv => whnf)
          (repeat (first | (exact Out.same; conv => whnf) | (exact Out1.same; conv => whnf) | (refine QAnd.mk ?_ ?_; conv => whnf) | (apply QStepH.go; conv => whnf) | (refine Both.lit_true ?_; conv => whnf) | (refine Both.lit_false ?_; conv => whnf) | (apply QStep.go; conv => whnf) | (refine Need.au ?_; conv => whnf) | (refine ⟨_, rfl, ?_⟩; conv => whnf)))
          refine CallVC.auto (rrootN_k.gl (G := [(0, y0 :: cs0)])) (inB_mk (T := T0) ?_)
          generalize topX 0 [] :: T0 = T1 at hcl ⊢
          (conv => whnf)
          (repeat (first | (exact Out.same; conv => whnf) | (exact Out1.same; conv => whnf) | (refine QAnd.mk ?_ ?_; conv => whnf) | (apply QStepH.go; conv => whnf) | (refine Both.lit_true ?_; conv => whnf) | (refine Both.lit_false ?_; conv => whnf) | (apply QStep.go; conv => whnf) | (refine Need.au ?_; conv => whnf) | (refine ⟨_, rfl, ?_⟩; conv => whnf)))
          refine CallVC.auto (rhas_k.gl (G := [(0, y0 :: cs0)])) (inB_mk (T := T1) ⟨hslen, ?_⟩)
          generalize hasT s T1 = T2 at hcl ⊢
          (conv => whnf)
          (repeat (first | (exact Out.same; conv => whnf) | (exact Out1.same; conv => whnf) | (refine QAnd.mk ?_ ?_; conv => whnf) | (apply QStepH.go; conv => whnf) | (refine Both.lit_true ?_; conv => whnf) | (refine Both.lit_false ?_; conv => whnf) | (apply QStep.go; conv => whnf) | (refine Need.au ?_; conv => whnf) | (refine ⟨_, rfl, ?_⟩; conv => whnf)))
          refine CallVC.auto (rlacks_k.gl (G := [(0, y0 :: cs0)])) (inB_mk (T := T2) ⟨hslen, ?_⟩)
          generalize lacksT s key T2 = T3 at hcl ⊢
          (conv => whnf)
          (repeat (first | (exact Out.same; conv => whnf) | (exact Out1.same; conv => whnf) | (refine QAnd.mk ?_ ?_; conv => whnf) | (apply QStepH.go; conv => whnf) | (refine Both.lit_true ?_; conv => whnf) | (refine Both.lit_false ?_; conv => whnf) | (apply QStep.go; conv => whnf) | (refine Need.au ?_; conv => whnf) | (refine ⟨_, rfl, ?_⟩; conv => whnf)))
          exact ⟨_, _, WeakV.drop (congrArg SV.bool hcl), h⟩
    · by_cases e3 : lacksP root s key
      · have hcl := hbad (fun u1 u2 => u2 e3 hc)
        rw [decide_eq_false e1]
        (conv => whnf)
        (repeat (first | (exact Out.same; conv => whnf) | (exact Out1.same; conv => whnf) | (refine QAnd.mk ?_ ?_; conv => whnf) | (apply QStepH.go; conv => whnf) | (refine Both.lit_true ?_; conv => whnf) | (refine Both.lit_false ?_; conv => whnf) | (apply QStep.go; conv => whnf) | (refine Need.au ?_; conv => whnf) | (refine ⟨_, rfl, ?_⟩; conv => whnf)))
        refine CallVC.auto (lacks_k hK) ⟨hslen, ?_⟩
        rw [decide_eq_true e3]
        (conv => whnf)
        (repeat (first | (refine Both.of_false d2 ?_; conv => whnf) | (exact Out.same; conv => whnf) | (exact Out1.same; conv => whnf) | (refine QAnd.mk ?_ ?_; conv => whnf) | (apply QStepH.go; conv => whnf) | (refine Both.lit_true ?_; conv => whnf) | (refine Both.lit_false ?_; conv => whnf) | (apply QStep.go; conv => whnf) | (refine Need.au ?_; conv => whnf) | (refine ⟨_, rfl, ?_⟩; conv => whnf) | (refine CallVC.auto newb_k.gl ?_; conv => whnf)))
        refine CallVC.auto (rroot_k.gl (G := [(0, y0 :: cs0)])) (inB_mk (T := []) ⟨l, rfl, rfl, h60, hok, ?_⟩)
        generalize rootT l [] = T0 at hcl ⊢
        (conv => whnf)
        (repeat (first | (exact Out.same; conv => whnf) | (exact Out1.same; conv => whnf) | (refine QAnd.mk ?_ ?_; conv => whnf) | (apply QStepH.go; conv => whnf) | (refine Both.lit_true ?_; conv => whnf) | (refine Both.lit_false ?_; conv => whnf) | (apply QStep.go; conv => whnf) | (refine Need.au ?_; conv => whnf) | (refine ⟨_, rfl, ?_⟩; conv => whnf)))
        refine CallVC.auto (rrootN_k.gl (G := [(0, y0 :: cs0)])) (inB_mk (T := T0) ?_)
        generalize topX 0 [] :: T0 = T1 at hcl ⊢
        (conv => whnf)
        (repeat (first | (exact Out.same; conv => whnf) | (exact Out1.same; conv => whnf) | (refine QAnd.mk ?_ ?_; conv => whnf) | (apply QStepH.go; conv => whnf) | (refine Both.lit_true ?_; conv => whnf) | (refine Both.lit_false ?_; conv => whnf) | (apply QStep.go; conv => whnf) | (refine Need.au ?_; conv => whnf) | (refine ⟨_, rfl, ?_⟩; conv => whnf)))
        refine CallVC.auto (rhas_k.gl (G := [(0, y0 :: cs0)])) (inB_mk (T := T1) ⟨hslen, ?_⟩)
        generalize hasT s T1 = T2 at hcl ⊢
        (conv => whnf)
        (repeat (first | (exact Out.same; conv => whnf) | (exact Out1.same; conv => whnf) | (refine QAnd.mk ?_ ?_; conv => whnf) | (apply QStepH.go; conv => whnf) | (refine Both.lit_true ?_; conv => whnf) | (refine Both.lit_false ?_; conv => whnf) | (apply QStep.go; conv => whnf) | (refine Need.au ?_; conv => whnf) | (refine ⟨_, rfl, ?_⟩; conv => whnf)))
        refine CallVC.auto (rlacks_k.gl (G := [(0, y0 :: cs0)])) (inB_mk (T := T2) ⟨hslen, ?_⟩)
        generalize lacksT s key T2 = T3 at hcl ⊢
        (conv => whnf)
        (repeat (first | (exact Out.same; conv => whnf) | (exact Out1.same; conv => whnf) | (refine QAnd.mk ?_ ?_; conv => whnf) | (apply QStepH.go; conv => whnf) | (refine Both.lit_true ?_; conv => whnf) | (refine Both.lit_false ?_; conv => whnf) | (apply QStep.go; conv => whnf) | (refine Need.au ?_; conv => whnf) | (refine ⟨_, rfl, ?_⟩; conv => whnf)))
        exact ⟨_, _, WeakV.drop (congrArg SV.bool hcl), h⟩
      · rw [decide_eq_false e1]
        (conv => whnf)
        (repeat (first | (exact Out.same; conv => whnf) | (exact Out1.same; conv => whnf) | (refine QAnd.mk ?_ ?_; conv => whnf) | (apply QStepH.go; conv => whnf) | (refine Both.lit_true ?_; conv => whnf) | (refine Both.lit_false ?_; conv => whnf) | (apply QStep.go; conv => whnf) | (refine Need.au ?_; conv => whnf) | (refine ⟨_, rfl, ?_⟩; conv => whnf)))
        refine CallVC.auto (lacks_k hK) ⟨hslen, ?_⟩
        rw [decide_eq_false e3]
        (conv => whnf)
        (repeat (first | (refine Both.of_false d2 ?_; conv => whnf) | (exact Out.same; conv => whnf) | (exact Out1.same; conv => whnf) | (refine QAnd.mk ?_ ?_; conv => whnf) | (apply QStepH.go; conv => whnf) | (refine Both.lit_true ?_; conv => whnf) | (refine Both.lit_false ?_; conv => whnf) | (apply QStep.go; conv => whnf) | (refine Need.au ?_; conv => whnf) | (refine ⟨_, rfl, ?_⟩; conv => whnf)))
        exact ⟨_, _, WeakV.drop rfl, h⟩
  · have ht2 : t = -1 := by rw [ht, if_neg (fun q => hc q.1)]
    clear ht
    subst ht2
    (conv => whnf)
    (repeat (first | (exact Out.same; conv => whnf) | (exact Out1.same; conv => whnf) | (refine QAnd.mk ?_ ?_; conv => whnf) | (apply QStepH.go; conv => whnf) | (refine Both.lit_true ?_; conv => whnf) | (refine Both.lit_false ?_; conv => whnf) | (apply QStep.go; conv => whnf) | (refine Need.au ?_; conv => whnf) | (refine ⟨_, rfl, ?_⟩; conv => whnf)))
    refine CallVC.auto (has_k hK) ⟨hslen, ?_⟩
    by_cases e1 : hasP root s key value
    · by_cases e3 : lacksP root s key
      · have hcl := hbad (fun u1 u2 => hc (u1 e1).1)
        rw [decide_eq_true e1]
        (conv => whnf)
        (repeat (first | (exact Out.same; conv => whnf) | (exact Out1.same; conv => whnf) | (refine QAnd.mk ?_ ?_; conv => whnf) | (apply QStepH.go; conv => whnf) | (refine Both.lit_true ?_; conv => whnf) | (refine Both.lit_false ?_; conv => whnf) | (apply QStep.go; conv => whnf) | (refine Need.au ?_; conv => whnf) | (refine ⟨_, rfl, ?_⟩; conv => whnf)))
        refine CallVC.auto (lacks_k hK) ⟨hslen, ?_⟩
        rw [decide_eq_true e3]
        (conv => whnf)
        (repeat (first | (exact Out.same; conv => whnf) | (exact Out1.same; conv => whnf) | (refine QAnd.mk ?_ ?_; conv => whnf) | (apply QStepH.go; conv => whnf) | (refine Both.lit_true ?_; conv => whnf) | (refine Both.lit_false ?_; conv => whnf) | (apply QStep.go; conv => whnf) | (refine Need.au ?_; conv => whnf) | (refine ⟨_, rfl, ?_⟩; conv => whnf) | (refine CallVC.auto newb_k.gl ?_; conv => whnf)))
        refine CallVC.auto (rroot_k.gl (G := [(0, y0 :: cs0)])) (inB_mk (T := []) ⟨l, rfl, rfl, h60, hok, ?_⟩)
        generalize rootT l [] = T0 at hcl ⊢
        (conv => whnf)
        (repeat (first | (exact Out.same; conv => whnf) | (exact Out1.same; conv => whnf) | (refine QAnd.mk ?_ ?_; conv => whnf) | (apply QStepH.go; conv => whnf) | (refine Both.lit_true ?_; conv => whnf) | (refine Both.lit_false ?_; conv => whnf) | (apply QStep.go; conv => whnf) | (refine Need.au ?_; conv => whnf) | (refine ⟨_, rfl, ?_⟩; conv => whnf)))
        refine CallVC.auto (rrootN_k.gl (G := [(0, y0 :: cs0)])) (inB_mk (T := T0) ?_)
        generalize topX 0 [] :: T0 = T1 at hcl ⊢
        (conv => whnf)
        (repeat (first | (exact Out.same; conv => whnf) | (exact Out1.same; conv => whnf) | (refine QAnd.mk ?_ ?_; conv => whnf) | (apply QStepH.go; conv => whnf) | (refine Both.lit_true ?_; conv => whnf) | (refine Both.lit_false ?_; conv => whnf) | (apply QStep.go; conv => whnf) | (refine Need.au ?_; conv => whnf) | (refine ⟨_, rfl, ?_⟩; conv => whnf)))
        refine CallVC.auto (rhas_k.gl (G := [(0, y0 :: cs0)])) (inB_mk (T := T1) ⟨hslen, ?_⟩)
        generalize hasT s T1 = T2 at hcl ⊢
        (conv => whnf)
        (repeat (first | (exact Out.same; conv => whnf) | (exact Out1.same; conv => whnf) | (refine QAnd.mk ?_ ?_; conv => whnf) | (apply QStepH.go; conv => whnf) | (refine Both.lit_true ?_; conv => whnf) | (refine Both.lit_false ?_; conv => whnf) | (apply QStep.go; conv => whnf) | (refine Need.au ?_; conv => whnf) | (refine ⟨_, rfl, ?_⟩; conv => whnf)))
        refine CallVC.auto (rlacks_k.gl (G := [(0, y0 :: cs0)])) (inB_mk (T := T2) ⟨hslen, ?_⟩)
        generalize lacksT s key T2 = T3 at hcl ⊢
        (conv => whnf)
        (repeat (first | (exact Out.same; conv => whnf) | (exact Out1.same; conv => whnf) | (refine QAnd.mk ?_ ?_; conv => whnf) | (apply QStepH.go; conv => whnf) | (refine Both.lit_true ?_; conv => whnf) | (refine Both.lit_false ?_; conv => whnf) | (apply QStep.go; conv => whnf) | (refine Need.au ?_; conv => whnf) | (refine ⟨_, rfl, ?_⟩; conv => whnf)))
        exact ⟨_, _, WeakV.drop (congrArg SV.bool hcl), h⟩
      · have hcl := hbad (fun u1 u2 => hc (u1 e1).1)
        rw [decide_eq_true e1]
        (conv => whnf)
        (repeat (first | (exact Out.same; conv => whnf) | (exact Out1.same; conv => whnf) | (refine QAnd.mk ?_ ?_; conv => whnf) | (apply QStepH.go; conv => whnf) | (refine Both.lit_true ?_; conv => whnf) | (refine Both.lit_false ?_; conv => whnf) | (apply QStep.go; conv => whnf) | (refine Need.au ?_; conv => whnf) | (refine ⟨_, rfl, ?_⟩; conv => whnf)))
        refine CallVC.auto (lacks_k hK) ⟨hslen, ?_⟩
        rw [decide_eq_false e3]
        (conv => whnf)
        (repeat (first | (exact Out.same; conv => whnf) | (exact Out1.same; conv => whnf) | (refine QAnd.mk ?_ ?_; conv => whnf) | (apply QStepH.go; conv => whnf) | (refine Both.lit_true ?_; conv => whnf) | (refine Both.lit_false ?_; conv => whnf) | (apply QStep.go; conv => whnf) | (refine Need.au ?_; conv => whnf) | (refine ⟨_, rfl, ?_⟩; conv => whnf) | (refine CallVC.auto newb_k.gl ?_; conv => whnf)))
        refine CallVC.auto (rroot_k.gl (G := [(0, y0 :: cs0)])) (inB_mk (T := []) ⟨l, rfl, rfl, h60, hok, ?_⟩)
        generalize rootT l [] = T0 at hcl ⊢
        (conv => whnf)
        (repeat (first | (exact Out.same; conv => whnf) | (exact Out1.same; conv => whnf) | (refine QAnd.mk ?_ ?_; conv => whnf) | (apply QStepH.go; conv => whnf) | (refine Both.lit_true ?_; conv => whnf) | (refine Both.lit_false ?_; conv => whnf) | (apply QStep.go; conv => whnf) | (refine Need.au ?_; conv => whnf) | (refine ⟨_, rfl, ?_⟩; conv => whnf)))
        refine CallVC.auto (rrootN_k.gl (G := [(0, y0 :: cs0)])) (inB_mk (T := T0) ?_)
        generalize topX 0 [] :: T0 = T1 at hcl ⊢
        (conv => whnf)
        (repeat (first | (exact Out.same; conv => whnf) | (exact Out1.same; conv => whnf) | (refine QAnd.mk ?_ ?_; conv => whnf) | (apply QStepH.go; conv => whnf) | (refine Both.lit_true ?_; conv => whnf) | (refine Both.lit_false ?_; conv => whnf) | (apply QStep.go; conv => whnf) | (refine Need.au ?_; conv => whnf) | (refine ⟨_, rfl, ?_⟩; conv => whnf)))
        refine CallVC.auto (rhas_k.gl (G := [(0, y0 :: cs0)])) (inB_mk (T := T1) ⟨hslen, ?_⟩)
        generalize hasT s T1 = T2 at hcl ⊢
        (conv => whnf)
        (repeat (first | (exact Out.same; conv => whnf) | (exact Out1.same; conv => whnf) | (refine QAnd.mk ?_ ?_; conv => whnf) | (apply QStepH.go; conv => whnf) | (refine Both.lit_true ?_; conv => whnf) | (refine Both.lit_false ?_; conv => whnf) | (apply QStep.go; conv => whnf) | (refine Need.au ?_; conv => whnf) | (refine ⟨_, rfl, ?_⟩; conv => whnf)))
        refine CallVC.auto (rlacks_k.gl (G := [(0, y0 :: cs0)])) (inB_mk (T := T2) ⟨hslen, ?_⟩)
        generalize lacksT s key T2 = T3 at hcl ⊢
        (conv => whnf)
        (repeat (first | (exact Out.same; conv => whnf) | (exact Out1.same; conv => whnf) | (refine QAnd.mk ?_ ?_; conv => whnf) | (apply QStepH.go; conv => whnf) | (refine Both.lit_true ?_; conv => whnf) | (refine Both.lit_false ?_; conv => whnf) | (apply QStep.go; conv => whnf) | (refine Need.au ?_; conv => whnf) | (refine ⟨_, rfl, ?_⟩; conv => whnf)))
        exact ⟨_, _, WeakV.drop (congrArg SV.bool hcl), h⟩
    · by_cases e3 : lacksP root s key
      · rw [decide_eq_false e1]
        (conv => whnf)
        (repeat (first | (exact Out.same; conv => whnf) | (exact Out1.same; conv => whnf) | (refine QAnd.mk ?_ ?_; conv => whnf) | (apply QStepH.go; conv => whnf) | (refine Both.lit_true ?_; conv => whnf) | (refine Both.lit_false ?_; conv => whnf) | (apply QStep.go; conv => whnf) | (refine Need.au ?_; conv => whnf) | (refine ⟨_, rfl, ?_⟩; conv => whnf)))
        refine CallVC.auto (lacks_k hK) ⟨hslen, ?_⟩
        rw [decide_eq_true e3]
        (conv => whnf)
        (repeat (first | (exact Out.same; conv => whnf) | (exact Out1.same; conv => whnf) | (refine QAnd.mk ?_ ?_; conv => whnf) | (apply QStepH.go; conv => whnf) | (refine Both.lit_true ?_; conv => whnf) | (refine Both.lit_false ?_; conv => whnf) | (apply QStep.go; conv => whnf) | (refine Need.au ?_; conv => whnf) | (refine ⟨_, rfl, ?_⟩; conv => whnf)))
        exact ⟨_, _, WeakV.drop rfl, h⟩
      · rw [decide_eq_false e1]
        (conv => whnf)
        (repeat (first | (exact Out.same; conv => whnf) | (exact Out1.same; conv => whnf) | (refine QAnd.mk ?_ ?_; conv => whnf) | (apply QStepH.go; conv => whnf) | (refine Both.lit_true ?_; conv => whnf) | (refine Both.lit_false ?_; conv => whnf) | (apply QStep.go; conv => whnf) | (refine Need.au ?_; conv => whnf) | (refine ⟨_, rfl, ?_⟩; conv => whnf)))
        refine CallVC.auto (lacks_k hK) ⟨hslen, ?_⟩
        rw [decide_eq_false e3]
        (conv => whnf)
        (repeat (first | (exact Out.same; conv => whnf) | (exact Out1.same; conv => whnf) | (refine QAnd.mk ?_ ?_; conv => whnf) | (apply QStepH.go; conv => whnf) | (refine Both.lit_true ?_; conv => whnf) | (refine Both.lit_false ?_; conv => whnf) | (apply QStep.go; conv => whnf) | (refine Need.au ?_; conv => whnf) | (refine ⟨_, rfl, ?_⟩; conv => whnf)))
        exact ⟨_, _, WeakV.drop rfl, h⟩
end Go.LX
end
section
set_option maxRecDepth 100000
set_option maxHeartbeats 4000000
set_option autoImplicit false
set_option linter.unusedVariables false
set_option linter.unusedSimpArgs false
namespace Go.LX
open Go.Proofs Go.Proofs.YtfnpemikicofaaaGreatDoor Go.RowKit Go.ChangeShapes Go.WideShapes Go.ChangeAt

theorem law_runG {P : Program} {G : Gl} {f : FuncId} {S : Spec} (hM : Meets P G f S) {svs : List SV} {vs : List Value} {W : World} (hv : VRs (E0 W) W svs vs) (hg : GlOk (E0 W) W G) (hS : S svs [] fun r _ => r = .bool true) :
    Calls P f vs.toArray W fun e W' => e = .returned (.bool true) ∧ Below W.heap.size W W' := by
  refine (hM svs [] _ hS (E0 W) W vs hv (rel0 W) hg).mono ?_
  rintro e W' ⟨v, r, H', E', rfl, rfl, hv, _, hst, _⟩
  cases hv
  exact ⟨rfl, hst.os, hst.tape, hst.output, hst.size, fun k hk => hst.keep k hk (fun ⟨i, o, h, _⟩ => by simp at h)⟩
def kzs : List Int := kT.map fun x => u32 x
def kG : Gl := [(0, CV.int .u32 (u32 0x428a2f98#32) :: (kT.tail.map fun x => CV.int .u32 (u32 x)))]
theorem kG_at : KAt (CV.int .u32 (u32 0x428a2f98#32)) (kT.tail.map fun x => CV.int .u32 (u32 x)) := fun t ht => k_at ht
abbrev laidK : List (String × DataW Unit) := [("carrack/sha.k", Rows.laid_carrack_sha_k)]
theorem laidK_eq : laidK = [("carrack/sha.k", Lib.tabData .u32 kzs)] := by kernel_rfl
theorem gK : Tryz.prog.globalNamed "carrack/sha.k" = some 0 := by kernel_rfl
theorem tK : (Tryz.prog.globals[0]?).map (·.type) = some 165 := by kernel_rfl
theorem gl_of_laid {W : World} (h : laidMetH Tryz.prog laidK W) : GlOk (E0 W) W kG := by
  rw [MakeChecks.laidMetH_plain _ _ _ (by kernel_rfl), laidK_eq] at h
  have hT := Lib.tabIs_of_head gK tK Tryz.underlying165 Tryz.underlying82 (by kernel_rfl) (by kernel_rfl) h
  have hc := fun i hi => hT.cell gK i hi
  refine ⟨fun g cs hm => ?_⟩
  have hm : (g, cs) = (0, CV.int .u32 (u32 0x428a2f98#32) :: (kT.tail.map fun x => CV.int .u32 (u32 x))) := List.mem_singleton.1 hm
  cases hm
  have hcs : (CV.int .u32 (u32 0x428a2f98#32) :: (kT.tail.map fun x => CV.int .u32 (u32 x))) = kzs.map fun z => CV.int .u32 z := by
    rw [kzs, List.map_map]
    rfl
  refine ⟨?_, kzs.map fun z => Value.int .u32 z, ?_, fun j v hj => ?_⟩
  · have h0 := hc 0 (by decide)
    show 0 < W.heap.size
    by_cases hz : 0 < W.heap.size
    · exact hz
    · exfalso
      have hn : W.heap[0]? = none := Array.getElem?_eq_none (by omega)
      unfold World.cell? at h0
      rw [hn] at h0
      cases h0
  · rw [hcs]
    refine ⟨by rw [List.length_map, List.length_map], fun j x v hx hv => ?_⟩
    rw [List.getElem?_map, Option.map_eq_some_iff] at hx hv
    obtain ⟨z, hz, rfl⟩ := hx
    obtain ⟨z', hz', rfl⟩ := hv
    cases hz.symm.trans hz'
    exact .int _ _
  · rw [List.getElem?_map, Option.map_eq_some_iff] at hj
    obtain ⟨z, hz, rfl⟩ := hj
    have hlt : j < kzs.length := by
      rcases Nat.lt_or_ge j kzs.length with h1 | h1
      · exact h1
      · rw [List.getElem?_eq_none h1] at hz; cases hz
    have := hc j hlt
    rw [List.getD_eq_getElem?_getD, hz] at this
    exact this
theorem doorK_met (os : Os) (args : Array Value) : laidMetH Tryz.prog laidK ((World.doorLaid Tryz.prog 400 os).forCall (fun _ _ => 0) ⟨#[], args, []⟩).memory :=
  laidMetH_of_parts3 (fuel := 8) (laidMet_of_run' 8 (by kernel_rfl) (by kernel_rfl)) (by kernel_rfl) (by kernel_rfl)
end Go.LX
end
