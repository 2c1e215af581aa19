/- Own texts of this claim, in build order: Fp, Fq, Fr, Vj, Vk, Hd, He, Vl, Vm, Vn, Vo, Vp, Vq, Vr, Fs, Lq. -/
import Derived.Test.YtpimpjcknammfaaGreatDoorX5
section
set_option maxRecDepth 100000
set_option maxHeartbeats 2000000
set_option autoImplicit false
set_option linter.unusedVariables false
set_option linter.unusedSimpArgs false
namespace Go.LX
open Go.Proofs

def recS : Spec := fun args H Q => match args, H with
  | [.int .i64 z, .int .u64 g, .int .u64 sr, .str s], [] => ∃ zn gn sn : Nat, z = zn ∧ g = gn ∧ sr = sn ∧ 64 ≤ zn ∧ zn ≤ 512 ∧ s.length ≤ 100000000 ∧ ∀ t : Bz, ∀ n : Nat, recA zn gn sn s = (t, n) → Q (.tuple [.str t, .int .i64 (n : Int)]) []
  | _, _ => False
theorem chunk_cut {z k : Nat} {s : Bz} : List.drop (((k * z : Nat) : Int)).toNat (List.take ((((k + 1) * z : Nat) : Int)).toNat s) = chunk z s k := by
  rw [Int.toNat_natCast, Int.toNat_natCast]
  unfold chunk
  rw [List.drop_take, show (k + 1) * z - k * z = z by rw [Nat.add_mul]; omega]
theorem frec_c : Meets Tryz.prog [] 71 recS := by
  refine meets_of Γok Tryz.func71 rfl ?_
  intro args H Q h
  unfold recS at h
  split at h
  case h_2 => exact h.elim
  rename_i z g sr s
  obtain ⟨zn, gn, sn, rfl, rfl, rfl, hz1, hz2, hl, h⟩ := h
  obtain ⟨ans, hans⟩ : ∃ ans, recA zn gn sn s = ans := ⟨_, rfl⟩
  have h := h ans.1 ans.2 hans
  have hz8 : (0 : Nat) < zn := by omega
  (refine sx_sound Γok _ ?_; conv => whnf)
  (repeat (first | (exact Out.same; conv => whnf) | (exact Out1.same; conv => whnf) | (refine QAnd.mk ?_ ?_; conv => whnf) | (apply QStepH.go; conv => whnf) | (refine Both.lit_true ?_; conv => whnf) | (refine Both.lit_false ?_; conv => whnf) | (apply QStep.go; conv => whnf) | (refine Need.au ?_; conv => whnf) | (refine ⟨_, rfl, ?_⟩; conv => whnf)))
  refine loop_rule (fun x : Nat × Nat × Nat × Bz => match x with | (f, k, n, txt) => ⟨[.int .i64 (zn : Int), .int .u64 (gn : Int), .int .u64 (sn : Int), .str s, .any, .any, .any, .any, .any, .any, .str txt, .int .i64 (n : Int), .int .i64 (k : Int), .any, .any, .any, .any, .any, .any, .any, .any, .any, .any, .any, .any, .any, .any, .any, .any, .any, .any, .any, .any, .any, .any, .any, .any, .any, .any, .any, .any, .any, .any, .any, .any, .any, .any, .any, .any, .any, .any, .any, .any, .any, .any, .any, .any, .any, .any, .any, .any, .any, .any, .any, .any, .any, .any, .any, .any, .any, .any, .any, .any, .any, .any, .any, .any, .any, .any, .any], []⟩) (fun x => match x with | (f, k, n, txt) => recX zn gn sn s f k n txt = ans ∧ f + k = s.length + 1 ∧ txt.length ≤ k * 512) (fun x => match x with | (f, k, n, txt) => f) (s.length + 1, 0, 0, []) ⟨hans, rfl, Nat.zero_le _⟩ (Weak.auto ?_) ?_
  · (repeat' ((conv => whnf); first | exact True.intro | (refine And.intro ?_ ?_)))
    all_goals first | rfl | exact .eq rfl
  rintro ⟨f, k, n, txt⟩ ⟨hI, hfk, htl⟩
  have hk1 : k * zn ≤ 100000001 * 512 := Nat.mul_le_mul (by omega) hz2
  have hk2 : (k + 1) * zn = k * zn + zn := by rw [Nat.add_mul, Nat.one_mul]
  have hwk : IntKind.i64.wrap ((k : Int) + 1) = ((k + 1 : Nat) : Int) := by rw [wrap_i64 (by omega) (by omega)]; rfl
  have hw1 : IntKind.i64.wrap (IntKind.i64.wrap ((k : Int) + 1) * (zn : Int)) = (((k + 1) * zn : Nat) : Int) := by rw [hwk, ← Int.natCast_mul, wrap_i64 (by omega) (by omega)]
  have hw2 : IntKind.i64.wrap ((k : Int) * (zn : Int)) = ((k * zn : Nat) : Int) := by rw [← Int.natCast_mul, wrap_i64 (by omega) (by omega)]
  obtain ⟨p, e, hpe⟩ : ∃ p e, readX (zn : Int) (chunk zn s k) = (p, e) := ⟨_, _, rfl⟩
  have hpf := readX_facts (z := (zn : Int)) (s := chunk zn s k)
  rw [hpe] at hpf
  obtain ⟨hf1, hf2, hf3, hf4, hf5, hf6, hf7⟩ := hpf
  have hf1 : p.g < 18446744073709551616 := hf1
  have hf3 : p.k < 256 := hf3
  have hf4 : p.n < 256 := hf4
  have hf5 : p.b.length ≤ 512 := hf5
  have hcl := chunk_len zn s k
  have hno : ¬ stepOk zn gn sn s k n (p, e) → ans = ([], 0) := fun q => by rw [← hI]; exact recX_no (by rw [hpe]; exact q)
  have hpn : IntKind.i64.wrap ((p.n : Int) - 1) = (p.n : Int) - 1 := wrap_i64 (by omega) (by omega)
  have hcat : txt.length + p.b.length ≤ 9223372036854775807 := by omega
  (refine sx_sound Γok _ ?_; conv => whnf)
  (repeat (first | (exact Out.same; conv => whnf) | (exact Out1.same; conv => whnf) | (refine QAnd.mk ?_ ?_; conv => whnf) | (apply QStepH.go; conv => whnf) | (refine Both.lit_true ?_; conv => whnf) | (refine Both.lit_false ?_; conv => whnf) | (apply QStep.go; conv => whnf) | (refine Need.au ?_; conv => whnf) | (refine ⟨_, rfl, ?_⟩; conv => whnf)))
  simp only [hw1]
  refine Both.dec (fun h0 => ?_) (fun h0 => ?_)
  case refine_2 =>
    rw [hno (fun q => by have : (k + 1) * zn ≤ s.length := q.1; omega)] at h
    (conv => whnf)
    (repeat (first | (exact Out.same; conv => whnf) | (exact Out1.same; conv => whnf) | (refine QAnd.mk ?_ ?_; conv => whnf) | (apply QStepH.go; conv => whnf) | (refine Both.lit_true ?_; conv => whnf) | (refine Both.lit_false ?_; conv => whnf) | (apply QStep.go; conv => whnf) | (refine Need.au ?_; conv => whnf) | (refine ⟨_, rfl, ?_⟩; conv => whnf)))
    exact ⟨_, _, WeakV.drop rfl, h⟩
  have n0 : (0 : Int) ≤ IntKind.i64.wrap ((k : Int) * (zn : Int)) ∧ IntKind.i64.wrap ((k : Int) * (zn : Int)) ≤ IntKind.i64.wrap (IntKind.i64.wrap ((k : Int) + 1) * (zn : Int)) ∧ IntKind.i64.wrap (IntKind.i64.wrap ((k : Int) + 1) * (zn : Int)) ≤ ((s.length : Nat) : Int) := by rw [hw1, hw2]; omega
  have h0 : (k + 1) * zn ≤ s.length := by omega
  have hk3 : k * 1 ≤ k * zn := Nat.mul_le_mul_left _ hz8
  obtain ⟨f, rfl⟩ : ∃ f', f = f' + 1 := ⟨f - 1, by omega⟩
  (conv => whnf)
  (repeat (first | (refine Need.mk n0 ?_; conv => whnf) | (exact Out.same; conv => whnf) | (exact Out1.same; conv => whnf) | (refine QAnd.mk ?_ ?_; conv => whnf) | (apply QStepH.go; conv => whnf) | (refine Both.lit_true ?_; conv => whnf) | (refine Both.lit_false ?_; conv => whnf) | (apply QStep.go; conv => whnf) | (refine Need.au ?_; conv => whnf) | (refine ⟨_, rfl, ?_⟩; conv => whnf)))
  simp only [hw1, hw2, chunk_cut]
  refine CallVC.auto fread_k ⟨by omega, ?_⟩
  intro p' e' hpe'
  rw [hpe] at hpe'
  obtain ⟨rfl, rfl⟩ := Prod.mk.inj hpe'
  (conv => whnf)
  (repeat (first | (exact Out.same; conv => whnf) | (exact Out1.same; conv => whnf) | (refine QAnd.mk ?_ ?_; conv => whnf) | (apply QStepH.go; conv => whnf) | (refine Both.lit_true ?_; conv => whnf) | (refine Both.lit_false ?_; conv => whnf) | (apply QStep.go; conv => whnf) | (refine Need.au ?_; conv => whnf) | (refine ⟨_, rfl, ?_⟩; conv => whnf)))
  refine Both.dec (fun hk0 => ?_) (fun hk0 => ?_)
  · have hk0 : k = 0 := by omega
    (conv => whnf)
    (repeat (first | (exact Out.same; conv => whnf) | (exact Out1.same; conv => whnf) | (refine QAnd.mk ?_ ?_; conv => whnf) | (apply QStepH.go; conv => whnf) | (refine Both.lit_true ?_; conv => whnf) | (refine Both.lit_false ?_; conv => whnf) | (apply QStep.go; conv => whnf) | (refine Need.au ?_; conv => whnf) | (refine ⟨_, rfl, ?_⟩; conv => whnf)))
    refine Both.dec_not (fun h1 => ?_) (fun h1 => ?_)
    · rw [hno (fun q => h1 q.2.1)] at h
      (conv => whnf)
      (repeat (first | (exact Out.same; conv => whnf) | (exact Out1.same; conv => whnf) | (refine QAnd.mk ?_ ?_; conv => whnf) | (apply QStepH.go; conv => whnf) | (refine Both.lit_true ?_; conv => whnf) | (refine Both.lit_false ?_; conv => whnf) | (apply QStep.go; conv => whnf) | (refine Need.au ?_; conv => whnf) | (refine ⟨_, rfl, ?_⟩; conv => whnf)))
      exact ⟨_, _, WeakV.drop rfl, h⟩
    (conv => whnf)
    (repeat (first | (exact Out.same; conv => whnf) | (exact Out1.same; conv => whnf) | (refine QAnd.mk ?_ ?_; conv => whnf) | (apply QStepH.go; conv => whnf) | (refine Both.lit_true ?_; conv => whnf) | (refine Both.lit_false ?_; conv => whnf) | (apply QStep.go; conv => whnf) | (refine Need.au ?_; conv => whnf) | (refine ⟨_, rfl, ?_⟩; conv => whnf)))
    refine Both.dec_not (fun h2 => ?_) (fun h2 => ?_)
    · rw [hno (fun q => h2 (congrArg Nat.cast (show p.g = gn from q.2.2.1)))] at h
      (conv => whnf)
      (repeat (first | (exact Out.same; conv => whnf) | (exact Out1.same; conv => whnf) | (refine QAnd.mk ?_ ?_; conv => whnf) | (apply QStepH.go; conv => whnf) | (refine Both.lit_true ?_; conv => whnf) | (refine Both.lit_false ?_; conv => whnf) | (apply QStep.go; conv => whnf) | (refine Need.au ?_; conv => whnf) | (refine ⟨_, rfl, ?_⟩; conv => whnf)))
      exact ⟨_, _, WeakV.drop rfl, h⟩
    (conv => whnf)
    (repeat (first | (exact Out.same; conv => whnf) | (exact Out1.same; conv => whnf) | (refine QAnd.mk ?_ ?_; conv => whnf) | (apply QStepH.go; conv => whnf) | (refine Both.lit_true ?_; conv => whnf) | (refine Both.lit_false ?_; conv => whnf) | (apply QStep.go; conv => whnf) | (refine Need.au ?_; conv => whnf) | (refine ⟨_, rfl, ?_⟩; conv => whnf)))
    refine Both.dec_not (fun h3 => ?_) (fun h3 => ?_)
    · rw [hno (fun q => h3 (congrArg Nat.cast (show p.sr = sn from q.2.2.2.1)))] at h
      (conv => whnf)
      (repeat (first | (exact Out.same; conv => whnf) | (exact Out1.same; conv => whnf) | (refine QAnd.mk ?_ ?_; conv => whnf) | (apply QStepH.go; conv => whnf) | (refine Both.lit_true ?_; conv => whnf) | (refine Both.lit_false ?_; conv => whnf) | (apply QStep.go; conv => whnf) | (refine Need.au ?_; conv => whnf) | (refine ⟨_, rfl, ?_⟩; conv => whnf)))
      exact ⟨_, _, WeakV.drop rfl, h⟩
    (conv => whnf)
    (repeat (first | (exact Out.same; conv => whnf) | (exact Out1.same; conv => whnf) | (refine QAnd.mk ?_ ?_; conv => whnf) | (apply QStepH.go; conv => whnf) | (refine Both.lit_true ?_; conv => whnf) | (refine Both.lit_false ?_; conv => whnf) | (apply QStep.go; conv => whnf) | (refine Need.au ?_; conv => whnf) | (refine ⟨_, rfl, ?_⟩; conv => whnf)))
    refine Both.dec_not (fun h4 => ?_) (fun h4 => ?_)
    · rw [hno (fun q => h4 (congrArg Nat.cast (show p.k = k from q.2.2.2.2.1)))] at h
      (conv => whnf)
      (repeat (first | (exact Out.same; conv => whnf) | (exact Out1.same; conv => whnf) | (refine QAnd.mk ?_ ?_; conv => whnf) | (apply QStepH.go; conv => whnf) | (refine Both.lit_true ?_; conv => whnf) | (refine Both.lit_false ?_; conv => whnf) | (apply QStep.go; conv => whnf) | (refine Need.au ?_; conv => whnf) | (refine ⟨_, rfl, ?_⟩; conv => whnf)))
      exact ⟨_, _, WeakV.drop rfl, h⟩
    (conv => whnf)
    (repeat (first | (exact Out.same; conv => whnf) | (exact Out1.same; conv => whnf) | (refine QAnd.mk ?_ ?_; conv => whnf) | (apply QStepH.go; conv => whnf) | (refine Both.lit_true ?_; conv => whnf) | (refine Both.lit_false ?_; conv => whnf) | (apply QStep.go; conv => whnf) | (refine Need.au ?_; conv => whnf) | (refine ⟨_, rfl, ?_⟩; conv => whnf)))
    have e5 : (!decide ((p.n : Int) = (p.n : Int))) = false := by simp
    (repeat (first | (refine Both.of_false e5 ?_; conv => whnf) | (refine Need.mk hcat ?_; conv => whnf) | (exact Out.same; conv => whnf) | (exact Out1.same; conv => whnf) | (refine QAnd.mk ?_ ?_; conv => whnf) | (apply QStepH.go; conv => whnf) | (refine Both.lit_true ?_; conv => whnf) | (refine Both.lit_false ?_; conv => whnf) | (apply QStep.go; conv => whnf) | (refine Need.au ?_; conv => whnf) | (refine ⟨_, rfl, ?_⟩; conv => whnf)))
    have h2 : p.g = gn := Int.ofNat.inj h2
    have h3 : p.sr = sn := Int.ofNat.inj h3
    have h4 : p.k = k := Int.ofNat.inj h4
    have hpk : p.k < p.n := hf6 h1
    have hok : stepOk zn gn sn s k n (readX (zn : Int) (chunk zn s k)) := by
      rw [hpe]
      exact ⟨h0, h1, h2, h3, h4, fun q => absurd q (by omega)⟩
    have hgo := recX_yes (f := f) (txt := txt) hok
    rw [hpe] at hgo
    have hgo : ans = if k + 1 = p.n then (txt ++ p.b, p.n) else recX zn gn sn s f (k + 1) p.n (txt ++ p.b) := hI.symm.trans hgo
    simp only [hpn]
    refine Both.dec (fun h6 => ?_) (fun h6 => ?_)
    · rw [hgo, if_pos (by omega)] at h
      (conv => whnf)
      (refine DrawVC.any Γok (by kernel_rfl) (by kernel_rfl) (by kernel_rfl) (by rfl) ?_; conv => whnf)
      (repeat (first | (exact Out.same; conv => whnf) | (exact Out1.same; conv => whnf) | (refine QAnd.mk ?_ ?_; conv => whnf) | (apply QStepH.go; conv => whnf) | (refine Both.lit_true ?_; conv => whnf) | (refine Both.lit_false ?_; conv => whnf) | (apply QStep.go; conv => whnf) | (refine Need.au ?_; conv => whnf) | (refine ⟨_, rfl, ?_⟩; conv => whnf)))
      exact ⟨_, _, WeakV.drop rfl, h⟩
    · rw [if_neg (by omega)] at hgo
      (conv => whnf)
      (repeat (first | (exact Out.same; conv => whnf) | (exact Out1.same; conv => whnf) | (refine QAnd.mk ?_ ?_; conv => whnf) | (apply QStepH.go; conv => whnf) | (refine Both.lit_true ?_; conv => whnf) | (refine Both.lit_false ?_; conv => whnf) | (apply QStep.go; conv => whnf) | (refine Need.au ?_; conv => whnf) | (refine ⟨_, rfl, ?_⟩; conv => whnf)))
      have hA : f + (k + 1) = s.length + 1 := by omega
      have hB : (txt ++ p.b).length ≤ (k + 1) * 512 := by rw [List.length_append]; omega
      refine ⟨(f, k + 1, p.n, txt ++ p.b), ⟨hgo.symm, hA, hB⟩, Nat.lt_succ_self f, Weak.auto ?_⟩
      (repeat' ((conv => whnf); first | exact True.intro | (refine And.intro ?_ ?_)))
      all_goals first | rfl | exact .eq rfl | exact congrArg (SV.int .i64) hwk
  · have hk0 : k ≠ 0 := by omega
    (conv => whnf)
    (repeat (first | (exact Out.same; conv => whnf) | (exact Out1.same; conv => whnf) | (refine QAnd.mk ?_ ?_; conv => whnf) | (apply QStepH.go; conv => whnf) | (refine Both.lit_true ?_; conv => whnf) | (refine Both.lit_false ?_; conv => whnf) | (apply QStep.go; conv => whnf) | (refine Need.au ?_; conv => whnf) | (refine ⟨_, rfl, ?_⟩; conv => whnf)))
    refine Both.dec_not (fun h1 => ?_) (fun h1 => ?_)
    · rw [hno (fun q => h1 q.2.1)] at h
      (conv => whnf)
      (repeat (first | (exact Out.same; conv => whnf) | (exact Out1.same; conv => whnf) | (refine QAnd.mk ?_ ?_; conv => whnf) | (apply QStepH.go; conv => whnf) | (refine Both.lit_true ?_; conv => whnf) | (refine Both.lit_false ?_; conv => whnf) | (apply QStep.go; conv => whnf) | (refine Need.au ?_; conv => whnf) | (refine ⟨_, rfl, ?_⟩; conv => whnf)))
      exact ⟨_, _, WeakV.drop rfl, h⟩
    (conv => whnf)
    (repeat (first | (exact Out.same; conv => whnf) | (exact Out1.same; conv => whnf) | (refine QAnd.mk ?_ ?_; conv => whnf) | (apply QStepH.go; conv => whnf) | (refine Both.lit_true ?_; conv => whnf) | (refine Both.lit_false ?_; conv => whnf) | (apply QStep.go; conv => whnf) | (refine Need.au ?_; conv => whnf) | (refine ⟨_, rfl, ?_⟩; conv => whnf)))
    refine Both.dec_not (fun h2 => ?_) (fun h2 => ?_)
    · rw [hno (fun q => h2 (congrArg Nat.cast (show p.g = gn from q.2.2.1)))] at h
      (conv => whnf)
      (repeat (first | (exact Out.same; conv => whnf) | (exact Out1.same; conv => whnf) | (refine QAnd.mk ?_ ?_; conv => whnf) | (apply QStepH.go; conv => whnf) | (refine Both.lit_true ?_; conv => whnf) | (refine Both.lit_false ?_; conv => whnf) | (apply QStep.go; conv => whnf) | (refine Need.au ?_; conv => whnf) | (refine ⟨_, rfl, ?_⟩; conv => whnf)))
      exact ⟨_, _, WeakV.drop rfl, h⟩
    (conv => whnf)
    (repeat (first | (exact Out.same; conv => whnf) | (exact Out1.same; conv => whnf) | (refine QAnd.mk ?_ ?_; conv => whnf) | (apply QStepH.go; conv => whnf) | (refine Both.lit_true ?_; conv => whnf) | (refine Both.lit_false ?_; conv => whnf) | (apply QStep.go; conv => whnf) | (refine Need.au ?_; conv => whnf) | (refine ⟨_, rfl, ?_⟩; conv => whnf)))
    refine Both.dec_not (fun h3 => ?_) (fun h3 => ?_)
    · rw [hno (fun q => h3 (congrArg Nat.cast (show p.sr = sn from q.2.2.2.1)))] at h
      (conv => whnf)
      (repeat (first | (exact Out.same; conv => whnf) | (exact Out1.same; conv => whnf) | (refine QAnd.mk ?_ ?_; conv => whnf) | (apply QStepH.go; conv => whnf) | (refine Both.lit_true ?_; conv => whnf) | (refine Both.lit_false ?_; conv => whnf) | (apply QStep.go; conv => whnf) | (refine Need.au ?_; conv => whnf) | (refine ⟨_, rfl, ?_⟩; conv => whnf)))
      exact ⟨_, _, WeakV.drop rfl, h⟩
    (conv => whnf)
    (repeat (first | (exact Out.same; conv => whnf) | (exact Out1.same; conv => whnf) | (refine QAnd.mk ?_ ?_; conv => whnf) | (apply QStepH.go; conv => whnf) | (refine Both.lit_true ?_; conv => whnf) | (refine Both.lit_false ?_; conv => whnf) | (apply QStep.go; conv => whnf) | (refine Need.au ?_; conv => whnf) | (refine ⟨_, rfl, ?_⟩; conv => whnf)))
    refine Both.dec_not (fun h4 => ?_) (fun h4 => ?_)
    · rw [hno (fun q => h4 (congrArg Nat.cast (show p.k = k from q.2.2.2.2.1)))] at h
      (conv => whnf)
      (repeat (first | (exact Out.same; conv => whnf) | (exact Out1.same; conv => whnf) | (refine QAnd.mk ?_ ?_; conv => whnf) | (apply QStepH.go; conv => whnf) | (refine Both.lit_true ?_; conv => whnf) | (refine Both.lit_false ?_; conv => whnf) | (apply QStep.go; conv => whnf) | (refine Need.au ?_; conv => whnf) | (refine ⟨_, rfl, ?_⟩; conv => whnf)))
      exact ⟨_, _, WeakV.drop rfl, h⟩
    (conv => whnf)
    (repeat (first | (exact Out.same; conv => whnf) | (exact Out1.same; conv => whnf) | (refine QAnd.mk ?_ ?_; conv => whnf) | (apply QStepH.go; conv => whnf) | (refine Both.lit_true ?_; conv => whnf) | (refine Both.lit_false ?_; conv => whnf) | (apply QStep.go; conv => whnf) | (refine Need.au ?_; conv => whnf) | (refine ⟨_, rfl, ?_⟩; conv => whnf)))
    refine Both.dec_not (fun h5 => ?_) (fun h5 => ?_)
    · rw [hno (fun q => h5 (congrArg Nat.cast (show p.n = n from q.2.2.2.2.2 (by omega))))] at h
      (conv => whnf)
      (repeat (first | (exact Out.same; conv => whnf) | (exact Out1.same; conv => whnf) | (refine QAnd.mk ?_ ?_; conv => whnf) | (apply QStepH.go; conv => whnf) | (refine Both.lit_true ?_; conv => whnf) | (refine Both.lit_false ?_; conv => whnf) | (apply QStep.go; conv => whnf) | (refine Need.au ?_; conv => whnf) | (refine ⟨_, rfl, ?_⟩; conv => whnf)))
      exact ⟨_, _, WeakV.drop rfl, h⟩
    have h5 : p.n = n := Int.ofNat.inj h5
    (conv => whnf)
    (repeat (first | (refine Need.mk hcat ?_; conv => whnf) | (exact Out.same; conv => whnf) | (exact Out1.same; conv => whnf) | (refine QAnd.mk ?_ ?_; conv => whnf) | (apply QStepH.go; conv => whnf) | (refine Both.lit_true ?_; conv => whnf) | (refine Both.lit_false ?_; conv => whnf) | (apply QStep.go; conv => whnf) | (refine Need.au ?_; conv => whnf) | (refine ⟨_, rfl, ?_⟩; conv => whnf)))
    have h2 : p.g = gn := Int.ofNat.inj h2
    have h3 : p.sr = sn := Int.ofNat.inj h3
    have h4 : p.k = k := Int.ofNat.inj h4
    have hpk : p.k < p.n := hf6 h1
    have hok : stepOk zn gn sn s k n (readX (zn : Int) (chunk zn s k)) := by
      rw [hpe]
      exact ⟨h0, h1, h2, h3, h4, fun _ => h5⟩
    have hgo := recX_yes (f := f) (txt := txt) hok
    rw [hpe] at hgo
    have hgo : ans = if k + 1 = p.n then (txt ++ p.b, p.n) else recX zn gn sn s f (k + 1) p.n (txt ++ p.b) := hI.symm.trans hgo
    simp only [hpn]
    refine Both.dec (fun h6 => ?_) (fun h6 => ?_)
    · rw [hgo, if_pos (by omega)] at h
      (conv => whnf)
      (refine DrawVC.any Γok (by kernel_rfl) (by kernel_rfl) (by kernel_rfl) (by rfl) ?_; conv => whnf)
      (repeat (first | (exact Out.same; conv => whnf) | (exact Out1.same; conv => whnf) | (refine QAnd.mk ?_ ?_; conv => whnf) | (apply QStepH.go; conv => whnf) | (refine Both.lit_true ?_; conv => whnf) | (refine Both.lit_false ?_; conv => whnf) | (apply QStep.go; conv => whnf) | (refine Need.au ?_; conv => whnf) | (refine ⟨_, rfl, ?_⟩; conv => whnf)))
      exact ⟨_, _, WeakV.drop rfl, h⟩
    · rw [if_neg (by omega)] at hgo
      (conv => whnf)
      (repeat (first | (exact Out.same; conv => whnf) | (exact Out1.same; conv => whnf) | (refine QAnd.mk ?_ ?_; conv => whnf) | (apply QStepH.go; conv => whnf) | (refine Both.lit_true ?_; conv => whnf) | (refine Both.lit_false ?_; conv => whnf) | (apply QStep.go; conv => whnf) | (refine Need.au ?_; conv => whnf) | (refine ⟨_, rfl, ?_⟩; conv => whnf)))
      have hA : f + (k + 1) = s.length + 1 := by omega
      have hB : (txt ++ p.b).length ≤ (k + 1) * 512 := by rw [List.length_append]; omega
      refine ⟨(f, k + 1, p.n, txt ++ p.b), ⟨hgo.symm, hA, hB⟩, Nat.lt_succ_self f, Weak.auto ?_⟩
      (repeat' ((conv => whnf); first | exact True.intro | (refine And.intro ?_ ?_)))
      all_goals first | rfl | exact .eq rfl | exact congrArg (SV.int .i64) hwk | exact congrArg (fun i : Nat => SV.int .i64 (i : Int)) h5.symm
theorem frec_k : Contract Tryz.prog [] 71 recS := ⟨⟨⟨_, rfl, rfl, rfl⟩⟩, frec_c⟩
end Go.LX
end
section
set_option maxRecDepth 100000
set_option maxHeartbeats 2000000
set_option autoImplicit false
set_option linter.unusedVariables false
set_option linter.unusedSimpArgs false
namespace Go.LX
open Go.Proofs

theorem recX_zero (z g sr : Nat) (s : Bz) (f n m : Nat) (txt : Bz) : recX z g sr s f 0 n txt = recX z g sr s f 0 m txt := by
  by_cases h : stepOk z g sr s 0 n (readX (z : Int) (chunk z s 0))
  · have h2 : stepOk z g sr s 0 m (readX (z : Int) (chunk z s 0)) := ⟨h.1, h.2.1, h.2.2.1, h.2.2.2.1, h.2.2.2.2.1, fun q => absurd q (by omega)⟩
    cases f with
    | zero => rfl
    | succ f => rw [recX_yes h, recX_yes h2]
  · have h2 : ¬ stepOk z g sr s 0 m (readX (z : Int) (chunk z s 0)) := fun h => by
      rename_i q
      exact q ⟨h.1, h.2.1, h.2.2.1, h.2.2.2.1, h.2.2.2.2.1, fun q => absurd q (by omega)⟩
    rw [recX_no h, recX_no h2]
theorem rrec_c : Meets Tryz.prog [] 123 recS := by
  refine meets_of Γok Tryz.func123 rfl ?_
  intro args H Q h
  unfold recS at h
  split at h
  case h_2 => exact h.elim
  rename_i z g sr s
  obtain ⟨zn, gn, sn, rfl, rfl, rfl, hz1, hz2, hl, h⟩ := h
  obtain ⟨ans, hans⟩ : ∃ ans, recA zn gn sn s = ans := ⟨_, rfl⟩
  have h := h ans.1 ans.2 hans
  have hz8 : (0 : Nat) < zn := by omega
  (refine sx_sound Γok _ ?_; conv => whnf)
  (repeat (first | (exact Out.same; conv => whnf) | (exact Out1.same; conv => whnf) | (refine QAnd.mk ?_ ?_; conv => whnf) | (apply QStepH.go; conv => whnf) | (refine Both.lit_true ?_; conv => whnf) | (refine Both.lit_false ?_; conv => whnf) | (apply QStep.go; conv => whnf) | (refine Need.au ?_; conv => whnf) | (refine ⟨_, rfl, ?_⟩; conv => whnf)))
  refine loop_rule (fun x : Nat × Nat × Nat × Bz => match x with | (f, k, n, txt) => ⟨[.int .i64 (zn : Int), .int .u64 (gn : Int), .int .u64 (sn : Int), .str s, .any, .any, .any, .any, .any, .any, .str txt, .int .i64 (n : Int), .int .i64 (k : Int), .any, .any, .any, .any, .any, .any, .any, .any, .any, .any, .any, .any, .any, .any, .any, .any, .any, .any, .any, .any, .any, .any, .any, .any, .any, .any, .any, .any, .any, .any, .any, .any, .any, .any, .any, .any, .any, .any, .any, .any, .any, .any, .any, .any, .any, .any, .any, .any, .any, .any, .any, .any, .any, .any, .any, .any, .any, .any, .any, .any, .any, .any, .any, .any, .any, .any], []⟩) (fun x => match x with | (f, k, n, txt) => (k < n → recX zn gn sn s f k n txt = ans) ∧ (k = n → ans = (txt, n)) ∧ k ≤ n ∧ n < 256 ∧ f + k = s.length + 1 ∧ txt.length ≤ k * 512) (fun x => match x with | (f, k, n, txt) => 256 - k) (s.length + 1, 0, 1, []) ⟨fun _ => (recX_zero zn gn sn s _ 1 0 []).trans hans, fun q => absurd q (by decide), by decide, by decide, rfl, Nat.zero_le _⟩ (Weak.auto ?_) ?_
  · (repeat' ((conv => whnf); first | exact True.intro | (refine And.intro ?_ ?_)))
    all_goals first | rfl | exact .eq rfl
  rintro ⟨f, k, n, txt⟩ ⟨hI, hE, hkn, hn, hfk, htl⟩
  (refine sx_sound Γok _ ?_; conv => whnf)
  (repeat (first | (exact Out.same; conv => whnf) | (exact Out1.same; conv => whnf) | (refine QAnd.mk ?_ ?_; conv => whnf) | (apply QStepH.go; conv => whnf) | (refine Both.lit_true ?_; conv => whnf) | (refine Both.lit_false ?_; conv => whnf) | (apply QStep.go; conv => whnf) | (refine Need.au ?_; conv => whnf) | (refine ⟨_, rfl, ?_⟩; conv => whnf)))
  refine Both.dec (fun hlt => ?_) (fun hge => ?_)
  case refine_2 =>
    rw [hE (by omega)] at h
    (conv => whnf)
    (repeat (first | (exact Out.same; conv => whnf) | (exact Out1.same; conv => whnf) | (refine QAnd.mk ?_ ?_; conv => whnf) | (apply QStepH.go; conv => whnf) | (refine Both.lit_true ?_; conv => whnf) | (refine Both.lit_false ?_; conv => whnf) | (apply QStep.go; conv => whnf) | (refine Need.au ?_; conv => whnf) | (refine ⟨_, rfl, ?_⟩; conv => whnf)))
    exact ⟨_, _, WeakV.drop rfl, h⟩
  have hI := hI (by omega)
  have hk1 : k * zn ≤ 100000001 * 512 := Nat.mul_le_mul (by omega) hz2
  have hk2 : (k + 1) * zn = k * zn + zn := by rw [Nat.add_mul, Nat.one_mul]
  have hwk : IntKind.i64.wrap ((k : Int) + 1) = ((k + 1 : Nat) : Int) := by rw [wrap_i64 (by omega) (by omega)]; rfl
  have hw1 : IntKind.i64.wrap (IntKind.i64.wrap ((k : Int) + 1) * (zn : Int)) = (((k + 1) * zn : Nat) : Int) := by rw [hwk, ← Int.natCast_mul, wrap_i64 (by omega) (by omega)]
  have hw2 : IntKind.i64.wrap ((k : Int) * (zn : Int)) = ((k * zn : Nat) : Int) := by rw [← Int.natCast_mul, wrap_i64 (by omega) (by omega)]
  obtain ⟨p, e, hpe⟩ : ∃ p e, readX (zn : Int) (chunk zn s k) = (p, e) := ⟨_, _, rfl⟩
  have hpf := readX_facts (z := (zn : Int)) (s := chunk zn s k)
  rw [hpe] at hpf
  obtain ⟨hf1, hf2, hf3, hf4, hf5, hf6, hf7⟩ := hpf
  have hf1 : p.g < 18446744073709551616 := hf1
  have hf3 : p.k < 256 := hf3
  have hf4 : p.n < 256 := hf4
  have hf5 : p.b.length ≤ 512 := hf5
  have hcl := chunk_len zn s k
  have hno : ¬ stepOk zn gn sn s k n (p, e) → ans = ([], 0) := fun q => by rw [← hI]; exact recX_no (by rw [hpe]; exact q)
  have hpn : IntKind.i64.wrap ((p.n : Int) - 1) = (p.n : Int) - 1 := wrap_i64 (by omega) (by omega)
  have hcat : txt.length + p.b.length ≤ 9223372036854775807 := by omega
  (conv => whnf)
  (repeat (first | (exact Out.same; conv => whnf) | (exact Out1.same; conv => whnf) | (refine QAnd.mk ?_ ?_; conv => whnf) | (apply QStepH.go; conv => whnf) | (refine Both.lit_true ?_; conv => whnf) | (refine Both.lit_false ?_; conv => whnf) | (apply QStep.go; conv => whnf) | (refine Need.au ?_; conv => whnf) | (refine ⟨_, rfl, ?_⟩; conv => whnf)))
  simp only [hw1]
  refine Both.dec (fun h0 => ?_) (fun h0 => ?_)
  · rw [hno (fun q => by have : (k + 1) * zn ≤ s.length := q.1; omega)] at h
    (conv => whnf)
    (repeat (first | (exact Out.same; conv => whnf) | (exact Out1.same; conv => whnf) | (refine QAnd.mk ?_ ?_; conv => whnf) | (apply QStepH.go; conv => whnf) | (refine Both.lit_true ?_; conv => whnf) | (refine Both.lit_false ?_; conv => whnf) | (apply QStep.go; conv => whnf) | (refine Need.au ?_; conv => whnf) | (refine ⟨_, rfl, ?_⟩; conv => whnf)))
    exact ⟨_, _, WeakV.drop rfl, h⟩
  have n0 : (0 : Int) ≤ IntKind.i64.wrap ((k : Int) * (zn : Int)) ∧ IntKind.i64.wrap ((k : Int) * (zn : Int)) ≤ IntKind.i64.wrap (IntKind.i64.wrap ((k : Int) + 1) * (zn : Int)) ∧ IntKind.i64.wrap (IntKind.i64.wrap ((k : Int) + 1) * (zn : Int)) ≤ ((s.length : Nat) : Int) := by rw [hw1, hw2]; omega
  have h0 : (k + 1) * zn ≤ s.length := by omega
  have hk3 : k * 1 ≤ k * zn := Nat.mul_le_mul_left _ hz8
  obtain ⟨f, rfl⟩ : ∃ f', f = f' + 1 := ⟨f - 1, by omega⟩
  (conv => whnf)
  (repeat (first | (refine Need.mk n0 ?_; conv => whnf) | (exact Out.same; conv => whnf) | (exact Out1.same; conv => whnf) | (refine QAnd.mk ?_ ?_; conv => whnf) | (apply QStepH.go; conv => whnf) | (refine Both.lit_true ?_; conv => whnf) | (refine Both.lit_false ?_; conv => whnf) | (apply QStep.go; conv => whnf) | (refine Need.au ?_; conv => whnf) | (refine ⟨_, rfl, ?_⟩; conv => whnf)))
  simp only [hw1, hw2, chunk_cut]
  refine CallVC.auto rread_k ⟨by omega, ?_⟩
  intro p' e' hpe'
  rw [hpe] at hpe'
  obtain ⟨rfl, rfl⟩ := Prod.mk.inj hpe'
  (conv => whnf)
  (repeat (first | (exact Out.same; conv => whnf) | (exact Out1.same; conv => whnf) | (refine QAnd.mk ?_ ?_; conv => whnf) | (apply QStepH.go; conv => whnf) | (refine Both.lit_true ?_; conv => whnf) | (refine Both.lit_false ?_; conv => whnf) | (apply QStep.go; conv => whnf) | (refine Need.au ?_; conv => whnf) | (refine ⟨_, rfl, ?_⟩; conv => whnf)))
  refine Both.dec_not (fun h1 => ?_) (fun h1 => ?_)
  · rw [hno (fun q => h1 q.2.1)] at h
    (conv => whnf)
    (repeat (first | (exact Out.same; conv => whnf) | (exact Out1.same; conv => whnf) | (refine QAnd.mk ?_ ?_; conv => whnf) | (apply QStepH.go; conv => whnf) | (refine Both.lit_true ?_; conv => whnf) | (refine Both.lit_false ?_; conv => whnf) | (apply QStep.go; conv => whnf) | (refine Need.au ?_; conv => whnf) | (refine ⟨_, rfl, ?_⟩; conv => whnf)))
    exact ⟨_, _, WeakV.drop rfl, h⟩
  (conv => whnf)
  (repeat (first | (exact Out.same; conv => whnf) | (exact Out1.same; conv => whnf) | (refine QAnd.mk ?_ ?_; conv => whnf) | (apply QStepH.go; conv => whnf) | (refine Both.lit_true ?_; conv => whnf) | (refine Both.lit_false ?_; conv => whnf) | (apply QStep.go; conv => whnf) | (refine Need.au ?_; conv => whnf) | (refine ⟨_, rfl, ?_⟩; conv => whnf)))
  refine Both.dec_not (fun h2 => ?_) (fun h2 => ?_)
  · rw [hno (fun q => h2 (congrArg Nat.cast (show p.g = gn from q.2.2.1)))] at h
    (conv => whnf)
    (repeat (first | (exact Out.same; conv => whnf) | (exact Out1.same; conv => whnf) | (refine QAnd.mk ?_ ?_; conv => whnf) | (apply QStepH.go; conv => whnf) | (refine Both.lit_true ?_; conv => whnf) | (refine Both.lit_false ?_; conv => whnf) | (apply QStep.go; conv => whnf) | (refine Need.au ?_; conv => whnf) | (refine ⟨_, rfl, ?_⟩; conv => whnf)))
    exact ⟨_, _, WeakV.drop rfl, h⟩
  (conv => whnf)
  (repeat (first | (exact Out.same; conv => whnf) | (exact Out1.same; conv => whnf) | (refine QAnd.mk ?_ ?_; conv => whnf) | (apply QStepH.go; conv => whnf) | (refine Both.lit_true ?_; conv => whnf) | (refine Both.lit_false ?_; conv => whnf) | (apply QStep.go; conv => whnf) | (refine Need.au ?_; conv => whnf) | (refine ⟨_, rfl, ?_⟩; conv => whnf)))
  refine Both.dec_not (fun h3 => ?_) (fun h3 => ?_)
  · rw [hno (fun q => h3 (congrArg Nat.cast (show p.sr = sn from q.2.2.2.1)))] at h
    (conv => whnf)
    (repeat (first | (exact Out.same; conv => whnf) | (exact Out1.same; conv => whnf) | (refine QAnd.mk ?_ ?_; conv => whnf) | (apply QStepH.go; conv => whnf) | (refine Both.lit_true ?_; conv => whnf) | (refine Both.lit_false ?_; conv => whnf) | (apply QStep.go; conv => whnf) | (refine Need.au ?_; conv => whnf) | (refine ⟨_, rfl, ?_⟩; conv => whnf)))
    exact ⟨_, _, WeakV.drop rfl, h⟩
  (conv => whnf)
  (repeat (first | (exact Out.same; conv => whnf) | (exact Out1.same; conv => whnf) | (refine QAnd.mk ?_ ?_; conv => whnf) | (apply QStepH.go; conv => whnf) | (refine Both.lit_true ?_; conv => whnf) | (refine Both.lit_false ?_; conv => whnf) | (apply QStep.go; conv => whnf) | (refine Need.au ?_; conv => whnf) | (refine ⟨_, rfl, ?_⟩; conv => whnf)))
  refine Both.dec_not (fun h4 => ?_) (fun h4 => ?_)
  · rw [hno (fun q => h4 (congrArg Nat.cast (show p.k = k from q.2.2.2.2.1)))] at h
    (conv => whnf)
    (repeat (first | (exact Out.same; conv => whnf) | (exact Out1.same; conv => whnf) | (refine QAnd.mk ?_ ?_; conv => whnf) | (apply QStepH.go; conv => whnf) | (refine Both.lit_true ?_; conv => whnf) | (refine Both.lit_false ?_; conv => whnf) | (apply QStep.go; conv => whnf) | (refine Need.au ?_; conv => whnf) | (refine ⟨_, rfl, ?_⟩; conv => whnf)))
    exact ⟨_, _, WeakV.drop rfl, h⟩
  (conv => whnf)
  (repeat (first | (exact Out.same; conv => whnf) | (exact Out1.same; conv => whnf) | (refine QAnd.mk ?_ ?_; conv => whnf) | (apply QStepH.go; conv => whnf) | (refine Both.lit_true ?_; conv => whnf) | (refine Both.lit_false ?_; conv => whnf) | (apply QStep.go; conv => whnf) | (refine Need.au ?_; conv => whnf) | (refine ⟨_, rfl, ?_⟩; conv => whnf)))
  refine Both.dec (fun hk0 => ?_) (fun hk0 => ?_)
  · have hk0 : k ≠ 0 := by omega
    (conv => whnf)
    (repeat (first | (exact Out.same; conv => whnf) | (exact Out1.same; conv => whnf) | (refine QAnd.mk ?_ ?_; conv => whnf) | (apply QStepH.go; conv => whnf) | (refine Both.lit_true ?_; conv => whnf) | (refine Both.lit_false ?_; conv => whnf) | (apply QStep.go; conv => whnf) | (refine Need.au ?_; conv => whnf) | (refine ⟨_, rfl, ?_⟩; conv => whnf)))
    refine Both.dec_not (fun h5 => ?_) (fun h5 => ?_)
    · rw [hno (fun q => h5 (congrArg Nat.cast (show p.n = n from q.2.2.2.2.2 (by omega))))] at h
      (conv => whnf)
      (repeat (first | (exact Out.same; conv => whnf) | (exact Out1.same; conv => whnf) | (refine QAnd.mk ?_ ?_; conv => whnf) | (apply QStepH.go; conv => whnf) | (refine Both.lit_true ?_; conv => whnf) | (refine Both.lit_false ?_; conv => whnf) | (apply QStep.go; conv => whnf) | (refine Need.au ?_; conv => whnf) | (refine ⟨_, rfl, ?_⟩; conv => whnf)))
      exact ⟨_, _, WeakV.drop rfl, h⟩
    have h5 : p.n = n := Int.ofNat.inj h5
    (conv => whnf)
    (repeat (first | (refine Need.mk hcat ?_; conv => whnf) | (exact Out.same; conv => whnf) | (exact Out1.same; conv => whnf) | (refine QAnd.mk ?_ ?_; conv => whnf) | (apply QStepH.go; conv => whnf) | (refine Both.lit_true ?_; conv => whnf) | (refine Both.lit_false ?_; conv => whnf) | (apply QStep.go; conv => whnf) | (refine Need.au ?_; conv => whnf) | (refine ⟨_, rfl, ?_⟩; conv => whnf)))
    have h2 : p.g = gn := Int.ofNat.inj h2
    have h3 : p.sr = sn := Int.ofNat.inj h3
    have h4 : p.k = k := Int.ofNat.inj h4
    have hpk : p.k < p.n := hf6 h1
    have hok : stepOk zn gn sn s k n (readX (zn : Int) (chunk zn s k)) := by
      rw [hpe]
      exact ⟨h0, h1, h2, h3, h4, fun _ => h5⟩
    have hgo := recX_yes (f := f) (txt := txt) hok
    rw [hpe] at hgo
    have hgo : ans = if k + 1 = p.n then (txt ++ p.b, p.n) else recX zn gn sn s f (k + 1) p.n (txt ++ p.b) := hI.symm.trans hgo
    have hA : f + (k + 1) = s.length + 1 := by omega
    have hB : (txt ++ p.b).length ≤ (k + 1) * 512 := by rw [List.length_append]; omega
    have hC : k + 1 < p.n → recX zn gn sn s f (k + 1) p.n (txt ++ p.b) = ans := fun q => by rw [hgo, if_neg (by omega)]
    have hD : k + 1 = p.n → ans = (txt ++ p.b, p.n) := fun q => by rw [hgo, if_pos q]
    have hF : k + 1 ≤ p.n := by omega
    have hG : 256 - (k + 1) < 256 - k := by omega
    refine ⟨(f, k + 1, p.n, txt ++ p.b), ⟨hC, hD, hF, hf4, hA, hB⟩, hG, Weak.auto ?_⟩
    (repeat' ((conv => whnf); first | exact True.intro | (refine And.intro ?_ ?_)))
    all_goals first | rfl | exact .eq rfl | exact congrArg (SV.int .i64) hwk
  · have hk0 : k = 0 := by omega
    (conv => whnf)
    (repeat (first | (refine Need.mk hcat ?_; conv => whnf) | (exact Out.same; conv => whnf) | (exact Out1.same; conv => whnf) | (refine QAnd.mk ?_ ?_; conv => whnf) | (apply QStepH.go; conv => whnf) | (refine Both.lit_true ?_; conv => whnf) | (refine Both.lit_false ?_; conv => whnf) | (apply QStep.go; conv => whnf) | (refine Need.au ?_; conv => whnf) | (refine ⟨_, rfl, ?_⟩; conv => whnf)))
    have h2 : p.g = gn := Int.ofNat.inj h2
    have h3 : p.sr = sn := Int.ofNat.inj h3
    have h4 : p.k = k := Int.ofNat.inj h4
    have hpk : p.k < p.n := hf6 h1
    have hok : stepOk zn gn sn s k n (readX (zn : Int) (chunk zn s k)) := by
      rw [hpe]
      exact ⟨h0, h1, h2, h3, h4, fun q => absurd q (by omega)⟩
    have hgo := recX_yes (f := f) (txt := txt) hok
    rw [hpe] at hgo
    have hgo : ans = if k + 1 = p.n then (txt ++ p.b, p.n) else recX zn gn sn s f (k + 1) p.n (txt ++ p.b) := hI.symm.trans hgo
    have hA : f + (k + 1) = s.length + 1 := by omega
    have hB : (txt ++ p.b).length ≤ (k + 1) * 512 := by rw [List.length_append]; omega
    have hC : k + 1 < p.n → recX zn gn sn s f (k + 1) p.n (txt ++ p.b) = ans := fun q => by rw [hgo, if_neg (by omega)]
    have hD : k + 1 = p.n → ans = (txt ++ p.b, p.n) := fun q => by rw [hgo, if_pos q]
    have hF : k + 1 ≤ p.n := by omega
    have hG : 256 - (k + 1) < 256 - k := by omega
    refine ⟨(f, k + 1, p.n, txt ++ p.b), ⟨hC, hD, hF, hf4, hA, hB⟩, hG, Weak.auto ?_⟩
    (repeat' ((conv => whnf); first | exact True.intro | (refine And.intro ?_ ?_)))
    all_goals first | rfl | exact .eq rfl | exact congrArg (SV.int .i64) hwk
theorem rrec_k : Contract Tryz.prog [] 123 recS := ⟨⟨⟨_, rfl, rfl, rfl⟩⟩, rrec_c⟩
end Go.LX
end
section
set_option maxRecDepth 100000
set_option maxHeartbeats 2000000
set_option autoImplicit false
set_option linter.unusedVariables false
set_option linter.unusedSimpArgs false
namespace Go.LX
open Go.Proofs

def scanS : Spec := fun args H Q => match args, H with
  | [.int .i64 z, .int .u64 g, .str s], [] => ∃ gn : Nat, g = gn ∧ gn < 18446744073709551616 ∧ s.length ≤ 100000000 ∧ (rightN z = false → Q (.tuple [.nilsl, .int .i64 0]) []) ∧
    (rightN z = true → ∀ l : List Bz, ∀ n : Nat, scanA z.toNat gn s = (l, n) → Q (.tuple [.own 0, .int .i64 (n : Int)]) [.own 9 1 l.length (strL l) true])
  | _, _ => False
theorem drop_cut (s : Bz) (u : Nat) : List.drop ((u : Nat) : Int).toNat (List.take ((s.length : Nat) : Int).toNat s) = s.drop u := by
  rw [Int.toNat_natCast, Int.toNat_natCast, List.take_length]
theorem fscan_c : Meets Tryz.prog [] 46 scanS := by
  refine meets_of Γok Tryz.func46 rfl ?_
  intro args H Q h
  unfold scanS at h
  split at h
  case h_2 => exact h.elim
  rename_i z g s
  obtain ⟨gn, rfl, hg, hl, hbad, hgood⟩ := h
  by_cases hr : rightN z = false
  · have h := hbad hr
    have h1 : (!rightN z) = true := by rw [hr]; rfl
    (refine sx_sound Γok _ ?_; conv => whnf)
    (repeat (first | (refine Both.of_true h1 ?_; conv => whnf) | (exact Out.same; conv => whnf) | (exact Out1.same; conv => whnf) | (refine QAnd.mk ?_ ?_; conv => whnf) | (apply QStepH.go; conv => whnf) | (refine Both.lit_true ?_; conv => whnf) | (refine Both.lit_false ?_; conv => whnf) | (apply QStep.go; conv => whnf) | (refine Need.au ?_; conv => whnf) | (refine ⟨_, rfl, ?_⟩; conv => whnf) | (refine CallVC.auto fright_k ?_; conv => whnf)))
    exact ⟨_, _, WeakV.drop rfl, h⟩
  have hr : rightN z = true := by simpa using hr
  have h1 : (!rightN z) = false := by rw [hr]; rfl
  have hrz : 64 ≤ z ∧ z ≤ 512 := of_decide_eq_true hr
  obtain ⟨zn, rfl⟩ := Int.eq_ofNat_of_zero_le (show 0 ≤ z by omega)
  obtain ⟨ans, hans⟩ : ∃ ans, scanA zn gn s = ans := ⟨_, rfl⟩
  have h := hgood hr ans.1 ans.2 (by rw [Int.toNat_natCast]; exact hans)
  clear hbad hgood
  have hz8 : 64 ≤ zn ∧ zn ≤ 512 := by omega
  (refine sx_sound Γok _ ?_; conv => whnf)
  (repeat (first | (refine Both.of_false h1 ?_; conv => whnf) | (exact Out.same; conv => whnf) | (exact Out1.same; conv => whnf) | (refine QAnd.mk ?_ ?_; conv => whnf) | (apply QStepH.go; conv => whnf) | (refine Both.lit_true ?_; conv => whnf) | (refine Both.lit_false ?_; conv => whnf) | (apply QStep.go; conv => whnf) | (refine Need.au ?_; conv => whnf) | (refine ⟨_, rfl, ?_⟩; conv => whnf) | (refine CallVC.auto fright_k ?_; conv => whnf)))
  refine loop_rule (fun x : Nat × Nat × List Bz => match x with | (f, u, out) => ⟨[.int .i64 (zn : Int), .int .u64 (gn : Int), .str s, .any, .any, .any, .any, .any, .own 0, .int .i64 (u : Int), .int .u64 ((out.length : Nat) : Int), .any, .any, .any, .any, .any, .any, .any, .any, .any, .any, .any, .any, .any, .any, .any, .any, .any, .any, .any, .any, .any, .any, .any, .any, .any, .any, .any, .any, .any, .any], [.own 9 1 out.length (strL out) true]⟩) (fun x => match x with | (f, u, out) => scanX zn gn s f u out = ans ∧ s.length < f + u ∧ u * zn ≤ s.length ∧ out.length ≤ u) (fun x => match x with | (f, u, out) => f) (s.length + 1, 0, []) ⟨hans, Nat.lt_succ_self _, by rw [Nat.zero_mul]; exact Nat.zero_le _, Nat.le_refl _⟩ ((Weak.ownNilT 8 9 1 rfl).trans (Weak.auto ?_)) ?_
  · (repeat' ((conv => whnf); first | exact True.intro | (refine And.intro ?_ ?_)))
    all_goals first | rfl | exact .eq rfl
  rintro ⟨f, u, out⟩ ⟨hI, hfu, huz, hou⟩
  have huu : u * 1 ≤ u * zn := Nat.mul_le_mul_left _ (by omega)
  have hw : IntKind.i64.wrap ((u : Int) * (zn : Int)) = ((u * zn : Nat) : Int) := by rw [← Int.natCast_mul, wrap_i64 (by omega) (by omega)]
  have n0 : (0 : Int) ≤ IntKind.i64.wrap ((u : Int) * (zn : Int)) ∧ IntKind.i64.wrap ((u : Int) * (zn : Int)) ≤ ((s.length : Nat) : Int) := by rw [hw]; omega
  have hser : IntKind.u64.wrap ((out.length : Nat) : Int) = ((out.length : Nat) : Int) := wrap_u64 (by omega) (by omega)
  have hcap : (out.length + 1) * ti9.bytes ≤ 140737488355328 := by
    show (out.length + 1) * 16 ≤ _
    omega
  have hdl : (s.drop (u * zn)).length ≤ 100000000 := by rw [List.length_drop]; omega
  (refine sx_sound Γok _ ?_; conv => whnf)
  (repeat (first | (refine Need.mk n0 ?_; conv => whnf) | (exact Out.same; conv => whnf) | (exact Out1.same; conv => whnf) | (refine QAnd.mk ?_ ?_; conv => whnf) | (apply QStepH.go; conv => whnf) | (refine Both.lit_true ?_; conv => whnf) | (refine Both.lit_false ?_; conv => whnf) | (apply QStep.go; conv => whnf) | (refine Need.au ?_; conv => whnf) | (refine ⟨_, rfl, ?_⟩; conv => whnf)))
  simp only [hw, drop_cut]
  refine CallVC.auto frec_k ⟨zn, gn, out.length, rfl, rfl, rfl, hz8.1, hz8.2, hdl, ?_⟩
  intro t n htn
  (conv => whnf)
  (repeat (first | (exact Out.same; conv => whnf) | (exact Out1.same; conv => whnf) | (refine QAnd.mk ?_ ?_; conv => whnf) | (apply QStepH.go; conv => whnf) | (refine Both.lit_true ?_; conv => whnf) | (refine Both.lit_false ?_; conv => whnf) | (apply QStep.go; conv => whnf) | (refine Need.au ?_; conv => whnf) | (refine ⟨_, rfl, ?_⟩; conv => whnf)))
  refine Both.dec (fun h2 => ?_) (fun h2 => ?_)
  · have hstop : ans = (out, u) := by
      rw [← hI]
      exact scanX_stop (by rw [htn]; show n = 0; omega) f
    rw [hstop] at h
    (conv => whnf)
    (repeat (first | (exact Out.same; conv => whnf) | (exact Out1.same; conv => whnf) | (refine QAnd.mk ?_ ?_; conv => whnf) | (apply QStepH.go; conv => whnf) | (refine Both.lit_true ?_; conv => whnf) | (refine Both.lit_false ?_; conv => whnf) | (apply QStep.go; conv => whnf) | (refine Need.au ?_; conv => whnf) | (refine ⟨_, rfl, ?_⟩; conv => whnf)))
    refine ⟨_, _, WeakV.auto ?_, h⟩
    (repeat' ((conv => whnf); first | exact True.intro | (refine And.intro ?_ ?_)))
    all_goals first | rfl | exact .eq rfl
  · have hn0 : n ≠ 0 := by omega
    obtain ⟨f, rfl⟩ : ∃ f', f = f' + 1 := ⟨f - 1, by omega⟩
    have hgo := scanX_go (z := zn) (g := gn) (T := s) (used := u) (out := out) (f := f) (by rw [htn]; exact hn0)
    rw [htn] at hgo
    have hgo : scanX zn gn s f (u + n) (out ++ [t]) = ans := hgo.symm.trans hI
    have hroom := recA_room zn gn out.length (s.drop (u * zn)) (by rw [htn]; exact hn0)
    rw [htn, List.length_drop] at hroom
    have hroom : n * zn ≤ s.length - u * zn := hroom
    have hA : s.length < f + (u + n) := by omega
    have hB : (u + n) * zn ≤ s.length := by rw [Nat.add_mul]; omega
    have hC : (out ++ [t]).length ≤ u + n := by rw [List.length_append, List.length_singleton]; omega
    have huu2 : (u + n) * 1 ≤ (u + n) * zn := Nat.mul_le_mul_left _ (by omega)
    have hwn : IntKind.i64.wrap ((u : Int) + (n : Int)) = ((u + n : Nat) : Int) := by rw [wrap_i64 (by omega) (by omega)]; rfl
    have hws : IntKind.u64.wrap (((out.length : Nat) : Int) + 1) = (((out ++ [t]).length : Nat) : Int) := by rw [wrap_u64 (by omega) (by omega), List.length_append]; rfl
    have end1 : strL out ++ [CV.str t] = strL (out ++ [t]) := by simp [strL]
    have end2 : LObj.own 9 1 (out.length + 1) (strL out ++ [CV.str t]) true = .own 9 1 (out ++ [t]).length (strL (out ++ [t])) true := by rw [end1, List.length_append]; rfl
    (conv => whnf)
    (repeat (first | (refine Need.mk hcap ?_; conv => whnf) | (exact Out.same; conv => whnf) | (exact Out1.same; conv => whnf) | (refine QAnd.mk ?_ ?_; conv => whnf) | (apply QStepH.go; conv => whnf) | (refine Both.lit_true ?_; conv => whnf) | (refine Both.lit_false ?_; conv => whnf) | (apply QStep.go; conv => whnf) | (refine Need.au ?_; conv => whnf) | (refine ⟨_, rfl, ?_⟩; conv => whnf)))
    refine ⟨(f, u + n, out ++ [t]), ⟨hgo, hA, hB, hC⟩, Nat.lt_succ_self f, Weak.auto ?_⟩
    (repeat' ((conv => whnf); first | exact True.intro | (refine And.intro ?_ ?_)))
    all_goals first | rfl | exact .eq rfl | exact congrArg (SV.int .i64) hwn | exact congrArg (SV.int .u64) hws | exact end2
theorem fscan_k : Contract Tryz.prog [] 46 scanS := ⟨⟨⟨_, rfl, rfl, rfl⟩⟩, fscan_c⟩
theorem rscan_c : Meets Tryz.prog [] 109 scanS := by
  refine meets_of Γok Tryz.func109 rfl ?_
  intro args H Q h
  unfold scanS at h
  split at h
  case h_2 => exact h.elim
  rename_i z g s
  obtain ⟨gn, rfl, hg, hl, hbad, hgood⟩ := h
  by_cases hr : rightN z = false
  · have h := hbad hr
    have h1 : (!rightN z) = true := by rw [hr]; rfl
    (refine sx_sound Γok _ ?_; conv => whnf)
    (repeat (first | (refine Both.of_true h1 ?_; conv => whnf) | (exact Out.same; conv => whnf) | (exact Out1.same; conv => whnf) | (refine QAnd.mk ?_ ?_; conv => whnf) | (apply QStepH.go; conv => whnf) | (refine Both.lit_true ?_; conv => whnf) | (refine Both.lit_false ?_; conv => whnf) | (apply QStep.go; conv => whnf) | (refine Need.au ?_; conv => whnf) | (refine ⟨_, rfl, ?_⟩; conv => whnf) | (refine CallVC.auto fright2_k ?_; conv => whnf)))
    exact ⟨_, _, WeakV.drop rfl, h⟩
  have hr : rightN z = true := by simpa using hr
  have h1 : (!rightN z) = false := by rw [hr]; rfl
  have hrz : 64 ≤ z ∧ z ≤ 512 := of_decide_eq_true hr
  obtain ⟨zn, rfl⟩ := Int.eq_ofNat_of_zero_le (show 0 ≤ z by omega)
  obtain ⟨ans, hans⟩ : ∃ ans, scanA zn gn s = ans := ⟨_, rfl⟩
  have h := hgood hr ans.1 ans.2 (by rw [Int.toNat_natCast]; exact hans)
  clear hbad hgood
  have hz8 : 64 ≤ zn ∧ zn ≤ 512 := by omega
  (refine sx_sound Γok _ ?_; conv => whnf)
  (repeat (first | (refine Both.of_false h1 ?_; conv => whnf) | (exact Out.same; conv => whnf) | (exact Out1.same; conv => whnf) | (refine QAnd.mk ?_ ?_; conv => whnf) | (apply QStepH.go; conv => whnf) | (refine Both.lit_true ?_; conv => whnf) | (refine Both.lit_false ?_; conv => whnf) | (apply QStep.go; conv => whnf) | (refine Need.au ?_; conv => whnf) | (refine ⟨_, rfl, ?_⟩; conv => whnf) | (refine CallVC.auto fright2_k ?_; conv => whnf)))
  refine loop_rule (fun x : Nat × Nat × List Bz => match x with | (f, u, out) => ⟨[.int .i64 (zn : Int), .int .u64 (gn : Int), .str s, .any, .any, .any, .any, .any, .own 0, .int .i64 (u : Int), .any, .any, .any, .any, .any, .any, .any, .any, .any, .any, .any, .any, .any, .any, .any, .any, .any, .any, .any, .any, .any, .any, .any, .any, .any, .any, .any, .any, .any, .any], [.own 9 1 out.length (strL out) true]⟩) (fun x => match x with | (f, u, out) => scanX zn gn s f u out = ans ∧ s.length < f + u ∧ u * zn ≤ s.length ∧ out.length ≤ u) (fun x => match x with | (f, u, out) => f) (s.length + 1, 0, []) ⟨hans, Nat.lt_succ_self _, by rw [Nat.zero_mul]; exact Nat.zero_le _, Nat.le_refl _⟩ ((Weak.ownNilT 8 9 1 rfl).trans (Weak.auto ?_)) ?_
  · (repeat' ((conv => whnf); first | exact True.intro | (refine And.intro ?_ ?_)))
    all_goals first | rfl | exact .eq rfl
  rintro ⟨f, u, out⟩ ⟨hI, hfu, huz, hou⟩
  have huu : u * 1 ≤ u * zn := Nat.mul_le_mul_left _ (by omega)
  have hw : IntKind.i64.wrap ((u : Int) * (zn : Int)) = ((u * zn : Nat) : Int) := by rw [← Int.natCast_mul, wrap_i64 (by omega) (by omega)]
  have n0 : (0 : Int) ≤ IntKind.i64.wrap ((u : Int) * (zn : Int)) ∧ IntKind.i64.wrap ((u : Int) * (zn : Int)) ≤ ((s.length : Nat) : Int) := by rw [hw]; omega
  have hser : IntKind.u64.wrap ((out.length : Nat) : Int) = ((out.length : Nat) : Int) := wrap_u64 (by omega) (by omega)
  have hcap : (out.length + 1) * ti9.bytes ≤ 140737488355328 := by
    show (out.length + 1) * 16 ≤ _
    omega
  have hdl : (s.drop (u * zn)).length ≤ 100000000 := by rw [List.length_drop]; omega
  (refine sx_sound Γok _ ?_; conv => whnf)
  (repeat (first | (refine Need.mk n0 ?_; conv => whnf) | (exact Out.same; conv => whnf) | (exact Out1.same; conv => whnf) | (refine QAnd.mk ?_ ?_; conv => whnf) | (apply QStepH.go; conv => whnf) | (refine Both.lit_true ?_; conv => whnf) | (refine Both.lit_false ?_; conv => whnf) | (apply QStep.go; conv => whnf) | (refine Need.au ?_; conv => whnf) | (refine ⟨_, rfl, ?_⟩; conv => whnf)))
  simp only [hw, drop_cut]
  refine CallVC.auto rrec_k ⟨zn, gn, out.length, rfl, rfl, hser, hz8.1, hz8.2, hdl, ?_⟩
  intro t n htn
  (conv => whnf)
  (repeat (first | (exact Out.same; conv => whnf) | (exact Out1.same; conv => whnf) | (refine QAnd.mk ?_ ?_; conv => whnf) | (apply QStepH.go; conv => whnf) | (refine Both.lit_true ?_; conv => whnf) | (refine Both.lit_false ?_; conv => whnf) | (apply QStep.go; conv => whnf) | (refine Need.au ?_; conv => whnf) | (refine ⟨_, rfl, ?_⟩; conv => whnf)))
  refine Both.dec (fun h2 => ?_) (fun h2 => ?_)
  · have hstop : ans = (out, u) := by
      rw [← hI]
      exact scanX_stop (by rw [htn]; show n = 0; omega) f
    rw [hstop] at h
    (conv => whnf)
    (repeat (first | (exact Out.same; conv => whnf) | (exact Out1.same; conv => whnf) | (refine QAnd.mk ?_ ?_; conv => whnf) | (apply QStepH.go; conv => whnf) | (refine Both.lit_true ?_; conv => whnf) | (refine Both.lit_false ?_; conv => whnf) | (apply QStep.go; conv => whnf) | (refine Need.au ?_; conv => whnf) | (refine ⟨_, rfl, ?_⟩; conv => whnf)))
    refine ⟨_, _, WeakV.auto ?_, h⟩
    (repeat' ((conv => whnf); first | exact True.intro | (refine And.intro ?_ ?_)))
    all_goals first | rfl | exact .eq rfl
  · have hn0 : n ≠ 0 := by omega
    obtain ⟨f, rfl⟩ : ∃ f', f = f' + 1 := ⟨f - 1, by omega⟩
    have hgo := scanX_go (z := zn) (g := gn) (T := s) (used := u) (out := out) (f := f) (by rw [htn]; exact hn0)
    rw [htn] at hgo
    have hgo : scanX zn gn s f (u + n) (out ++ [t]) = ans := hgo.symm.trans hI
    have hroom := recA_room zn gn out.length (s.drop (u * zn)) (by rw [htn]; exact hn0)
    rw [htn, List.length_drop] at hroom
    have hroom : n * zn ≤ s.length - u * zn := hroom
    have hA : s.length < f + (u + n) := by omega
    have hB : (u + n) * zn ≤ s.length := by rw [Nat.add_mul]; omega
    have hC : (out ++ [t]).length ≤ u + n := by rw [List.length_append, List.length_singleton]; omega
    have huu2 : (u + n) * 1 ≤ (u + n) * zn := Nat.mul_le_mul_left _ (by omega)
    have hwn : IntKind.i64.wrap ((u : Int) + (n : Int)) = ((u + n : Nat) : Int) := by rw [wrap_i64 (by omega) (by omega)]; rfl
    have hws : IntKind.u64.wrap (((out.length : Nat) : Int) + 1) = (((out ++ [t]).length : Nat) : Int) := by rw [wrap_u64 (by omega) (by omega), List.length_append]; rfl
    have end1 : strL out ++ [CV.str t] = strL (out ++ [t]) := by simp [strL]
    have end2 : LObj.own 9 1 (out.length + 1) (strL out ++ [CV.str t]) true = .own 9 1 (out ++ [t]).length (strL (out ++ [t])) true := by rw [end1, List.length_append]; rfl
    (conv => whnf)
    (repeat (first | (refine Need.mk hcap ?_; conv => whnf) | (exact Out.same; conv => whnf) | (exact Out1.same; conv => whnf) | (refine QAnd.mk ?_ ?_; conv => whnf) | (apply QStepH.go; conv => whnf) | (refine Both.lit_true ?_; conv => whnf) | (refine Both.lit_false ?_; conv => whnf) | (apply QStep.go; conv => whnf) | (refine Need.au ?_; conv => whnf) | (refine ⟨_, rfl, ?_⟩; conv => whnf)))
    refine ⟨(f, u + n, out ++ [t]), ⟨hgo, hA, hB, hC⟩, Nat.lt_succ_self f, Weak.auto ?_⟩
    (repeat' ((conv => whnf); first | exact True.intro | (refine And.intro ?_ ?_)))
    all_goals first | rfl | exact .eq rfl | exact congrArg (SV.int .i64) hwn | exact congrArg (SV.int .u64) hws | exact end2
theorem rscan_k : Contract Tryz.prog [] 109 scanS := ⟨⟨⟨_, rfl, rfl, rfl⟩⟩, rscan_c⟩
end Go.LX
end
section
set_option maxRecDepth 100000
set_option maxHeartbeats 2000000
set_option autoImplicit false
set_option linter.unusedVariables false
set_option linter.unusedSimpArgs false
namespace Go.LX
open Go.Proofs

def scanES : Spec := fun args H Q => match args, H with
  | [.int .i64 z, .int .u64 g, .str s], [] => ∃ (zn gn : Nat) (l : List Bz) (n : Nat), z = zn ∧ g = gn ∧ gn < 18446744073709551616 ∧ s.length ≤ 100000000 ∧ rightN z = true ∧ scanA zn gn s = (l, n) ∧ Q (.tuple [.sl 1 l.length (l.map CV.str) false, .int .i64 (n : Int)]) []
  | _, _ => False
theorem scan_post {f : FuncId} (hc : Contract Tryz.prog [] f scanS) : Contract Tryz.prog [] f scanES := hc.post fun args H Q h => by
  unfold scanES at h
  split at h
  case h_2 => exact h.elim
  rename_i z g s
  obtain ⟨zn, gn, l, n, rfl, rfl, h1, h2, h3, h4, h⟩ := h
  refine ⟨gn, rfl, h1, h2, fun q => absurd (h3.symm.trans q) (by decide), fun _ l2 n2 h5 => ?_⟩
  rw [Int.toNat_natCast] at h5
  obtain ⟨rfl, rfl⟩ := Prod.mk.inj (h5.symm.trans h4)
  exact ⟨_, _, (WeakV.pubTup (e := 9) (sz := 1) (n := l2.length) (xs := strL l2) (wr := true) 0 rfl).trans (WeakV.drop rfl), h⟩
theorem fscanE_k : Contract Tryz.prog [] 46 scanES := scan_post fscan_k
theorem rscanE_k : Contract Tryz.prog [] 109 scanES := scan_post rscan_k
def recsS : Spec := fun args H Q => match args with
  | [.ptr 0 0, .agg [.int .u64 g, .int .i64 sg]] => rIn H fun D => ∃ (gn : Nat) (l : List Bz) (n : Nat), g = gn ∧ gn < 18446744073709551616 ∧ 2 ≤ D.sc ∧ scanA D.sz gn (readV D (baseV D sg) (segV D)) = (l, n) ∧ Q (.tuple [.sl 1 l.length (l.map CV.str) false, .int .i64 (n : Int)]) (rB D)
  | _ => False
theorem recs_c : Meets Tryz.prog [] 85 recsS := by
  refine meets_of Γok Tryz.func85 rfl ?_
  intro args H Q h
  unfold recsS at h
  split at h
  case h_2 => exact h.elim
  rename_i g sg
  obtain ⟨D, rfl, ho, gn, l, n, rfl, hg, h2, hsc, h⟩ := rIn_out h
  have hs := ho.sc
  have hsz := ho.sz
  have hv : segV D ≤ 2047 := by unfold segV; omega
  have hbv : 2 ≤ baseV D sg ∧ baseV D sg ≤ 2 + ((segV D : Nat) : Int) := by unfold baseV; split <;> omega
  have hr : rightN (D.sz : Int) = true := decide_eq_true (by omega)
  (refine sx_sound Γok _ ?_; conv => whnf)
  (repeat (first | (exact Out.same; conv => whnf) | (exact Out1.same; conv => whnf) | (refine QAnd.mk ?_ ?_; conv => whnf) | (apply QStepH.go; conv => whnf) | (refine Both.lit_true ?_; conv => whnf) | (refine Both.lit_false ?_; conv => whnf) | (apply QStep.go; conv => whnf) | (refine Need.au ?_; conv => whnf) | (refine ⟨_, rfl, ?_⟩; conv => whnf)))
  refine loop_rule (fun k : Nat => ⟨[.ptr 0 0, .any, .any, .ptr 2 0, .any, .any, .str (readV D (baseV D sg) k), .int .i64 (k : Int), .any, .any, .any, .any, .any, .any, .any, .any, .any, .any, .any, .any, .any, .any, .any, .any, .any, .any, .any, .any, .any, .any, .any, .any, .any, .any, .any, .any, .any, .any, .any], rB D ++ [.cells [.int .u64 (gn : Int), .int .i64 sg] 61]⟩) (fun k => k ≤ segV D) (fun k => segV D - k) 0 (Nat.zero_le _) (Weak.auto ?_) ?_
  · (repeat' ((conv => whnf); first | exact True.intro | (refine And.intro ?_ ?_)))
    all_goals first | rfl | exact .eq rfl
  intro k hk
  have hlen := readV_len ho (baseV D sg) k
  (refine sx_sound Γok _ ?_; conv => whnf)
  (repeat (first | (refine CallVC.auto rseg_k (rIn_mk ho ⟨h2, ?_⟩); conv => whnf) | (exact Out.same; conv => whnf) | (exact Out1.same; conv => whnf) | (refine QAnd.mk ?_ ?_; conv => whnf) | (apply QStepH.go; conv => whnf) | (refine Both.lit_true ?_; conv => whnf) | (refine Both.lit_false ?_; conv => whnf) | (apply QStep.go; conv => whnf) | (refine Need.au ?_; conv => whnf) | (refine ⟨_, rfl, ?_⟩; conv => whnf)))
  refine Both.dec (fun hlt => ?_) (fun hge => ?_)
  · have hwn : IntKind.i64.wrap (baseV D sg + (k : Int)) = baseV D sg + (k : Int) := wrap_i64 (by omega) (by omega)
    have hwr : IntKind.i64.wrap ((k : Int) + 1) = ((k + 1 : Nat) : Int) := by rw [wrap_i64 (by omega) (by omega)]; rfl
    have hrl := rd_len ho (baseV D sg + (k : Int))
    have hsu := readV_succ D (baseV D sg) k
    (conv => whnf)
    (repeat (first | (refine CallVC.auto rbase_k (rIn_mk ho ⟨h2, ?_⟩); conv => whnf) | (exact Out.same; conv => whnf) | (exact Out1.same; conv => whnf) | (refine QAnd.mk ?_ ?_; conv => whnf) | (apply QStepH.go; conv => whnf) | (refine Both.lit_true ?_; conv => whnf) | (refine Both.lit_false ?_; conv => whnf) | (apply QStep.go; conv => whnf) | (refine Need.au ?_; conv => whnf) | (refine ⟨_, rfl, ?_⟩; conv => whnf)))
    refine CallVC.auto d4rread_k (rIn_mk ho fun t e he => ?_)
    rw [hwn] at he
    have ht : t = (D.rd (baseV D sg + (k : Int))).1 := congrArg Prod.fst he
    rw [← ht] at hsu hrl
    have hcat : (readV D (baseV D sg) k).length + t.length ≤ 9223372036854775807 := by omega
    (conv => whnf)
    (repeat (first | (refine Need.mk hcat ?_; conv => whnf) | (exact Out.same; conv => whnf) | (exact Out1.same; conv => whnf) | (refine QAnd.mk ?_ ?_; conv => whnf) | (apply QStepH.go; conv => whnf) | (refine Both.lit_true ?_; conv => whnf) | (refine Both.lit_false ?_; conv => whnf) | (apply QStep.go; conv => whnf) | (refine Need.au ?_; conv => whnf) | (refine ⟨_, rfl, ?_⟩; conv => whnf)))
    refine ⟨k + 1, by omega, by omega, Weak.auto ?_⟩
    (repeat' ((conv => whnf); first | exact True.intro | (refine And.intro ?_ ?_)))
    all_goals first | rfl | exact .eq rfl | exact congrArg (SV.int .i64) hwr | exact congrArg SV.str hsu.symm
  · have hke : k = segV D := by omega
    subst hke
    have hl8 : (readV D (baseV D sg) (segV D)).length ≤ 100000000 := by omega
    (conv => whnf)
    (repeat (first | (exact Out.same; conv => whnf) | (exact Out1.same; conv => whnf) | (refine QAnd.mk ?_ ?_; conv => whnf) | (apply QStepH.go; conv => whnf) | (refine Both.lit_true ?_; conv => whnf) | (refine Both.lit_false ?_; conv => whnf) | (apply QStep.go; conv => whnf) | (refine Need.au ?_; conv => whnf) | (refine ⟨_, rfl, ?_⟩; conv => whnf)))
    (refine DrawVC.any Γok (by kernel_rfl) (by kernel_rfl) (by kernel_rfl) (by rfl) ?_; conv => whnf)
    (repeat (first | (refine CallVC.auto rscanE_k ⟨D.sz, gn, l, n, rfl, rfl, hg, hl8, hr, hsc, ?_⟩; conv => whnf) | (exact Out.same; conv => whnf) | (exact Out1.same; conv => whnf) | (refine QAnd.mk ?_ ?_; conv => whnf) | (apply QStepH.go; conv => whnf) | (refine Both.lit_true ?_; conv => whnf) | (refine Both.lit_false ?_; conv => whnf) | (apply QStep.go; conv => whnf) | (refine Need.au ?_; conv => whnf) | (refine ⟨_, rfl, ?_⟩; conv => whnf)))
    refine ⟨_, _, WeakV.auto ?_, h⟩
    (repeat' ((conv => whnf); first | exact True.intro | (refine And.intro ?_ ?_)))
    all_goals first | rfl | exact .eq rfl
theorem recs_k : Contract Tryz.prog [] 85 recsS := ⟨⟨⟨_, rfl, rfl, rfl⟩⟩, recs_c⟩
end Go.LX
end
section
set_option maxRecDepth 100000
set_option maxHeartbeats 2000000
set_option autoImplicit false
set_option linter.unusedVariables false
set_option linter.unusedSimpArgs false
namespace Go.LX
open Go.Proofs

theorem readV_one (D : Dsk) (n : Int) : readV D n 1 = (D.rd n).1 := by
  have e : ([0] : List Nat).map (fun k => (D.rd (n + ((k : Nat) : Int))).1) = [(D.rd n).1] := by
    show [(D.rd (n + ((0 : Nat) : Int))).1] = _
    rw [show n + ((0 : Nat) : Int) = n by omega]
  unfold readV
  rw [show List.range 1 = [0] from rfl, e]
  simp
theorem rd_size {D : Dsk} (ho : D.Ok) {n : Int} (h0 : 0 ≤ n) (h1 : n < D.sc) : (D.rd n).1.length = D.sz := by
  have hfold : ∀ (buf : List (Int × Bs)) (s : Bs), s.length = D.sz → (∀ w ∈ buf, w.2.length = D.sz) → (buf.foldl (fun s w => if w.1 = n then w.2 else s) s).length = D.sz := by
    intro buf
    induction buf with
    | nil => intro s h _; exact h
    | cons w buf ih =>
      intro s h hb
      rw [List.foldl_cons]
      refine ih _ ?_ (fun x hx => hb x (List.mem_cons_of_mem _ hx))
      split
      · exact hb w List.mem_cons_self
      · exact h
  unfold Dsk.rd
  rw [if_pos ⟨h0, h1⟩]
  exact hfold _ _ (ho.reg.at h0 h1) (fun w hw => (ho.buf w hw).2.2)
theorem readV_size {D : Dsk} (ho : D.Ok) {n : Int} (h0 : 0 ≤ n) : ∀ m : Nat, n + m ≤ D.sc → (readV D n m).length = m * D.sz
  | 0, _ => by
    show ([] : Bs).length = _
    rw [Nat.zero_mul]
    rfl
  | m + 1, h => by
    rw [readV_succ, List.length_append, readV_size ho h0 m (by omega), rd_size ho (by omega) (by omega), Nat.add_mul]
    omega
theorem scanX_fits {z g : Nat} {s : Bz} : ∀ (f used : Nat) (out : List Bz), used * z ≤ s.length → out.length ≤ used → (scanX z g s f used out).2 * z ≤ s.length ∧ (scanX z g s f used out).1.length ≤ (scanX z g s f used out).2
  | 0, used, out, h1, h2 => ⟨h1, h2⟩
  | f + 1, used, out, h1, h2 => by
    by_cases h : (recA z g out.length (s.drop (used * z))).2 = 0
    · rw [scanX_stop h]
      exact ⟨h1, h2⟩
    · rw [scanX_go h]
      have h3 := recA_room z g out.length (s.drop (used * z)) h
      rw [List.length_drop] at h3
      refine scanX_fits f _ _ ?_ ?_
      · rw [Nat.add_mul]
        omega
      · rw [List.length_append, List.length_singleton]
        omega
theorem scanA_fits {z g : Nat} (s : Bz) : (scanA z g s).2 * z ≤ s.length ∧ (scanA z g s).1.length ≤ (scanA z g s).2 := scanX_fits _ 0 [] (by omega) (by simp)
noncomputable def opnW (D : Dsk) (g : Nat) (sg slot : Int) : W7 × List Bs :=
  (⟨g, sg, slot, (scanA D.sz g (readV D (baseV D sg) (segV D))).2, (scanA D.sz g (readV D (baseV D sg) (segV D))).1.length, false, false⟩, (scanA D.sz g (readV D (baseV D sg) (segV D))).1)
def w7z : W7 := ⟨0, 0, 0, 0, 0, false, false⟩
def hdD (D : Dsk) : (Int × Int) × Int := hNew D.sz [(D.rd 0).1, (D.rd 1).1] 2
noncomputable def opnB (D : Dsk) : Int × Dsk × W7 × List Bs :=
  if (hdD D).2 < 0 then
    if (putV D 1 [(hRes D.sz 1 0).1]).1 ≠ 0 then ((putV D 1 [(hRes D.sz 1 0).1]).1, (putV D 1 [(hRes D.sz 1 0).1]).2, w7z, [])
    else (0, (putV D 1 [(hRes D.sz 1 0).1]).2, opnW (putV D 1 [(hRes D.sz 1 0).1]).2 1 0 1)
  else (0, D, opnW D (hdD D).1.1.toNat (hdD D).1.2 (hdD D).2)
noncomputable def opn (D : Dsk) : Int × Dsk × W7 × List Bs :=
  if D.sc < 4 then (1, D, w7z, []) else if D.fl.1 ≠ 0 then (D.fl.1, D.fl.2, w7z, []) else opnB D.fl.2
theorem hGet_seg {z : Int} {s : Bs} (h : (hGet z s).2 = 0) : 0 ≤ (hGet z s).1.2 ∧ (hGet z s).1.2 ≤ 1 := by
  unfold hGet at h ⊢
  split at h
  · exact absurd h (by decide)
  rename_i h1
  rw [if_neg h1]
  split at h
  · exact absurd h (by decide)
  rename_i h2
  rw [if_neg h2]
  split at h
  · exact absurd h (by decide)
  rename_i h3
  rw [if_neg h3]
  split at h
  · rename_i h4
    rw [if_pos h4]
    show 0 ≤ hS s ∧ hS s ≤ 1
    unfold hRes at h4
    split at h4
    · rename_i h5
      exact (of_decide_eq_true h5).2.2.2
    · exact absurd (show (1 : Int) = 0 from congrArg Prod.snd h4) (by decide)
  · exact absurd h (by decide)
theorem hdD_rng (D : Dsk) : (hdD D).2 < 0 ∧ (hdD D).1 = (0, 0) ∨ 0 ≤ (hdD D).2 ∧ (hdD D).2 ≤ 1 ∧ 1 ≤ (hdD D).1.1 ∧ (hdD D).1.1 < 18446744073709551616 ∧ 0 ≤ (hdD D).1.2 ∧ (hdD D).1.2 ≤ 1 := by
  have hN : hNew D.sz [(D.rd 0).1, (D.rd 1).1] 2 = hStep D.sz (hStep D.sz ((0, 0), -1) 0 (D.rd 0).1) 1 (D.rd 1).1 := rfl
  unfold hdD
  rw [hN]
  have step : ∀ (k : Nat) (s : Bs) (x : (Int × Int) × Int), k ≤ 1 → (x.2 < 0 ∧ x.1 = (0, 0) ∨ 0 ≤ x.2 ∧ x.2 ≤ 1 ∧ 1 ≤ x.1.1 ∧ x.1.1 < 18446744073709551616 ∧ 0 ≤ x.1.2 ∧ x.1.2 ≤ 1) →
      ((hStep D.sz x k s).2 < 0 ∧ (hStep D.sz x k s).1 = (0, 0) ∨ 0 ≤ (hStep D.sz x k s).2 ∧ (hStep D.sz x k s).2 ≤ 1 ∧ 1 ≤ (hStep D.sz x k s).1.1 ∧ (hStep D.sz x k s).1.1 < 18446744073709551616 ∧ 0 ≤ (hStep D.sz x k s).1.2 ∧ (hStep D.sz x k s).1.2 ≤ 1) := by
    intro k s x hk hx
    unfold hStep
    split
    · rename_i h1
      have h2 := hGet_seg h1.1
      have h3 := hGet_rng D.sz s
      have h4 := hGet_zero D.sz s
      rcases h4 with h4 | h4
      · exact .inr ⟨by show (0 : Int) ≤ (k : Int); omega, by show (k : Int) ≤ 1; omega, by show 1 ≤ (hGet _ s).1.1; omega, h3.2, h2.1, h2.2⟩
      · exact absurd h1.1 h4.1
    · exact hx
  exact step 1 _ _ (by omega) (step 0 _ _ (by omega) (.inl ⟨by decide, rfl⟩))
theorem opnW_ok {D : Dsk} (ho : D.Ok) (h4 : 4 ≤ D.sc) {g : Nat} {sg slot : Int} (hg : 1 ≤ g ∧ g < 18446744073709551616) (hs : 0 ≤ sg ∧ sg ≤ 1) (hl : 0 ≤ slot ∧ slot ≤ 1) : (opnW D g sg slot).1.Ok D := by
  have hb : 2 ≤ baseV D sg ∧ baseV D sg + ((segV D : Nat) : Int) ≤ D.sc := by
    unfold baseV segV
    split <;> omega
  have hz := ho.sz
  have hr := readV_size ho (by omega) (segV D) hb.2
  have hf := scanA_fits (z := D.sz) (g := g) (readV D (baseV D sg) (segV D))
  rw [hr] at hf
  exact ⟨h4, hg, hs, hl, Nat.le_of_mul_le_mul_right hf.1 (by omega), hf.2⟩
theorem opnB_ok {D : Dsk} (ho : D.Ok) (h4 : 4 ≤ D.sc) (hb : D.buf.length ≤ 900000) {e : Int} {D' : Dsk} {w : W7} {l : List Bs} (h : opnB D = (e, D', w, l)) : D'.Ok ∧ D'.sz = D.sz ∧ D'.sc = D.sc ∧ (e = 0 → w.Ok D' ∧ l.length = w.sn ∧ w.ready = false ∧ w.broken = false) ∧ D'.buf.length ≤ D.buf.length + 1 := by
  unfold opnB at h
  have hrg := hdD_rng D
  have g1 := putV_ok [(hRes D.sz 1 0).1] D 1 ho (by show D.buf.length + 1 < 1000000; omega)
  have g2 := putV_geo [(hRes D.sz 1 0).1] D 1
  have g3 := putV_buf [(hRes D.sz 1 0).1] D 1
  obtain ⟨e1, D1, hp⟩ : ∃ e1 D1, putV D 1 [(hRes D.sz 1 0).1] = (e1, D1) := ⟨_, _, rfl⟩
  rw [hp] at h g1 g2 g3
  split at h
  · split at h
    · rename_i h1 h2
      obtain ⟨q1, q2⟩ := Prod.mk.inj h
      obtain ⟨q3, q4⟩ := Prod.mk.inj q2
      clear h q2
      subst q1 q3
      exact ⟨g1, g2.1, g2.2, fun q => absurd q h2, g3⟩
    · obtain ⟨q1, q2⟩ := Prod.mk.inj h
      obtain ⟨q3, q4⟩ := Prod.mk.inj q2
      clear h q2
      subst q1 q3
      have g4 := opnW_ok (D := D1) g1 (by have := g2.2; dsimp only at this; omega) (g := 1) (sg := 0) (slot := 1) ⟨by decide, by decide⟩ ⟨by decide, by decide⟩ ⟨by decide, by decide⟩
      have q5 : (opnW D1 1 0 1).1 = w := congrArg Prod.fst q4
      have q6 : (opnW D1 1 0 1).2 = l := congrArg Prod.snd q4
      clear q4
      subst q5 q6
      exact ⟨g1, g2.1, g2.2, fun _ => ⟨g4, rfl, rfl, rfl⟩, g3⟩
  · rename_i h1
    obtain ⟨q1, q2⟩ := Prod.mk.inj h
    obtain ⟨q3, q4⟩ := Prod.mk.inj q2
    clear h q2
    subst q1 q3
    have q := hrg.resolve_left (fun q => h1 q.1)
    have g4 := opnW_ok ho h4 (g := (hdD D).1.1.toNat) (sg := (hdD D).1.2) (slot := (hdD D).2) (by omega) ⟨by omega, by omega⟩ ⟨by omega, by omega⟩
    have q5 : (opnW D (hdD D).1.1.toNat (hdD D).1.2 (hdD D).2).1 = w := congrArg Prod.fst q4
    have q6 : (opnW D (hdD D).1.1.toNat (hdD D).1.2 (hdD D).2).2 = l := congrArg Prod.snd q4
    clear q4
    subst q5 q6
    exact ⟨ho, rfl, rfl, fun _ => ⟨g4, rfl, rfl, rfl⟩, Nat.le_succ _⟩
theorem opn_ok {D : Dsk} (ho : D.Ok) (hb : D.buf.length ≤ 900000) {e : Int} {D' : Dsk} {w : W7} {l : List Bs} (h : opn D = (e, D', w, l)) : D'.Ok ∧ D'.sz = D.sz ∧ D'.sc = D.sc ∧ (e = 0 → 4 ≤ D.sc ∧ w.Ok D' ∧ l.length = w.sn ∧ w.ready = false ∧ w.broken = false) ∧ D'.buf.length ≤ D.buf.length + 1 := by
  unfold opn at h
  split at h
  · obtain ⟨q1, q2⟩ := Prod.mk.inj h
    obtain ⟨q3, q4⟩ := Prod.mk.inj q2
    clear h q2
    subst q1 q3
    exact ⟨ho, rfl, rfl, fun q => absurd q (by decide), Nat.le_succ _⟩
  have g1 := ho.fl
  have g2 := fl_geo D
  have g3 := fl_buf D
  obtain ⟨e1, D1, hp⟩ : ∃ e1 D1, D.fl = (e1, D1) := ⟨_, _, rfl⟩
  rw [hp] at h g1 g2 g3
  dsimp only at g1 g2 g3 h
  split at h
  · rename_i h1 h2
    obtain ⟨q1, q2⟩ := Prod.mk.inj h
    obtain ⟨q3, q4⟩ := Prod.mk.inj q2
    clear h q2
    subst q1 q3
    exact ⟨g1, g2.1, g2.2, fun q => absurd q h2, by omega⟩
  · rename_i h1 h2
    have g4 := opnB_ok g1 (by rw [g2.2]; omega) (by omega) h
    exact ⟨g4.1, g4.2.1.trans g2.1, g4.2.2.1.trans g2.2, fun q => ⟨by omega, g4.2.2.2.1 q⟩, by have := g4.2.2.2.2; omega⟩
end Go.LX
end
section
set_option maxRecDepth 100000
set_option maxHeartbeats 1000000
set_option autoImplicit false
set_option linter.unusedVariables false
set_option linter.unusedSimpArgs false
namespace Go.LX
open Go.Proofs

theorem u8_int_eq (b : UInt8) (c : UInt8) : ((b.toNat : Int) = (c.toNat : Int)) ↔ b = c := by
  rw [← UInt8.toNat_inj]
  omega
theorem seal_of_right {s : List UInt8} {n : Nat} (hl : s.length = n + 4) (hr : rightB s = true) : Crc.seal_ (s.take n) = s := by
  unfold rightB at hr
  rw [Bool.and_eq_true] at hr
  have h := of_decide_eq_true hr.2
  rw [show s.length - 4 = n by omega] at h
  rw [Crc.seal_, h, List.take_append_drop]
theorem seal_inj {a b : List UInt8} (hl : a.length = b.length) (h : Crc.seal_ a = Crc.seal_ b) : a = b := by
  unfold Crc.seal_ at h
  exact (List.append_inj h hl).1
def okz (b : Bool) (s : List UInt8) (k : Nat) : Bool := b && (List.range k).all fun j => decide (s.getD (10 + j) 0 = 0)
theorem okz_succ (b : Bool) (s : List UInt8) (k : Nat) : okz b s (k + 1) = (okz b s k && decide (s.getD (10 + k) 0 = 0)) := by
  rw [okz, okz, List.range_succ, List.all_append, Bool.and_assoc]
  simp
theorem front10 {s : List UInt8} {z : Nat} (hz : 14 ≤ z) (hl : s.length = z) : s.take (z - 4) = [s.getD 0 0] ++ (s.drop 1).take 8 ++ [s.getD 9 0] ++ (s.drop 10).take (z - 14) := by
  have h0 : s = s.getD 0 0 :: s.drop 1 := by
    match s, hl with
    | [], hl => simp at hl; omega
    | a :: r, _ => rfl
  have h1 := cut10 (s := s) (by omega)
  have h2 : s = [s.getD 0 0] ++ (s.drop 1).take 8 ++ [s.getD 9 0] ++ s.drop 10 := by
    conv => lhs; rw [h0, h1]
    simp
  have hlen : ([s.getD 0 0] ++ (s.drop 1).take 8 ++ [s.getD 9 0]).length = 10 := by
    simp only [List.length_append, List.length_cons, List.length_nil, List.length_take, List.length_drop]
    omega
  conv => lhs; rw [h2]
  rw [List.take_append, hlen, List.take_of_length_le (by omega), show z - 4 - 10 = z - 14 by omega]
theorem zeros_iff (s : List UInt8) (k : Nat) (hl : 10 + k ≤ s.length) : (s.drop 10).take k = List.replicate k 0 ↔ ∀ j, j < k → s.getD (10 + j) 0 = 0 := by
  have hg : ∀ j, j < k → ((s.drop 10).take k)[j]? = some (s.getD (10 + j) 0) := by
    intro j hj
    rw [List.getElem?_take, if_pos hj, List.getElem?_drop, List.getD_eq_getElem?_getD, List.getElem?_eq_getElem (by omega)]
    rfl
  constructor
  · intro h j hj
    have := hg j hj
    rw [h, List.getElem?_replicate, if_pos hj] at this
    exact (Option.some.inj this).symm
  · intro h
    apply List.ext_getElem?
    intro j
    by_cases hj : j < k
    · rw [hg j hj, List.getElem?_replicate, if_pos hj, h j hj]
    · rw [List.getElem?_take, if_neg hj, List.getElem?_replicate, if_neg hj]
theorem hRaw_self {s : List UInt8} {z : Nat} (hz : 64 ≤ z) (hl : s.length = z) : hRaw z (hG s) (hS s) = s.take (z - 4) ↔ (s.getD 0 0 = 72 ∧ ∀ j, j < z - 14 → s.getD (10 + j) 0 = 0) := by
  have hA : ((s.drop 1).take 8).length = 8 := by rw [List.length_take, List.length_drop]; omega
  have h1 : beb (hG s).toNat 8 = (s.drop 1).take 8 := by
    unfold hG
    rw [Int.toNat_natCast, h6beb_bev hA]
  have h2 : UInt8.ofNat (hS s).toNat = s.getD 9 0 := by
    unfold hS
    rw [Int.toNat_natCast]
    simp
  rw [front10 (by omega) hl, hRaw, h1, h2, ← zeros_iff s (z - 14) (by omega)]
  constructor
  · intro h
    have h3 := List.append_inj h (by simp)
    have h4 := List.append_inj h3.1 (by simp)
    have h5 := List.append_inj h4.1 (by simp)
    exact ⟨(List.cons.inj h5.1).1.symm, h3.2.symm⟩
  · rintro ⟨h3, h4⟩
    rw [h3, h4]
theorem h6form_iff {z : Nat} {s : List UInt8} (hz : 64 ≤ z ∧ z ≤ 512) (hl : s.length = z) (hr : rightB s = true) :
    hRes (z : Int) (hG s) (hS s) = (s, 0) ↔ okz (decide (s.getD 0 0 = 72 ∧ 0 < hG s ∧ hS s < 2)) s (z - 14) = true := by
  have hse := seal_of_right (n := z - 4) (by omega) hr
  have hsr := hS_rng s
  have hgr := hG_rng s
  have hrs := hRaw_self hz.1 hl
  have hok : okz (decide (s.getD 0 0 = 72 ∧ 0 < hG s ∧ hS s < 2)) s (z - 14) = true ↔ (s.getD 0 0 = 72 ∧ 0 < hG s ∧ hS s < 2) ∧ ∀ j, j < z - 14 → s.getD (10 + j) 0 = 0 := by
    rw [okz, Bool.and_eq_true, decide_eq_true_iff, List.all_eq_true]
    constructor
    · rintro ⟨h1, h2⟩
      exact ⟨h1, fun j hj => of_decide_eq_true (h2 j (List.mem_range.2 hj))⟩
    · rintro ⟨h1, h2⟩
      exact ⟨h1, fun j hj => decide_eq_true (h2 j (List.mem_range.1 hj))⟩
  rw [hok]
  unfold hRes
  constructor
  · intro h
    split at h
    · rename_i hk
      have hk := of_decide_eq_true hk
      have h1 : hPut (z : Int).toNat (hG s) (hS s) = s := (Prod.mk.inj h).1
      rw [Int.toNat_natCast, hPut] at h1
      have h2 := seal_inj (by rw [hRaw_len hz.1, List.length_take]; omega) (h1.trans hse.symm)
      have h3 := hrs.1 h2
      exact ⟨⟨h3.1, by omega, by omega⟩, h3.2⟩
    · cases h
  · rintro ⟨⟨h1, h2, h3⟩, h4⟩
    have hk : hOk (z : Int) (hG s) (hS s) = true := decide_eq_true ⟨by omega, by omega, by omega, by omega, by omega⟩
    rw [if_pos hk, Int.toNat_natCast, hPut, hrs.2 ⟨h1, h4⟩, hse]
def rvalS : Spec := fun args H Q => match args, H with
  | [.str s], [] => ∃ t : List UInt8, s = t ∧ t.length ≤ 8 ∧ Q (.int .u64 (bev t : Int)) []
  | _, _ => False
theorem rval_k : Contract Tryz.prog [] 122 rvalS := val_k.imp fun args H Q h => by
  unfold rvalS at h
  split at h
  case h_2 => exact h.elim
  obtain ⟨t, rfl, hl, h⟩ := h
  exact ⟨hl, h⟩
theorem rget_c : Meets Tryz.prog [] 108 hgetS := by
  refine meets_of Γok Tryz.func108 rfl ?_
  intro args H Q h
  unfold hgetS at h
  split at h
  case h_2 => exact h.elim
  rename_i z s
  obtain ⟨hs, h⟩ := h
  (refine sx_sound Γok _ ?_; conv => whnf)
  (repeat (first | (exact Out.same; conv => whnf) | (exact Out1.same; conv => whnf) | (refine QAnd.mk ?_ ?_; conv => whnf) | (apply QStepH.go; conv => whnf) | (refine Both.lit_true ?_; conv => whnf) | (refine Both.lit_false ?_; conv => whnf) | (apply QStep.go; conv => whnf) | (refine Need.au ?_; conv => whnf) | (refine ⟨_, rfl, ?_⟩; conv => whnf)))
  refine CallVC.auto rright5_k ?_
  intro b hb
  cases b
  · have good := h 0 0 1 (by rw [hGet, if_pos hb.symm])
    (conv => whnf)
    (repeat (first | (exact Out.same; conv => whnf) | (exact Out1.same; conv => whnf) | (refine QAnd.mk ?_ ?_; conv => whnf) | (apply QStepH.go; conv => whnf) | (refine Both.lit_true ?_; conv => whnf) | (refine Both.lit_false ?_; conv => whnf) | (apply QStep.go; conv => whnf) | (refine Need.au ?_; conv => whnf) | (refine ⟨_, rfl, ?_⟩; conv => whnf) | (refine Both.of_false ?_ ?_; (focus (first | rfl | (simp <;> fail))); conv => whnf) | (refine Both.of_true ?_ ?_; (focus (first | rfl | (simp <;> fail))); conv => whnf)))
    exact ⟨_, _, WeakV.drop rfl, good⟩
  have hz := of_decide_eq_true hb.symm
  (conv => whnf)
  (repeat (first | (exact Out.same; conv => whnf) | (exact Out1.same; conv => whnf) | (refine QAnd.mk ?_ ?_; conv => whnf) | (apply QStepH.go; conv => whnf) | (refine Both.lit_true ?_; conv => whnf) | (refine Both.lit_false ?_; conv => whnf) | (apply QStep.go; conv => whnf) | (refine Need.au ?_; conv => whnf) | (refine ⟨_, rfl, ?_⟩; conv => whnf) | (refine Both.of_false ?_ ?_; (focus (first | rfl | (simp <;> fail))); conv => whnf) | (refine Both.of_true ?_ ?_; (focus (first | rfl | (simp <;> fail))); conv => whnf)))
  refine Both.dec_not (fun h1 => ?_) (fun h1 => ?_)
  · have good := h 0 0 6 (by rw [hGet, if_neg (by rw [← hb]; decide), if_pos h1])
    (conv => whnf)
    (repeat (first | (exact Out.same; conv => whnf) | (exact Out1.same; conv => whnf) | (refine QAnd.mk ?_ ?_; conv => whnf) | (apply QStepH.go; conv => whnf) | (refine Both.lit_true ?_; conv => whnf) | (refine Both.lit_false ?_; conv => whnf) | (apply QStep.go; conv => whnf) | (refine Need.au ?_; conv => whnf) | (refine ⟨_, rfl, ?_⟩; conv => whnf) | (refine Both.of_false ?_ ?_; (focus (first | rfl | (simp <;> fail))); conv => whnf) | (refine Both.of_true ?_ ?_; (focus (first | rfl | (simp <;> fail))); conv => whnf)))
    exact ⟨_, _, WeakV.drop rfl, good⟩
  (conv => whnf)
  (repeat (first | (exact Out.same; conv => whnf) | (exact Out1.same; conv => whnf) | (refine QAnd.mk ?_ ?_; conv => whnf) | (apply QStepH.go; conv => whnf) | (refine Both.lit_true ?_; conv => whnf) | (refine Both.lit_false ?_; conv => whnf) | (apply QStep.go; conv => whnf) | (refine Need.au ?_; conv => whnf) | (refine ⟨_, rfl, ?_⟩; conv => whnf)))
  refine CallVC.auto right2_k ⟨hs, ?_⟩
  cases hr : rightB s
  · have good := h 0 0 8 (by rw [hGet, if_neg (by rw [← hb]; decide), if_neg (by simpa using h1), if_pos hr])
    (conv => whnf)
    (repeat (first | (exact Out.same; conv => whnf) | (exact Out1.same; conv => whnf) | (refine QAnd.mk ?_ ?_; conv => whnf) | (apply QStepH.go; conv => whnf) | (refine Both.lit_true ?_; conv => whnf) | (refine Both.lit_false ?_; conv => whnf) | (apply QStep.go; conv => whnf) | (refine Need.au ?_; conv => whnf) | (refine ⟨_, rfl, ?_⟩; conv => whnf) | (refine Both.of_false ?_ ?_; (focus (first | rfl | (simp <;> fail))); conv => whnf) | (refine Both.of_true ?_ ?_; (focus (first | rfl | (simp <;> fail))); conv => whnf)))
    exact ⟨_, _, WeakV.drop rfl, good⟩
  obtain ⟨zn, rfl⟩ := Int.eq_ofNat_of_zero_le (show 0 ≤ z by omega)
  have hl : s.length = zn := by omega
  have hfi := h6form_iff (z := zn) (s := s) (by omega) hl hr
  have fin : ∀ b, b = decide (s.getD 0 0 = 72 ∧ 0 < hG s ∧ hS s < 2) →
      (okz b s (zn - 14) = false → Q (.tuple [.agg [.int .u64 0, .int .i64 0], .int .i64 5]) []) ∧ (okz b s (zn - 14) = true → Q (.tuple [.agg [.int .u64 (hG s), .int .i64 (hS s)], .int .i64 0]) []) := by
    intro b hb9
    rw [← hb9] at hfi
    refine ⟨fun h9 => h 0 0 5 ?_, fun h9 => h _ _ 0 ?_⟩
    · rw [hGet, if_neg (by rw [← hb]; decide), if_neg (by simpa using h1), if_neg (by rw [hr]; decide), if_neg (fun h8 => by rw [hfi.1 h8] at h9; cases h9)]
    · rw [hGet, if_neg (by rw [← hb]; decide), if_neg (by simpa using h1), if_neg (by rw [hr]; decide), if_pos (hfi.2 h9)]
  have hc2 : List.drop (Int.toNat 1) (List.take (Int.toNat 9) s) = (s.drop 1).take 8 := by
    show List.drop 1 (List.take 9 s) = _
    rw [List.drop_take]
  have ha : ((s.drop 1).take 8).length ≤ 8 := by rw [List.length_take]; omega
  have hcut : 0 ≤ (1 : Int) ∧ (1 : Int) ≤ 9 ∧ (9 : Int) ≤ ((s.length : Nat) : Int) := by omega
  have hix9 : 0 ≤ (9 : Int) ∧ (9 : Int) < ((s.length : Nat) : Int) := by omega
  have hix0 : 0 ≤ (0 : Int) ∧ (0 : Int) < ((s.length : Nat) : Int) := by omega
  have hs9 : IntKind.i64.wrap ((s.getD (Int.toNat 9) 0).toNat : Int) = hS s := by
    have := hS_rng s
    have h9 : ((s.getD (Int.toNat 9) 0).toNat : Int) = hS s := rfl
    rw [h9, wrap_i64 (by omega) (by omega)]
  (conv => whnf)
  (repeat (first | (exact Out.same; conv => whnf) | (exact Out1.same; conv => whnf) | (refine QAnd.mk ?_ ?_; conv => whnf) | (apply QStepH.go; conv => whnf) | (refine Both.lit_true ?_; conv => whnf) | (refine Both.lit_false ?_; conv => whnf) | (apply QStep.go; conv => whnf) | (refine Need.au ?_; conv => whnf) | (refine ⟨_, rfl, ?_⟩; conv => whnf)))
  (refine DrawVC.quiet [2] Γok (by kernel_rfl) (by kernel_rfl) (by kernel_rfl) (by rfl) ?_; conv => whnf)
  (repeat (first | (refine Need.mk hcut ?_; conv => whnf) | (refine Need.mk hix9 ?_; conv => whnf) | (refine CallVC.auto rval_k ⟨_, hc2, ha, ?_⟩; conv => whnf) | (exact ⟨congrArg (SV.int .i64) hs9⟩; conv => whnf) | (exact Out.same; conv => whnf) | (exact Out1.same; conv => whnf) | (refine QAnd.mk ?_ ?_; conv => whnf) | (apply QStepH.go; conv => whnf) | (refine Both.lit_true ?_; conv => whnf) | (refine Both.lit_false ?_; conv => whnf) | (apply QStep.go; conv => whnf) | (refine Need.au ?_; conv => whnf) | (refine ⟨_, rfl, ?_⟩; conv => whnf)))
  (repeat (first | (refine Need.mk hix0 ?_; conv => whnf) | (exact Out.same; conv => whnf) | (exact Out1.same; conv => whnf) | (refine QAnd.mk ?_ ?_; conv => whnf) | (apply QStepH.go; conv => whnf) | (refine Both.lit_true ?_; conv => whnf) | (refine Both.lit_false ?_; conv => whnf) | (apply QStep.go; conv => whnf) | (refine Need.au ?_; conv => whnf) | (refine ⟨_, rfl, ?_⟩; conv => whnf)))
  have hgs : (bev ((s.drop 1).take 8) : Int) = hG s := rfl
  refine Both.dec (fun g1 => ?_) (fun g1 => ?_)
  · have g1 : s.getD 0 0 = 72 := (u8_int_eq _ 72).1 g1
    (conv => whnf)
    (repeat (first | (exact Out.same; conv => whnf) | (exact Out1.same; conv => whnf) | (refine QAnd.mk ?_ ?_; conv => whnf) | (apply QStepH.go; conv => whnf) | (refine Both.lit_true ?_; conv => whnf) | (refine Both.lit_false ?_; conv => whnf) | (apply QStep.go; conv => whnf) | (refine Need.au ?_; conv => whnf) | (refine ⟨_, rfl, ?_⟩; conv => whnf)))
    refine Both.dec (fun g2 => ?_) (fun g2 => ?_)
    · have hBB : decide (hS s < 2) = decide (s.getD 0 0 = 72 ∧ 0 < hG s ∧ hS s < 2) := decide_eq_decide.2 ⟨fun h9 => ⟨g1, g2, h9⟩, fun h9 => h9.2.2⟩
      have hok0 : decide (hS s < 2) = okz (decide (hS s < 2)) s 0 := by simp [okz]
      (conv => whnf)
      (repeat (first | (exact Out.same; conv => whnf) | (exact Out1.same; conv => whnf) | (refine QAnd.mk ?_ ?_; conv => whnf) | (apply QStepH.go; conv => whnf) | (refine Both.lit_true ?_; conv => whnf) | (refine Both.lit_false ?_; conv => whnf) | (apply QStep.go; conv => whnf) | (refine Need.au ?_; conv => whnf) | (refine ⟨_, rfl, ?_⟩; conv => whnf) | (refine Both.of_false ?_ ?_; (focus (first | rfl | (simp <;> fail))); conv => whnf) | (refine Both.of_true ?_ ?_; (focus (first | rfl | (simp <;> fail))); conv => whnf)))
      have hsub : IntKind.i64.wrap ((zn : Int) - 4) = ((zn - 4 : Nat) : Int) := by rw [wrap_i64 (by omega) (by omega)]; omega
      refine loop_rule (fun k : Nat => ⟨[.int .i64 (zn : Int), .str s, .any, .any, .ptr 0 0, .any, .ptr 1 0, .bool (okz (decide (hS s < 2)) s k), .int .i64 ((10 + k : Nat) : Int), .any, .any, .any, .any, .any, .any, .any, .any, .any, .any, .any, .any, .any, .any, .any, .any, .any, .any, .any, .any, .any, .any, .any, .any, .any, .any, .any, .any, .any, .any, .any, .any, .any, .any, .any, .any, .any, .any, .any, .any, .any, .any, .any, .any, .any, .any, .any, .any, .any, .any], [.cells [.int .u64 0, .int .i64 0] 61, .cells [.int .u64 (hG s), .int .i64 (hS s)] 61]⟩) (fun k => k ≤ zn - 14) (fun k => zn - 14 - k) 0 (by omega) (Weak.auto ?_) ?_
      · (repeat' ((conv => whnf); first | exact True.intro | (refine And.intro ?_ ?_)))
        all_goals first | rfl | exact .eq rfl | exact congrArg SV.bool hok0
      intro k hk
      (refine sx_sound Γok _ ?_; conv => whnf)
      (repeat (first | (exact Out.same; conv => whnf) | (exact Out1.same; conv => whnf) | (refine QAnd.mk ?_ ?_; conv => whnf) | (apply QStepH.go; conv => whnf) | (refine Both.lit_true ?_; conv => whnf) | (refine Both.lit_false ?_; conv => whnf) | (apply QStep.go; conv => whnf) | (refine Need.au ?_; conv => whnf) | (refine ⟨_, rfl, ?_⟩; conv => whnf)))
      rw [hsub]
      refine Both.dec (fun hlt => ?_) (fun hge => ?_)
      rotate_left
      · have hke : k = zn - 14 := by omega
        subst hke
        have hfi := fin (decide (hS s < 2)) hBB
        cases hokz : okz (decide (hS s < 2)) s (zn - 14)
        · rw [hokz] at hfi
          (conv => whnf)
          (repeat (first | (exact Out.same; conv => whnf) | (exact Out1.same; conv => whnf) | (refine QAnd.mk ?_ ?_; conv => whnf) | (apply QStepH.go; conv => whnf) | (refine Both.lit_true ?_; conv => whnf) | (refine Both.lit_false ?_; conv => whnf) | (apply QStep.go; conv => whnf) | (refine Need.au ?_; conv => whnf) | (refine ⟨_, rfl, ?_⟩; conv => whnf) | (refine Both.of_false ?_ ?_; (focus (first | rfl | (simp [hokz] <;> fail))); conv => whnf) | (refine Both.of_true ?_ ?_; (focus (first | rfl | (simp [hokz] <;> fail))); conv => whnf)))
          exact ⟨_, _, WeakV.drop rfl, hfi.1 rfl⟩
        · rw [hokz] at hfi
          (conv => whnf)
          (repeat (first | (exact Out.same; conv => whnf) | (exact Out1.same; conv => whnf) | (refine QAnd.mk ?_ ?_; conv => whnf) | (apply QStepH.go; conv => whnf) | (refine Both.lit_true ?_; conv => whnf) | (refine Both.lit_false ?_; conv => whnf) | (apply QStep.go; conv => whnf) | (refine Need.au ?_; conv => whnf) | (refine ⟨_, rfl, ?_⟩; conv => whnf) | (refine Both.of_false ?_ ?_; (focus (first | rfl | (simp [hokz] <;> fail))); conv => whnf) | (refine Both.of_true ?_ ?_; (focus (first | rfl | (simp [hokz] <;> fail))); conv => whnf)))
          exact ⟨_, _, WeakV.drop rfl, hfi.2 rfl⟩
      have hwr : IntKind.i64.wrap (((10 + k : Nat) : Int) + 1) = ((10 + (k + 1) : Nat) : Int) := by rw [wrap_i64 (by omega) (by omega)]; omega
      have hst := okz_succ (decide (hS s < 2)) s k
      cases hokz : okz (decide (hS s < 2)) s k
      · rw [hokz, Bool.false_and] at hst
        (conv => whnf)
        (repeat (first | (exact Out.same; conv => whnf) | (exact Out1.same; conv => whnf) | (refine QAnd.mk ?_ ?_; conv => whnf) | (apply QStepH.go; conv => whnf) | (refine Both.lit_true ?_; conv => whnf) | (refine Both.lit_false ?_; conv => whnf) | (apply QStep.go; conv => whnf) | (refine Need.au ?_; conv => whnf) | (refine ⟨_, rfl, ?_⟩; conv => whnf) | (refine Both.of_false ?_ ?_; (focus (first | rfl | (simp [hokz] <;> fail))); conv => whnf) | (refine Both.of_true ?_ ?_; (focus (first | rfl | (simp [hokz] <;> fail))); conv => whnf)))
        refine ⟨k + 1, by omega, by omega, Weak.auto ?_⟩
        (repeat' ((conv => whnf); first | exact True.intro | (refine And.intro ?_ ?_)))
        all_goals first | rfl | exact .eq rfl | exact congrArg (SV.int .i64) hwr | exact congrArg SV.bool hst.symm
      rw [hokz, Bool.true_and] at hst
      have hix : 0 ≤ ((10 + k : Nat) : Int) ∧ ((10 + k : Nat) : Int) < ((s.length : Nat) : Int) := by omega
      have hst2 : decide (((s.getD ((10 + k : Nat) : Int).toNat 0).toNat : Int) = 0) = okz (decide (hS s < 2)) s (k + 1) := by
        rw [hst]
        exact decide_eq_decide.2 (u8_int_eq _ 0)
      (conv => whnf)
      (repeat (first | (refine Need.mk hix ?_; conv => whnf) | (exact Out.same; conv => whnf) | (exact Out1.same; conv => whnf) | (refine QAnd.mk ?_ ?_; conv => whnf) | (apply QStepH.go; conv => whnf) | (refine Both.lit_true ?_; conv => whnf) | (refine Both.lit_false ?_; conv => whnf) | (apply QStep.go; conv => whnf) | (refine Need.au ?_; conv => whnf) | (refine ⟨_, rfl, ?_⟩; conv => whnf) | (refine Both.of_false ?_ ?_; (focus (first | rfl | (simp [hokz] <;> fail))); conv => whnf) | (refine Both.of_true ?_ ?_; (focus (first | rfl | (simp [hokz] <;> fail))); conv => whnf)))
      refine ⟨k + 1, by omega, by omega, Weak.auto ?_⟩
      (repeat' ((conv => whnf); first | exact True.intro | (refine And.intro ?_ ?_)))
      all_goals first | rfl | exact .eq rfl | exact congrArg (SV.int .i64) hwr | exact congrArg SV.bool hst2
    · have hBB : false = decide (s.getD 0 0 = 72 ∧ 0 < hG s ∧ hS s < 2) := (decide_eq_false (fun h9 => g2 h9.2.1)).symm
      (conv => whnf)
      (repeat (first | (exact Out.same; conv => whnf) | (exact Out1.same; conv => whnf) | (refine QAnd.mk ?_ ?_; conv => whnf) | (apply QStepH.go; conv => whnf) | (refine Both.lit_true ?_; conv => whnf) | (refine Both.lit_false ?_; conv => whnf) | (apply QStep.go; conv => whnf) | (refine Need.au ?_; conv => whnf) | (refine ⟨_, rfl, ?_⟩; conv => whnf) | (refine Both.of_false ?_ ?_; (focus (first | rfl | (simp <;> fail))); conv => whnf) | (refine Both.of_true ?_ ?_; (focus (first | rfl | (simp <;> fail))); conv => whnf)))
      have hsub : IntKind.i64.wrap ((zn : Int) - 4) = ((zn - 4 : Nat) : Int) := by rw [wrap_i64 (by omega) (by omega)]; omega
      refine loop_rule (fun k : Nat => ⟨[.int .i64 (zn : Int), .str s, .any, .any, .ptr 0 0, .any, .ptr 1 0, .bool (okz false s k), .int .i64 ((10 + k : Nat) : Int), .any, .any, .any, .any, .any, .any, .any, .any, .any, .any, .any, .any, .any, .any, .any, .any, .any, .any, .any, .any, .any, .any, .any, .any, .any, .any, .any, .any, .any, .any, .any, .any, .any, .any, .any, .any, .any, .any, .any, .any, .any, .any, .any, .any, .any, .any, .any, .any, .any, .any], [.cells [.int .u64 0, .int .i64 0] 61, .cells [.int .u64 (hG s), .int .i64 (hS s)] 61]⟩) (fun k => k ≤ zn - 14) (fun k => zn - 14 - k) 0 (by omega) (Weak.auto ?_) ?_
      · (repeat' ((conv => whnf); first | exact True.intro | (refine And.intro ?_ ?_)))
        all_goals first | rfl | exact .eq rfl
      intro k hk
      (refine sx_sound Γok _ ?_; conv => whnf)
      (repeat (first | (exact Out.same; conv => whnf) | (exact Out1.same; conv => whnf) | (refine QAnd.mk ?_ ?_; conv => whnf) | (apply QStepH.go; conv => whnf) | (refine Both.lit_true ?_; conv => whnf) | (refine Both.lit_false ?_; conv => whnf) | (apply QStep.go; conv => whnf) | (refine Need.au ?_; conv => whnf) | (refine ⟨_, rfl, ?_⟩; conv => whnf)))
      rw [hsub]
      refine Both.dec (fun hlt => ?_) (fun hge => ?_)
      rotate_left
      · have hke : k = zn - 14 := by omega
        subst hke
        have hfi := fin false hBB
        cases hokz : okz false s (zn - 14)
        · rw [hokz] at hfi
          (conv => whnf)
          (repeat (first | (exact Out.same; conv => whnf) | (exact Out1.same; conv => whnf) | (refine QAnd.mk ?_ ?_; conv => whnf) | (apply QStepH.go; conv => whnf) | (refine Both.lit_true ?_; conv => whnf) | (refine Both.lit_false ?_; conv => whnf) | (apply QStep.go; conv => whnf) | (refine Need.au ?_; conv => whnf) | (refine ⟨_, rfl, ?_⟩; conv => whnf) | (refine Both.of_false ?_ ?_; (focus (first | rfl | (simp [hokz] <;> fail))); conv => whnf) | (refine Both.of_true ?_ ?_; (focus (first | rfl | (simp [hokz] <;> fail))); conv => whnf)))
          exact ⟨_, _, WeakV.drop rfl, hfi.1 rfl⟩
        · rw [hokz] at hfi
          (conv => whnf)
          (repeat (first | (exact Out.same; conv => whnf) | (exact Out1.same; conv => whnf) | (refine QAnd.mk ?_ ?_; conv => whnf) | (apply QStepH.go; conv => whnf) | (refine Both.lit_true ?_; conv => whnf) | (refine Both.lit_false ?_; conv => whnf) | (apply QStep.go; conv => whnf) | (refine Need.au ?_; conv => whnf) | (refine ⟨_, rfl, ?_⟩; conv => whnf) | (refine Both.of_false ?_ ?_; (focus (first | rfl | (simp [hokz] <;> fail))); conv => whnf) | (refine Both.of_true ?_ ?_; (focus (first | rfl | (simp [hokz] <;> fail))); conv => whnf)))
          exact ⟨_, _, WeakV.drop rfl, hfi.2 rfl⟩
      have hwr : IntKind.i64.wrap (((10 + k : Nat) : Int) + 1) = ((10 + (k + 1) : Nat) : Int) := by rw [wrap_i64 (by omega) (by omega)]; omega
      have hst := okz_succ false s k
      cases hokz : okz false s k
      · rw [hokz, Bool.false_and] at hst
        (conv => whnf)
        (repeat (first | (exact Out.same; conv => whnf) | (exact Out1.same; conv => whnf) | (refine QAnd.mk ?_ ?_; conv => whnf) | (apply QStepH.go; conv => whnf) | (refine Both.lit_true ?_; conv => whnf) | (refine Both.lit_false ?_; conv => whnf) | (apply QStep.go; conv => whnf) | (refine Need.au ?_; conv => whnf) | (refine ⟨_, rfl, ?_⟩; conv => whnf) | (refine Both.of_false ?_ ?_; (focus (first | rfl | (simp [hokz] <;> fail))); conv => whnf) | (refine Both.of_true ?_ ?_; (focus (first | rfl | (simp [hokz] <;> fail))); conv => whnf)))
        refine ⟨k + 1, by omega, by omega, Weak.auto ?_⟩
        (repeat' ((conv => whnf); first | exact True.intro | (refine And.intro ?_ ?_)))
        all_goals first | rfl | exact .eq rfl | exact congrArg (SV.int .i64) hwr | exact congrArg SV.bool hst.symm
      rw [hokz, Bool.true_and] at hst
      have hix : 0 ≤ ((10 + k : Nat) : Int) ∧ ((10 + k : Nat) : Int) < ((s.length : Nat) : Int) := by omega
      have hst2 : decide (((s.getD ((10 + k : Nat) : Int).toNat 0).toNat : Int) = 0) = okz false s (k + 1) := by
        rw [hst]
        exact decide_eq_decide.2 (u8_int_eq _ 0)
      (conv => whnf)
      (repeat (first | (refine Need.mk hix ?_; conv => whnf) | (exact Out.same; conv => whnf) | (exact Out1.same; conv => whnf) | (refine QAnd.mk ?_ ?_; conv => whnf) | (apply QStepH.go; conv => whnf) | (refine Both.lit_true ?_; conv => whnf) | (refine Both.lit_false ?_; conv => whnf) | (apply QStep.go; conv => whnf) | (refine Need.au ?_; conv => whnf) | (refine ⟨_, rfl, ?_⟩; conv => whnf) | (refine Both.of_false ?_ ?_; (focus (first | rfl | (simp [hokz] <;> fail))); conv => whnf) | (refine Both.of_true ?_ ?_; (focus (first | rfl | (simp [hokz] <;> fail))); conv => whnf)))
      refine ⟨k + 1, by omega, by omega, Weak.auto ?_⟩
      (repeat' ((conv => whnf); first | exact True.intro | (refine And.intro ?_ ?_)))
      all_goals first | rfl | exact .eq rfl | exact congrArg (SV.int .i64) hwr | exact congrArg SV.bool hst2
  · have g1 : ¬ s.getD 0 0 = 72 := fun h9 => g1 ((u8_int_eq _ 72).2 h9)
    have hBB : false = decide (s.getD 0 0 = 72 ∧ 0 < hG s ∧ hS s < 2) := (decide_eq_false (fun h9 => g1 h9.1)).symm
    (conv => whnf)
    (repeat (first | (exact Out.same; conv => whnf) | (exact Out1.same; conv => whnf) | (refine QAnd.mk ?_ ?_; conv => whnf) | (apply QStepH.go; conv => whnf) | (refine Both.lit_true ?_; conv => whnf) | (refine Both.lit_false ?_; conv => whnf) | (apply QStep.go; conv => whnf) | (refine Need.au ?_; conv => whnf) | (refine ⟨_, rfl, ?_⟩; conv => whnf) | (refine Both.of_false ?_ ?_; (focus (first | rfl | (simp <;> fail))); conv => whnf) | (refine Both.of_true ?_ ?_; (focus (first | rfl | (simp <;> fail))); conv => whnf)))
    have hsub : IntKind.i64.wrap ((zn : Int) - 4) = ((zn - 4 : Nat) : Int) := by rw [wrap_i64 (by omega) (by omega)]; omega
    refine loop_rule (fun k : Nat => ⟨[.int .i64 (zn : Int), .str s, .any, .any, .ptr 0 0, .any, .ptr 1 0, .bool (okz false s k), .int .i64 ((10 + k : Nat) : Int), .any, .any, .any, .any, .any, .any, .any, .any, .any, .any, .any, .any, .any, .any, .any, .any, .any, .any, .any, .any, .any, .any, .any, .any, .any, .any, .any, .any, .any, .any, .any, .any, .any, .any, .any, .any, .any, .any, .any, .any, .any, .any, .any, .any, .any, .any, .any, .any, .any, .any], [.cells [.int .u64 0, .int .i64 0] 61, .cells [.int .u64 (hG s), .int .i64 (hS s)] 61]⟩) (fun k => k ≤ zn - 14) (fun k => zn - 14 - k) 0 (by omega) (Weak.auto ?_) ?_
    · (repeat' ((conv => whnf); first | exact True.intro | (refine And.intro ?_ ?_)))
      all_goals first | rfl | exact .eq rfl
    intro k hk
    (refine sx_sound Γok _ ?_; conv => whnf)
    (repeat (first | (exact Out.same; conv => whnf) | (exact Out1.same; conv => whnf) | (refine QAnd.mk ?_ ?_; conv => whnf) | (apply QStepH.go; conv => whnf) | (refine Both.lit_true ?_; conv => whnf) | (refine Both.lit_false ?_; conv => whnf) | (apply QStep.go; conv => whnf) | (refine Need.au ?_; conv => whnf) | (refine ⟨_, rfl, ?_⟩; conv => whnf)))
    rw [hsub]
    refine Both.dec (fun hlt => ?_) (fun hge => ?_)
    rotate_left
    · have hke : k = zn - 14 := by omega
      subst hke
      have hfi := fin false hBB
      cases hokz : okz false s (zn - 14)
      · rw [hokz] at hfi
        (conv => whnf)
        (repeat (first | (exact Out.same; conv => whnf) | (exact Out1.same; conv => whnf) | (refine QAnd.mk ?_ ?_; conv => whnf) | (apply QStepH.go; conv => whnf) | (refine Both.lit_true ?_; conv => whnf) | (refine Both.lit_false ?_; conv => whnf) | (apply QStep.go; conv => whnf) | (refine Need.au ?_; conv => whnf) | (refine ⟨_, rfl, ?_⟩; conv => whnf) | (refine Both.of_false ?_ ?_; (focus (first | rfl | (simp [hokz] <;> fail))); conv => whnf) | (refine Both.of_true ?_ ?_; (focus (first | rfl | (simp [hokz] <;> fail))); conv => whnf)))
        exact ⟨_, _, WeakV.drop rfl, hfi.1 rfl⟩
      · rw [hokz] at hfi
        (conv => whnf)
        (repeat (first | (exact Out.same; conv => whnf) | (exact Out1.same; conv => whnf) | (refine QAnd.mk ?_ ?_; conv => whnf) | (apply QStepH.go; conv => whnf) | (refine Both.lit_true ?_; conv => whnf) | (refine Both.lit_false ?_; conv => whnf) | (apply QStep.go; conv => whnf) | (refine Need.au ?_; conv => whnf) | (refine ⟨_, rfl, ?_⟩; conv => whnf) | (refine Both.of_false ?_ ?_; (focus (first | rfl | (simp [hokz] <;> fail))); conv => whnf) | (refine Both.of_true ?_ ?_; (focus (first | rfl | (simp [hokz] <;> fail))); conv => whnf)))
        exact ⟨_, _, WeakV.drop rfl, hfi.2 rfl⟩
    have hwr : IntKind.i64.wrap (((10 + k : Nat) : Int) + 1) = ((10 + (k + 1) : Nat) : Int) := by rw [wrap_i64 (by omega) (by omega)]; omega
    have hst := okz_succ false s k
    cases hokz : okz false s k
    · rw [hokz, Bool.false_and] at hst
      (conv => whnf)
      (repeat (first | (exact Out.same; conv => whnf) | (exact Out1.same; conv => whnf) | (refine QAnd.mk ?_ ?_; conv => whnf) | (apply QStepH.go; conv => whnf) | (refine Both.lit_true ?_; conv => whnf) | (refine Both.lit_false ?_; conv => whnf) | (apply QStep.go; conv => whnf) | (refine Need.au ?_; conv => whnf) | (refine ⟨_, rfl, ?_⟩; conv => whnf) | (refine Both.of_false ?_ ?_; (focus (first | rfl | (simp [hokz] <;> fail))); conv => whnf) | (refine Both.of_true ?_ ?_; (focus (first | rfl | (simp [hokz] <;> fail))); conv => whnf)))
      refine ⟨k + 1, by omega, by omega, Weak.auto ?_⟩
      (repeat' ((conv => whnf); first | exact True.intro | (refine And.intro ?_ ?_)))
      all_goals first | rfl | exact .eq rfl | exact congrArg (SV.int .i64) hwr | exact congrArg SV.bool hst.symm
    rw [hokz, Bool.true_and] at hst
    have hix : 0 ≤ ((10 + k : Nat) : Int) ∧ ((10 + k : Nat) : Int) < ((s.length : Nat) : Int) := by omega
    have hst2 : decide (((s.getD ((10 + k : Nat) : Int).toNat 0).toNat : Int) = 0) = okz false s (k + 1) := by
      rw [hst]
      exact decide_eq_decide.2 (u8_int_eq _ 0)
    (conv => whnf)
    (repeat (first | (refine Need.mk hix ?_; conv => whnf) | (exact Out.same; conv => whnf) | (exact Out1.same; conv => whnf) | (refine QAnd.mk ?_ ?_; conv => whnf) | (apply QStepH.go; conv => whnf) | (refine Both.lit_true ?_; conv => whnf) | (refine Both.lit_false ?_; conv => whnf) | (apply QStep.go; conv => whnf) | (refine Need.au ?_; conv => whnf) | (refine ⟨_, rfl, ?_⟩; conv => whnf) | (refine Both.of_false ?_ ?_; (focus (first | rfl | (simp [hokz] <;> fail))); conv => whnf) | (refine Both.of_true ?_ ?_; (focus (first | rfl | (simp [hokz] <;> fail))); conv => whnf)))
    refine ⟨k + 1, by omega, by omega, Weak.auto ?_⟩
    (repeat' ((conv => whnf); first | exact True.intro | (refine And.intro ?_ ?_)))
    all_goals first | rfl | exact .eq rfl | exact congrArg (SV.int .i64) hwr | exact congrArg SV.bool hst2
theorem rget_k : Contract Tryz.prog [] 108 hgetS := ⟨⟨⟨_, rfl, rfl, rfl⟩⟩, rget_c⟩
end Go.LX
end
section
set_option maxRecDepth 100000
set_option maxHeartbeats 1000000
set_option autoImplicit false
set_option linter.unusedVariables false
set_option linter.unusedSimpArgs false
namespace Go.LX
open Go.Proofs

theorem rnew6_c : Meets Tryz.prog [] 84 hnewS := by
  refine meets_of Γok Tryz.func84 rfl ?_
  intro args H Q h
  unfold hnewS at h
  split at h
  case h_2 => exact h.elim
  rename_i z n cs f
  obtain ⟨l, rfl, rfl, hl, hs, h⟩ := h
  (refine sx_sound Γok _ ?_; conv => whnf)
  (repeat (first | (exact Out.same; conv => whnf) | (exact Out1.same; conv => whnf) | (refine QAnd.mk ?_ ?_; conv => whnf) | (apply QStepH.go; conv => whnf) | (refine Both.lit_true ?_; conv => whnf) | (refine Both.lit_false ?_; conv => whnf) | (apply QStep.go; conv => whnf) | (refine Need.au ?_; conv => whnf) | (refine ⟨_, rfl, ?_⟩; conv => whnf)))
  refine loop_rule (fun k : Nat => ⟨[.int .i64 z, .sl 1 l.length (l.map CV.str) f, .any, .any, .ptr 0 0, .any, .ptr 1 0, .int .i64 (hNew z l k).2, .int .i64 (k : Int), .any, .any, .any, .any, .any, .any, .any, .any, .any, .any, .any, .any, .any, .any, .any, .any, .any, .any, .any, .any, .any, .any, .any, .any, .any, .any, .any, .any, .any, .any, .any, .any, .any, .any, .any], [.cells [.int .u64 0, .int .i64 0] 61, .cells [.int .u64 (hNew z l k).1.1, .int .i64 (hNew z l k).1.2] 61]⟩) (fun k => k ≤ l.length) (fun k => l.length - k) 0 (by omega) (Weak.auto ?_) ?_
  · (repeat' ((conv => whnf); first | exact True.intro | (refine And.intro ?_ ?_)))
    all_goals first | rfl | exact .eq rfl
  intro k hk
  (refine sx_sound Γok _ ?_; conv => whnf)
  (repeat (first | (exact Out.same; conv => whnf) | (exact Out1.same; conv => whnf) | (refine QAnd.mk ?_ ?_; conv => whnf) | (apply QStepH.go; conv => whnf) | (refine Both.lit_true ?_; conv => whnf) | (refine Both.lit_false ?_; conv => whnf) | (apply QStep.go; conv => whnf) | (refine Need.au ?_; conv => whnf) | (refine ⟨_, rfl, ?_⟩; conv => whnf)))
  refine Both.dec (fun hlt => ?_) (fun hge => ?_)
  rotate_left
  · have hke : k = l.length := by omega
    subst hke
    (conv => whnf)
    (repeat (first | (exact Out.same; conv => whnf) | (exact Out1.same; conv => whnf) | (refine QAnd.mk ?_ ?_; conv => whnf) | (apply QStepH.go; conv => whnf) | (refine Both.lit_true ?_; conv => whnf) | (refine Both.lit_false ?_; conv => whnf) | (apply QStep.go; conv => whnf) | (refine Need.au ?_; conv => whnf) | (refine ⟨_, rfl, ?_⟩; conv => whnf)))
    exact ⟨_, _, WeakV.drop rfl, h _ _ _ rfl⟩
  have hkl : k < l.length := by omega
  have hx := strs_at l k hkl
  have hsl := getD_lt hs hkl
  have hwr : IntKind.i64.wrap ((k : Int) + 1) = ((k + 1 : Nat) : Int) := by rw [wrap_i64 (by omega) (by omega)]; rfl
  have hn : hNew z l (k + 1) = hStep z (hNew z l k) k (l.getD k []) := rfl
  have hgz := hGet_zero z (l.getD k [])
  have hat := hNew_at z l k
  unfold hStep at hn
  (conv => whnf)
  (repeat (first | (refine ⟨_, hx, ?_⟩; conv => whnf) | (exact Out.same; conv => whnf) | (exact Out1.same; conv => whnf) | (refine QAnd.mk ?_ ?_; conv => whnf) | (apply QStepH.go; conv => whnf) | (refine Both.lit_true ?_; conv => whnf) | (refine Both.lit_false ?_; conv => whnf) | (apply QStep.go; conv => whnf) | (refine Need.au ?_; conv => whnf) | (refine ⟨_, rfl, ?_⟩; conv => whnf)))
  refine CallVC.auto rget_k (Need.mk hsl ?_)
  intro g sg e he
  rw [← he] at hn hgz
  dsimp only at hn hgz
  have fin : ∀ x : (Int × Int) × Int, hNew z l (k + 1) = x → SV.int .i64 x.2 = SV.int .i64 (hNew z l (k + 1)).2 ∧ [SV.int .u64 x.1.1, .int .i64 x.1.2] = [SV.int .u64 (hNew z l (k + 1)).1.1, .int .i64 (hNew z l (k + 1)).1.2] := fun x hx => by
    rw [hx]
    exact ⟨rfl, rfl⟩
  (conv => whnf)
  (repeat (first | (exact Out.same; conv => whnf) | (exact Out1.same; conv => whnf) | (refine QAnd.mk ?_ ?_; conv => whnf) | (apply QStepH.go; conv => whnf) | (refine Both.lit_true ?_; conv => whnf) | (refine Both.lit_false ?_; conv => whnf) | (apply QStep.go; conv => whnf) | (refine Need.au ?_; conv => whnf) | (refine ⟨_, rfl, ?_⟩; conv => whnf)))
  refine Both.dec (fun he0 => ?_) (fun he0 => ?_)
  rotate_left
  · rw [if_neg (fun h2 => he0 h2.1)] at hn
    obtain ⟨f1, f2⟩ := fin _ hn
    (conv => whnf)
    (repeat (first | (exact Out.same; conv => whnf) | (exact Out1.same; conv => whnf) | (refine QAnd.mk ?_ ?_; conv => whnf) | (apply QStepH.go; conv => whnf) | (refine Both.lit_true ?_; conv => whnf) | (refine Both.lit_false ?_; conv => whnf) | (apply QStep.go; conv => whnf) | (refine Need.au ?_; conv => whnf) | (refine ⟨_, rfl, ?_⟩; conv => whnf) | (refine Both.of_false ?_ ?_; (focus (first | rfl | (simp <;> fail))); conv => whnf) | (refine Both.of_true ?_ ?_; (focus (first | rfl | (simp <;> fail))); conv => whnf)))
    refine ⟨k + 1, by omega, by omega, Weak.auto ?_⟩
    (repeat' ((conv => whnf); first | exact True.intro | (refine And.intro ?_ ?_)))
    all_goals first | rfl | exact .eq rfl | exact f1 | exact .eq f2 | exact congrArg (SV.int .i64) hwr
  have hg0 : 0 < g := by
    rcases hgz with h1 | h1
    · exact h1.2.1
    · exact absurd he0 h1.1
  (conv => whnf)
  (repeat (first | (exact Out.same; conv => whnf) | (exact Out1.same; conv => whnf) | (refine QAnd.mk ?_ ?_; conv => whnf) | (apply QStepH.go; conv => whnf) | (refine Both.lit_true ?_; conv => whnf) | (refine Both.lit_false ?_; conv => whnf) | (apply QStep.go; conv => whnf) | (refine Need.au ?_; conv => whnf) | (refine ⟨_, rfl, ?_⟩; conv => whnf)))
  refine Both.dec (fun ha => ?_) (fun ha => ?_)
  · have hb0 : (hNew z l k).1 = (0, 0) := by
      rcases hat with h1 | h1
      · exact h1.2
      · omega
    rw [if_pos ⟨he0, by rw [hb0]; exact hg0⟩] at hn
    obtain ⟨f1, f2⟩ := fin _ hn
    (conv => whnf)
    (repeat (first | (exact Out.same; conv => whnf) | (exact Out1.same; conv => whnf) | (refine QAnd.mk ?_ ?_; conv => whnf) | (apply QStepH.go; conv => whnf) | (refine Both.lit_true ?_; conv => whnf) | (refine Both.lit_false ?_; conv => whnf) | (apply QStep.go; conv => whnf) | (refine Need.au ?_; conv => whnf) | (refine ⟨_, rfl, ?_⟩; conv => whnf) | (refine Both.of_false ?_ ?_; (focus (first | rfl | (simp <;> fail))); conv => whnf) | (refine Both.of_true ?_ ?_; (focus (first | rfl | (simp <;> fail))); conv => whnf)))
    refine ⟨k + 1, by omega, by omega, Weak.auto ?_⟩
    (repeat' ((conv => whnf); first | exact True.intro | (refine And.intro ?_ ?_)))
    all_goals first | rfl | exact .eq rfl | exact f1 | exact .eq f2 | exact congrArg (SV.int .i64) hwr
  (conv => whnf)
  (repeat (first | (exact Out.same; conv => whnf) | (exact Out1.same; conv => whnf) | (refine QAnd.mk ?_ ?_; conv => whnf) | (apply QStepH.go; conv => whnf) | (refine Both.lit_true ?_; conv => whnf) | (refine Both.lit_false ?_; conv => whnf) | (apply QStep.go; conv => whnf) | (refine Need.au ?_; conv => whnf) | (refine ⟨_, rfl, ?_⟩; conv => whnf)))
  refine Both.dec (fun h1 => ?_) (fun h1 => ?_)
  · rw [if_pos ⟨he0, h1⟩] at hn
    obtain ⟨f1, f2⟩ := fin _ hn
    (conv => whnf)
    (repeat (first | (exact Out.same; conv => whnf) | (exact Out1.same; conv => whnf) | (refine QAnd.mk ?_ ?_; conv => whnf) | (apply QStepH.go; conv => whnf) | (refine Both.lit_true ?_; conv => whnf) | (refine Both.lit_false ?_; conv => whnf) | (apply QStep.go; conv => whnf) | (refine Need.au ?_; conv => whnf) | (refine ⟨_, rfl, ?_⟩; conv => whnf)))
    refine ⟨k + 1, by omega, by omega, Weak.auto ?_⟩
    (repeat' ((conv => whnf); first | exact True.intro | (refine And.intro ?_ ?_)))
    all_goals first | rfl | exact .eq rfl | exact f1 | exact .eq f2 | exact congrArg (SV.int .i64) hwr
  · rw [if_neg (fun h2 => h1 h2.2)] at hn
    obtain ⟨f1, f2⟩ := fin _ hn
    (conv => whnf)
    (repeat (first | (exact Out.same; conv => whnf) | (exact Out1.same; conv => whnf) | (refine QAnd.mk ?_ ?_; conv => whnf) | (apply QStepH.go; conv => whnf) | (refine Both.lit_true ?_; conv => whnf) | (refine Both.lit_false ?_; conv => whnf) | (apply QStep.go; conv => whnf) | (refine Need.au ?_; conv => whnf) | (refine ⟨_, rfl, ?_⟩; conv => whnf)))
    refine ⟨k + 1, by omega, by omega, Weak.auto ?_⟩
    (repeat' ((conv => whnf); first | exact True.intro | (refine And.intro ?_ ?_)))
    all_goals first | rfl | exact .eq rfl | exact f1 | exact .eq f2 | exact congrArg (SV.int .i64) hwr
theorem rnew6_k : Contract Tryz.prog [] 84 hnewS := ⟨⟨⟨_, rfl, rfl, rfl⟩⟩, rnew6_c⟩
theorem rightB_seal' (s : List UInt8) : rightB (Crc.seal_ s) = true := by
  have h := Crc.right_seal s
  unfold rightB
  rw [Bool.and_eq_true]
  exact ⟨decide_eq_true h.1, decide_eq_true h.2⟩
theorem hGet_put {z : Nat} {g sg : Int} (hk : hOk (z : Int) g sg = true) (hg : g < 18446744073709551616) (hg0 : 0 ≤ g) : hGet (z : Int) (hPut z g sg) = ((g, sg), 0) := by
  have hk' := of_decide_eq_true hk
  have hl := hPut_len (z := z) (by omega) g sg
  have hb : (beb g.toNat 8).length = 8 := beb_length _ _
  have e1 : hPut z g sg = [72] ++ (beb g.toNat 8 ++ ([UInt8.ofNat sg.toNat] ++ (List.replicate (z - 14) 0 ++ Crc.le 4 (Crc.sum (hRaw z g sg))))) := by
    rw [hPut, Crc.seal_]
    generalize Crc.le 4 (Crc.sum (hRaw z g sg)) = t
    rw [hRaw]
    simp
  have h1 : hG (hPut z g sg) = g := by
    unfold hG
    rw [e1, List.singleton_append, List.drop_one, List.tail_cons, List.take_left' hb, bev_beb 8 g.toNat (by omega)]
    omega
  have h2 : hS (hPut z g sg) = sg := by
    unfold hS
    rw [e1, List.getD_eq_getElem?_getD, List.getElem?_append_right (by simp), List.getElem?_append_right (by rw [hb]; simp)]
    rw [hb]
    show ((UInt8.ofNat sg.toNat).toNat : Int) = sg
    rw [UInt8.toNat_ofNat']
    omega
  unfold hGet
  rw [if_neg (by rw [show szB (z : Int) = true from decide_eq_true ⟨hk'.1, hk'.2.1⟩]; decide), if_neg (by rw [hl]; simp), if_neg (by rw [hPut, rightB_seal']; decide), h1, h2, if_pos (by rw [hRes, if_pos hk, Int.toNat_natCast])]
end Go.LX
end
section
set_option maxRecDepth 100000
set_option maxHeartbeats 2000000
set_option autoImplicit false
set_option linter.unusedVariables false
set_option linter.unusedSimpArgs false
namespace Go.LX
open Go.Proofs

def hnewES : Spec := fun args H Q => match args, H with
  | [.int .i64 z, .sl 1 n cs f], [] => ∃ l : List Bs, n = l.length ∧ cs = l.map CV.str ∧ l.length ≤ 1000 ∧ (∀ s ∈ l, s.length < 1000000) ∧ ∃ g sg e, ((g, sg), e) = hNew z l l.length ∧ Q (.tuple [.agg [.int .u64 g, .int .i64 sg], .int .i64 e]) []
  | _, _ => False
theorem hnewE_imp {f : FuncId} (hc : Contract Tryz.prog [] f hnewS) : Contract Tryz.prog [] f hnewES := hc.imp fun args H Q h => by
  unfold hnewES at h
  split at h
  case h_2 => exact h.elim
  obtain ⟨l, h1, h2, h3, h4, g, sg, e, he, h⟩ := h
  exact ⟨l, h1, h2, h3, h4, fun g2 sg2 e2 h5 => by
    obtain ⟨u1, u3⟩ := Prod.mk.inj (h5.trans he.symm)
    obtain ⟨u1, u2⟩ := Prod.mk.inj u1
    subst u1 u2 u3
    exact h⟩
theorem hnewE_k : Contract Tryz.prog [] 44 hnewES := hnewE_imp hnew_k
theorem rnewE_k : Contract Tryz.prog [] 84 hnewES := hnewE_imp rnew6_k
def oA (D : Dsk) (w : W7) : List LObj := [.cells [.int .i64 (D.sz : Int), .int .i64 (D.sc : Int), .own 1, .own 4, .int .i64 (D.ar : Int)] 79, .own 9 1 D.st.length (D.st.map CV.str) true, .gone,
  .cells [.ptr 0 0, .int .u64 (w.g : Int), .int .i64 w.sg, .int .i64 w.slot, .int .i64 (w.used : Int), .int .u64 (w.sn : Int), .bool w.ready, .bool w.broken] 74, .own 91 2 D.buf.length (D.buf.flatMap wrEn) true]
def openWS : Spec := fun args H Q => match args with
  | [.ptr 0 0] => dIn H fun D => D.buf.length ≤ 900000 ∧ ∀ e D' w l, (e, D', w, l) = opn D → (e ≠ 0 → Q (.tuple [.nil, .nilsl, .int .i64 e]) (dA D')) ∧ (e = 0 → Q (.tuple [.ptr 3 0, .sl 1 l.length (l.map CV.str) false, .int .i64 0]) (oA D' w))
  | _ => False
theorem seg_bd {D : Dsk} (ho : D.Ok) : segV D ≤ 2047 := by
  have := ho.sc
  unfold segV
  omega
theorem readV_8 {D : Dsk} (ho : D.Ok) (n : Int) {m : Nat} (hm : m ≤ 2047) : (readV D n m).length ≤ 100000000 := by
  have := readV_len ho n m
  omega
theorem rightN_ok {D : Dsk} (ho : D.Ok) : rightN (D.sz : Int) = true := by
  have := ho.sz
  exact decide_eq_true (by omega)
theorem base_bd (D : Dsk) (sg : Int) (hv : segV D ≤ 2047) : 2 ≤ baseV D sg ∧ baseV D sg ≤ 2049 := by
  unfold baseV
  split <;> omega
theorem openW_c : Meets Tryz.prog [] 17 openWS := by
  refine meets_of Γok Tryz.func17 rfl ?_
  intro args H Q h
  unfold openWS at h
  split at h
  case h_2 => exact h.elim
  obtain ⟨D, rfl, ho, hb, h⟩ := dIn_out h
  have hsc := ho.sc
  by_cases h4 : D.sc < 4
  · have h := (h 1 D w7z [] (by unfold opn; rw [if_pos h4])).1 (by decide)
    have c1 : decide (((D.sc : Nat) : Int) < 4) = true := decide_eq_true (by omega)
    (refine sx_sound Γok _ ?_; conv => whnf)
    (repeat (first | (refine Both.of_true c1 ?_; conv => whnf) | (exact Out.same; conv => whnf) | (exact Out1.same; conv => whnf) | (refine QAnd.mk ?_ ?_; conv => whnf) | (apply QStepH.go; conv => whnf) | (refine Both.lit_true ?_; conv => whnf) | (refine Both.lit_false ?_; conv => whnf) | (apply QStep.go; conv => whnf) | (refine Need.au ?_; conv => whnf) | (refine ⟨_, rfl, ?_⟩; conv => whnf) | (refine CallVC.auto sectD_k ?_; conv => whnf)))
    refine ⟨_, _, WeakV.trans (WeakV.of (Weak.fresh 2 0 3 rfl rfl rfl)) (WeakV.auto ?_), h⟩
    (repeat' ((conv => whnf); first | exact True.intro | (refine And.intro ?_ ?_)))
    all_goals first | rfl | exact .eq rfl
  have c1 : decide (((D.sc : Nat) : Int) < 4) = false := decide_eq_false (by omega)
  have hop : opn D = if D.fl.1 ≠ 0 then (D.fl.1, D.fl.2, w7z, []) else opnB D.fl.2 := by unfold opn; rw [if_neg h4]
  obtain ⟨e1, D1, hfl⟩ : ∃ e1 D1, D.fl = (e1, D1) := ⟨_, _, rfl⟩
  have hofl := ho.fl
  have hgeo := fl_geo D
  have hbfl := fl_buf D
  rw [hfl] at hop hofl hgeo hbfl
  have ho1 : D1.Ok := hofl
  have hz1 : D1.sz = D.sz := hgeo.1
  have hc1 : D1.sc = D.sc := hgeo.2
  have hbuf : D1.buf.length ≤ D.buf.length := hbfl
  have h2 : 2 ≤ D1.sc := by omega
  clear hgeo hofl hbfl
  (refine sx_sound Γok _ ?_; conv => whnf)
  (repeat (first | (refine Both.of_false c1 ?_; conv => whnf) | (exact Out.same; conv => whnf) | (exact Out1.same; conv => whnf) | (refine QAnd.mk ?_ ?_; conv => whnf) | (apply QStepH.go; conv => whnf) | (refine Both.lit_true ?_; conv => whnf) | (refine Both.lit_false ?_; conv => whnf) | (apply QStep.go; conv => whnf) | (refine Need.au ?_; conv => whnf) | (refine ⟨_, rfl, ?_⟩; conv => whnf) | (refine CallVC.auto sectD_k ?_; conv => whnf)))
  refine CallVC.auto flush_k (dIn_mk ho (fun e D' he => ?_))
  obtain ⟨u1, u2⟩ := Prod.mk.inj (he.trans hfl)
  clear he
  subst u1 u2
  (conv => whnf)
  (repeat (first | (exact Out.same; conv => whnf) | (exact Out1.same; conv => whnf) | (refine QAnd.mk ?_ ?_; conv => whnf) | (apply QStepH.go; conv => whnf) | (refine Both.lit_true ?_; conv => whnf) | (refine Both.lit_false ?_; conv => whnf) | (apply QStep.go; conv => whnf) | (refine Need.au ?_; conv => whnf) | (refine ⟨_, rfl, ?_⟩; conv => whnf)))
  refine Both.dec_not (fun hne => ?_) (fun heq => ?_)
  · have h := (h e D' w7z [] (by rw [hop]; exact (if_pos hne).symm)).1 hne
    (conv => whnf)
    (repeat (first | (exact Out.same; conv => whnf) | (exact Out1.same; conv => whnf) | (refine QAnd.mk ?_ ?_; conv => whnf) | (apply QStepH.go; conv => whnf) | (refine Both.lit_true ?_; conv => whnf) | (refine Both.lit_false ?_; conv => whnf) | (apply QStep.go; conv => whnf) | (refine Need.au ?_; conv => whnf) | (refine ⟨_, rfl, ?_⟩; conv => whnf)))
    refine ⟨_, _, WeakV.auto ?_, h⟩
    (repeat' ((conv => whnf); first | exact True.intro | (refine And.intro ?_ ?_)))
    all_goals first | rfl | exact .eq rfl
  have h : ∀ e2 D2 w2 l2, (e2, D2, w2, l2) = opnB D' → (e2 ≠ 0 → Q (.tuple [.nil, .nilsl, .int .i64 e2]) (dA D2)) ∧ (e2 = 0 → Q (.tuple [.ptr 3 0, .sl 1 l2.length (l2.map CV.str) false, .int .i64 0]) (oA D2 w2)) := fun e2 D2 w2 l2 he => h e2 D2 w2 l2 (by rw [hop, he]; exact (if_neg (fun q => q heq)).symm)
  clear hop
  have hl0 : (readV D' 0 1).length < 1000000 := by have := readV_len ho1 0 1; omega
  have hl1 : (readV D' 1 1).length < 1000000 := by have := readV_len ho1 1 1; omega
  obtain ⟨g, sg, at_, hnw⟩ : ∃ g sg a, hNew D'.sz [readV D' 0 1, readV D' 1 1] 2 = ((g, sg), a) := ⟨_, _, _, rfl⟩
  have hhd : hdD D' = ((g, sg), at_) := by
    unfold hdD
    rw [← readV_one D' 0, ← readV_one D' 1]
    exact hnw
  have hll : ∀ s ∈ [readV D' 0 1, readV D' 1 1], s.length < 1000000 := by
    intro s hs
    rcases List.mem_cons.1 hs with q | q
    · rw [q]; exact hl0
    · rw [List.mem_singleton.1 q]; exact hl1
  have hrg := hdD_rng D'
  rw [hhd] at hrg
  have hrg : at_ < 0 ∧ (g, sg) = ((0, 0) : Int × Int) ∨ 0 ≤ at_ ∧ at_ ≤ 1 ∧ 1 ≤ g ∧ g < 18446744073709551616 ∧ 0 ≤ sg ∧ sg ≤ 1 := hrg
  (conv => whnf)
  (repeat (first | (exact Out.same; conv => whnf) | (exact Out1.same; conv => whnf) | (refine QAnd.mk ?_ ?_; conv => whnf) | (apply QStepH.go; conv => whnf) | (refine Both.lit_true ?_; conv => whnf) | (refine Both.lit_false ?_; conv => whnf) | (apply QStep.go; conv => whnf) | (refine Need.au ?_; conv => whnf) | (refine ⟨_, rfl, ?_⟩; conv => whnf)))
  (refine DrawVC.any Γok (by kernel_rfl) (by kernel_rfl) (by kernel_rfl) (by rfl) ?_; conv => whnf)
  (repeat (first | (refine CallVC.auto readN_k (dIn_mk ho1 ⟨1, rfl, by decide, by decide, by decide, ?_⟩); conv => whnf) | (refine CallVC.auto hnewE_k ⟨[readV D' 0 1, readV D' 1 1], rfl, rfl, Nat.le_of_ble_eq_true rfl, hll, g, sg, at_, hnw.symm, ?_⟩; conv => whnf) | (exact Out.same; conv => whnf) | (exact Out1.same; conv => whnf) | (refine QAnd.mk ?_ ?_; conv => whnf) | (apply QStepH.go; conv => whnf) | (refine Both.lit_true ?_; conv => whnf) | (refine Both.lit_false ?_; conv => whnf) | (apply QStep.go; conv => whnf) | (refine Need.au ?_; conv => whnf) | (refine ⟨_, rfl, ?_⟩; conv => whnf) | (refine CallVC.auto sizeD_k ?_; conv => whnf)))
  refine Both.dec (fun hlt => ?_) (fun hge => ?_)
  · obtain ⟨hd, eh, hh⟩ : ∃ hd eh, hRes D'.sz 1 0 = (hd, eh) := ⟨_, _, rfl⟩
    obtain ⟨e3, D3, hput⟩ : ∃ e3 D3, putV D' 1 [hd] = (e3, D3) := ⟨_, _, rfl⟩
    have hopb : opnB D' = if e3 ≠ 0 then (e3, D3, w7z, []) else (0, D3, opnW D3 1 0 1) := by
      unfold opnB
      rw [hhd, hh]
      show (if at_ < 0 then (if (putV D' 1 [hd]).1 ≠ 0 then ((putV D' 1 [hd]).1, (putV D' 1 [hd]).2, w7z, []) else (0, (putV D' 1 [hd]).2, opnW (putV D' 1 [hd]).2 1 0 1)) else _) = _
      rw [if_pos hlt, hput]
    have hop3 := putV_ok [hd] D' 1 ho1 (by show D'.buf.length + 1 < 1000000; omega)
    have hge3 := putV_geo [hd] D' 1
    rw [hput] at hop3 hge3
    have ho3 : D3.Ok := hop3
    have hz3 : D3.sz = D'.sz := hge3.1
    have hc3 : D3.sc = D'.sc := hge3.2
    have h23 : 2 ≤ D3.sc := by omega
    have hv3 := seg_bd ho3
    have hb3 := base_bd D3 0 hv3
    have hl8 := readV_8 ho3 (baseV D3 0) hv3
    have hr3 := rightN_ok ho3
    have hd1 : D'.buf.length + ([hd] : List Bs).length < 1000000 := by show D'.buf.length + 1 < 1000000; omega
    clear hge3 hop3
    (conv => whnf)
    (repeat (first | (exact Out.same; conv => whnf) | (exact Out1.same; conv => whnf) | (refine QAnd.mk ?_ ?_; conv => whnf) | (apply QStepH.go; conv => whnf) | (refine Both.lit_true ?_; conv => whnf) | (refine Both.lit_false ?_; conv => whnf) | (apply QStep.go; conv => whnf) | (refine Need.au ?_; conv => whnf) | (refine ⟨_, rfl, ?_⟩; conv => whnf)))
    (refine DrawVC.any Γok (by kernel_rfl) (by kernel_rfl) (by kernel_rfl) (by rfl) ?_; conv => whnf)
    (repeat (first | (refine CallVC.auto hputE_k (Need.mk ⟨by decide, by decide⟩ ⟨hd, eh, hh.symm, ?_⟩); conv => whnf) | (exact Out.same; conv => whnf) | (exact Out1.same; conv => whnf) | (refine QAnd.mk ?_ ?_; conv => whnf) | (apply QStepH.go; conv => whnf) | (refine Both.lit_true ?_; conv => whnf) | (refine Both.lit_false ?_; conv => whnf) | (apply QStep.go; conv => whnf) | (refine Need.au ?_; conv => whnf) | (refine ⟨_, rfl, ?_⟩; conv => whnf) | (refine CallVC.auto sizeD_k ?_; conv => whnf)))
    (refine DrawVC.any Γok (by kernel_rfl) (by kernel_rfl) (by kernel_rfl) (by rfl) ?_; conv => whnf)
    (repeat (first | (refine CallVC.auto w7putE_k (dIn_mk ho1 ⟨[hd], rfl, rfl, by decide, by decide, Nat.le_of_ble_eq_true rfl, hd1, e3, D3, hput.symm, ?_⟩); conv => whnf) | (exact Out.same; conv => whnf) | (exact Out1.same; conv => whnf) | (refine QAnd.mk ?_ ?_; conv => whnf) | (apply QStepH.go; conv => whnf) | (refine Both.lit_true ?_; conv => whnf) | (refine Both.lit_false ?_; conv => whnf) | (apply QStep.go; conv => whnf) | (refine Need.au ?_; conv => whnf) | (refine ⟨_, rfl, ?_⟩; conv => whnf)))
    refine Both.dec_not (fun hne3 => ?_) (fun heq3 => ?_)
    · have h := (h e3 D3 w7z [] (by rw [hopb]; exact (if_pos hne3).symm)).1 hne3
      (conv => whnf)
      (repeat (first | (exact Out.same; conv => whnf) | (exact Out1.same; conv => whnf) | (refine QAnd.mk ?_ ?_; conv => whnf) | (apply QStepH.go; conv => whnf) | (refine Both.lit_true ?_; conv => whnf) | (refine Both.lit_false ?_; conv => whnf) | (apply QStep.go; conv => whnf) | (refine Need.au ?_; conv => whnf) | (refine ⟨_, rfl, ?_⟩; conv => whnf)))
      refine ⟨_, _, WeakV.auto ?_, h⟩
      (repeat' ((conv => whnf); first | exact True.intro | (refine And.intro ?_ ?_)))
      all_goals first | rfl | exact .eq rfl
    · obtain ⟨l, n, hscan⟩ : ∃ l n, scanA D3.sz 1 (readV D3 (baseV D3 0) (segV D3)) = (l, n) := ⟨_, _, rfl⟩
      have h := (h 0 D3 ⟨1, 0, 1, n, l.length, false, false⟩ l (by
        rw [hopb, if_neg (fun q => q heq3)]
        unfold opnW
        rw [hscan])).2 rfl
      have hfit := scanA_fits (z := D3.sz) (g := 1) (readV D3 (baseV D3 0) (segV D3))
      rw [hscan] at hfit
      have hll3 : l.length ≤ 100000000 := by
        have hz3' := ho3.sz
        have : n * 1 ≤ n * D3.sz := Nat.mul_le_mul_left _ (by omega)
        have h5 : n * D3.sz ≤ (readV D3 (baseV D3 0) (segV D3)).length := hfit.1
        have h6 : l.length ≤ n := hfit.2
        omega
      have hce : ([SV.ptr 0 0, .int .u64 1, .int .i64 0, .int .i64 1, .int .i64 ((n : Nat) : Int), .int .u64 (IntKind.u64.wrap ((l.length : Nat) : Int)), .bool false, .bool false] : List SV) = [SV.ptr 0 0, .int .u64 1, .int .i64 0, .int .i64 1, .int .i64 ((n : Nat) : Int), .int .u64 ((l.length : Nat) : Int), .bool false, .bool false] := by rw [wrap_u64 (by omega) (by omega)]
      (conv => whnf)
      (repeat (first | (exact Out.same; conv => whnf) | (exact Out1.same; conv => whnf) | (refine QAnd.mk ?_ ?_; conv => whnf) | (apply QStepH.go; conv => whnf) | (refine Both.lit_true ?_; conv => whnf) | (refine Both.lit_false ?_; conv => whnf) | (apply QStep.go; conv => whnf) | (refine Need.au ?_; conv => whnf) | (refine ⟨_, rfl, ?_⟩; conv => whnf)))
      (refine DrawVC.any Γok (by kernel_rfl) (by kernel_rfl) (by kernel_rfl) (by rfl) ?_; conv => whnf)
      (repeat (first | (refine CallVC.auto base_k (dIn_mk ho3 ⟨h23, by decide, by decide, ?_⟩); conv => whnf) | (refine CallVC.auto seg_k (dIn_mk ho3 ⟨h23, ?_⟩); conv => whnf) | (refine CallVC.auto readN_k (dIn_mk ho3 ⟨segV D3, rfl, by omega, by omega, by omega, ?_⟩); conv => whnf) | (refine CallVC.auto fscanE_k ⟨D3.sz, 1, l, n, rfl, rfl, by decide, hl8, hr3, hscan, ?_⟩; conv => whnf) | (exact Out.same; conv => whnf) | (exact Out1.same; conv => whnf) | (refine QAnd.mk ?_ ?_; conv => whnf) | (apply QStepH.go; conv => whnf) | (refine Both.lit_true ?_; conv => whnf) | (refine Both.lit_false ?_; conv => whnf) | (apply QStep.go; conv => whnf) | (refine Need.au ?_; conv => whnf) | (refine ⟨_, rfl, ?_⟩; conv => whnf) | (refine CallVC.auto sizeD_k ?_; conv => whnf)))
      refine ⟨_, _, WeakV.auto ?_, h⟩
      (repeat' ((conv => whnf); first | exact True.intro | (refine And.intro ?_ ?_)))
      all_goals first | rfl | exact .eq rfl | exact .eq hce
  · have hrg := hrg.resolve_left (fun q => hge q.1)
    obtain ⟨gn, rfl⟩ := Int.eq_ofNat_of_zero_le (show 0 ≤ g by omega)
    have hgn : gn < 18446744073709551616 := by omega
    have hv3 := seg_bd ho1
    have hb3 := base_bd D' sg hv3
    have hl8 := readV_8 ho1 (baseV D' sg) hv3
    have hr3 := rightN_ok ho1
    obtain ⟨l, n, hscan⟩ : ∃ l n, scanA D'.sz gn (readV D' (baseV D' sg) (segV D')) = (l, n) := ⟨_, _, rfl⟩
    have h := (h 0 D' ⟨gn, sg, at_, n, l.length, false, false⟩ l (by
      unfold opnB
      rw [hhd]
      show _ = (if at_ < 0 then _ else (0, D', opnW D' ((gn : Int)).toNat sg at_))
      rw [if_neg hge, Int.toNat_natCast]
      unfold opnW
      rw [hscan])).2 rfl
    have hfit := scanA_fits (z := D'.sz) (g := gn) (readV D' (baseV D' sg) (segV D'))
    rw [hscan] at hfit
    have hll3 : l.length ≤ 100000000 := by
      have hz3' := ho1.sz
      have : n * 1 ≤ n * D'.sz := Nat.mul_le_mul_left _ (by omega)
      have h5 : n * D'.sz ≤ (readV D' (baseV D' sg) (segV D')).length := hfit.1
      have h6 : l.length ≤ n := hfit.2
      omega
    have hce : ([SV.ptr 0 0, .int .u64 (gn : Int), .int .i64 sg, .int .i64 at_, .int .i64 ((n : Nat) : Int), .int .u64 (IntKind.u64.wrap ((l.length : Nat) : Int)), .bool false, .bool false] : List SV) = [SV.ptr 0 0, .int .u64 (gn : Int), .int .i64 sg, .int .i64 at_, .int .i64 ((n : Nat) : Int), .int .u64 ((l.length : Nat) : Int), .bool false, .bool false] := by rw [wrap_u64 (by omega) (by omega)]
    (conv => whnf)
    (repeat (first | (exact Out.same; conv => whnf) | (exact Out1.same; conv => whnf) | (refine QAnd.mk ?_ ?_; conv => whnf) | (apply QStepH.go; conv => whnf) | (refine Both.lit_true ?_; conv => whnf) | (refine Both.lit_false ?_; conv => whnf) | (apply QStep.go; conv => whnf) | (refine Need.au ?_; conv => whnf) | (refine ⟨_, rfl, ?_⟩; conv => whnf)))
    (refine DrawVC.any Γok (by kernel_rfl) (by kernel_rfl) (by kernel_rfl) (by rfl) ?_; conv => whnf)
    (repeat (first | (refine CallVC.auto base_k (dIn_mk ho1 ⟨h2, hrg.2.2.2.2.1, hrg.2.2.2.2.2, ?_⟩); conv => whnf) | (refine CallVC.auto seg_k (dIn_mk ho1 ⟨h2, ?_⟩); conv => whnf) | (refine CallVC.auto readN_k (dIn_mk ho1 ⟨segV D', rfl, by omega, by omega, by omega, ?_⟩); conv => whnf) | (refine CallVC.auto fscanE_k ⟨D'.sz, gn, l, n, rfl, rfl, hgn, hl8, hr3, hscan, ?_⟩; conv => whnf) | (exact Out.same; conv => whnf) | (exact Out1.same; conv => whnf) | (refine QAnd.mk ?_ ?_; conv => whnf) | (apply QStepH.go; conv => whnf) | (refine Both.lit_true ?_; conv => whnf) | (refine Both.lit_false ?_; conv => whnf) | (apply QStep.go; conv => whnf) | (refine Need.au ?_; conv => whnf) | (refine ⟨_, rfl, ?_⟩; conv => whnf) | (refine CallVC.auto sizeD_k ?_; conv => whnf)))
    refine ⟨_, _, WeakV.auto ?_, h⟩
    (repeat' ((conv => whnf); first | exact True.intro | (refine And.intro ?_ ?_)))
    all_goals first | rfl | exact .eq rfl | exact .eq hce
theorem openW_k : Contract Tryz.prog [] 17 openWS := ⟨⟨⟨_, rfl, rfl, rfl⟩⟩, openW_c⟩
end Go.LX
end
section
set_option maxRecDepth 100000
set_option maxHeartbeats 2000000
set_option autoImplicit false
set_option linter.unusedVariables false
set_option linter.unusedSimpArgs false
namespace Go.LX
open Go.Proofs

theorem rhputE_k : Contract Tryz.prog [] 76 hputES := rput_k.imp fun args H Q h => by
  unfold hputES at h
  split at h
  case h_2 => exact h.elim
  obtain ⟨hn, s, e, he, h⟩ := h
  exact ⟨hn, fun s2 e2 h2 => by
    obtain ⟨rfl, rfl⟩ := Prod.mk.inj (h2.trans he.symm)
    exact h⟩
def orA (D : Dsk) (w : W7) : List LObj := [.cells [.int .i64 (D.sz : Int), .int .i64 (D.sc : Int), .str D.st.flatten, .own 3, .int .i64 (D.ar : Int)] 59, .gone,
  .cells [.ptr 0 0, .int .u64 (w.g : Int), .int .i64 w.sg, .int .i64 w.slot, .int .i64 (w.used : Int), .int .i64 (w.sn : Int), .bool w.ready, .bool w.broken] 63, .own 135 2 D.buf.length (D.buf.flatMap wrEn) true]
def ropenS : Spec := fun args H Q => match args with
  | [.ptr 0 0] => rIn H fun D => D.buf.length ≤ 900000 ∧ ∀ e D' w l, (e, D', w, l) = opn D → (e ≠ 0 → Q (.tuple [.nil, .nilsl, .int .i64 e]) (rA D')) ∧ (e = 0 → Q (.tuple [.ptr 2 0, .sl 1 l.length (l.map CV.str) false, .int .i64 0]) (orA D' w))
  | _ => False
theorem ropen_c : Meets Tryz.prog [] 55 ropenS := by
  refine meets_of Γok Tryz.func55 rfl ?_
  intro args H Q h
  unfold ropenS at h
  split at h
  case h_2 => exact h.elim
  obtain ⟨D, rfl, ho, hb, h⟩ := rIn_out h
  have hsc := ho.sc
  by_cases h4 : D.sc < 4
  · have h := (h 1 D w7z [] (by unfold opn; rw [if_pos h4])).1 (by decide)
    have c1 : decide (((D.sc : Nat) : Int) < 4) = true := decide_eq_true (by omega)
    (refine sx_sound Γok _ ?_; conv => whnf)
    (repeat (first | (refine Both.of_true c1 ?_; conv => whnf) | (exact Out.same; conv => whnf) | (exact Out1.same; conv => whnf) | (refine QAnd.mk ?_ ?_; conv => whnf) | (apply QStepH.go; conv => whnf) | (refine Both.lit_true ?_; conv => whnf) | (refine Both.lit_false ?_; conv => whnf) | (apply QStep.go; conv => whnf) | (refine Need.au ?_; conv => whnf) | (refine ⟨_, rfl, ?_⟩; conv => whnf)))
    refine ⟨_, _, WeakV.trans (WeakV.of (Weak.fresh 1 0 3 rfl rfl rfl)) (WeakV.auto ?_), h⟩
    (repeat' ((conv => whnf); first | exact True.intro | (refine And.intro ?_ ?_)))
    all_goals first | rfl | exact .eq rfl
  have c1 : decide (((D.sc : Nat) : Int) < 4) = false := decide_eq_false (by omega)
  have hop : opn D = if D.fl.1 ≠ 0 then (D.fl.1, D.fl.2, w7z, []) else opnB D.fl.2 := by unfold opn; rw [if_neg h4]
  obtain ⟨e1, D1, hfl⟩ : ∃ e1 D1, D.fl = (e1, D1) := ⟨_, _, rfl⟩
  have hofl := ho.fl
  have hgeo := fl_geo D
  have hbfl := fl_buf D
  rw [hfl] at hop hofl hgeo hbfl
  have ho1 : D1.Ok := hofl
  have hz1 : D1.sz = D.sz := hgeo.1
  have hc1 : D1.sc = D.sc := hgeo.2
  have hbuf : D1.buf.length ≤ D.buf.length := hbfl
  have h2 : 2 ≤ D1.sc := by omega
  clear hgeo hofl hbfl
  (refine sx_sound Γok _ ?_; conv => whnf)
  (repeat (first | (refine Both.of_false c1 ?_; conv => whnf) | (exact Out.same; conv => whnf) | (exact Out1.same; conv => whnf) | (refine QAnd.mk ?_ ?_; conv => whnf) | (apply QStepH.go; conv => whnf) | (refine Both.lit_true ?_; conv => whnf) | (refine Both.lit_false ?_; conv => whnf) | (apply QStep.go; conv => whnf) | (refine Need.au ?_; conv => whnf) | (refine ⟨_, rfl, ?_⟩; conv => whnf)))
  refine CallVC.auto rflush_k (rIn_mk ho (fun e D' he => ?_))
  obtain ⟨u1, u2⟩ := Prod.mk.inj (he.trans hfl)
  clear he
  subst u1 u2
  (conv => whnf)
  (repeat (first | (exact Out.same; conv => whnf) | (exact Out1.same; conv => whnf) | (refine QAnd.mk ?_ ?_; conv => whnf) | (apply QStepH.go; conv => whnf) | (refine Both.lit_true ?_; conv => whnf) | (refine Both.lit_false ?_; conv => whnf) | (apply QStep.go; conv => whnf) | (refine Need.au ?_; conv => whnf) | (refine ⟨_, rfl, ?_⟩; conv => whnf)))
  refine Both.dec_not (fun hne => ?_) (fun heq => ?_)
  · have h := (h e D' w7z [] (by rw [hop]; exact (if_pos hne).symm)).1 hne
    (conv => whnf)
    (repeat (first | (exact Out.same; conv => whnf) | (exact Out1.same; conv => whnf) | (refine QAnd.mk ?_ ?_; conv => whnf) | (apply QStepH.go; conv => whnf) | (refine Both.lit_true ?_; conv => whnf) | (refine Both.lit_false ?_; conv => whnf) | (apply QStep.go; conv => whnf) | (refine Need.au ?_; conv => whnf) | (refine ⟨_, rfl, ?_⟩; conv => whnf)))
    refine ⟨_, _, WeakV.auto ?_, h⟩
    (repeat' ((conv => whnf); first | exact True.intro | (refine And.intro ?_ ?_)))
    all_goals first | rfl | exact .eq rfl
  have h : ∀ e2 D2 w2 l2, (e2, D2, w2, l2) = opnB D' → (e2 ≠ 0 → Q (.tuple [.nil, .nilsl, .int .i64 e2]) (rA D2)) ∧ (e2 = 0 → Q (.tuple [.ptr 2 0, .sl 1 l2.length (l2.map CV.str) false, .int .i64 0]) (orA D2 w2)) := fun e2 D2 w2 l2 he => h e2 D2 w2 l2 (by rw [hop, he]; exact (if_neg (fun q => q heq)).symm)
  clear hop
  (conv => whnf)
  (repeat (first | (exact Out.same; conv => whnf) | (exact Out1.same; conv => whnf) | (refine QAnd.mk ?_ ?_; conv => whnf) | (apply QStepH.go; conv => whnf) | (refine Both.lit_true ?_; conv => whnf) | (refine Both.lit_false ?_; conv => whnf) | (apply QStep.go; conv => whnf) | (refine Need.au ?_; conv => whnf) | (refine ⟨_, rfl, ?_⟩; conv => whnf)))
  refine CallVC.auto d4rread_k (rIn_mk ho1 fun a ea hea => ?_)
  have ha : a = (D'.rd 0).1 := congrArg Prod.fst hea
  clear hea
  (conv => whnf)
  (repeat (first | (exact Out.same; conv => whnf) | (exact Out1.same; conv => whnf) | (refine QAnd.mk ?_ ?_; conv => whnf) | (apply QStepH.go; conv => whnf) | (refine Both.lit_true ?_; conv => whnf) | (refine Both.lit_false ?_; conv => whnf) | (apply QStep.go; conv => whnf) | (refine Need.au ?_; conv => whnf) | (refine ⟨_, rfl, ?_⟩; conv => whnf)))
  refine CallVC.auto d4rread_k (rIn_mk ho1 fun b eb heb => ?_)
  have hbb : b = (D'.rd 1).1 := congrArg Prod.fst heb
  clear heb
  have hsz := ho1.sz
  have hla : a.length < 1000000 := by have := rd_len ho1 0; rw [ha]; omega
  have hlb : b.length < 1000000 := by have := rd_len ho1 1; rw [hbb]; omega
  obtain ⟨g, sg, at_, hnw⟩ : ∃ g sg a2, hNew D'.sz [a, b] 2 = ((g, sg), a2) := ⟨_, _, _, rfl⟩
  have hhd : hdD D' = ((g, sg), at_) := by
    unfold hdD
    rw [← ha, ← hbb]
    exact hnw
  have hll : ∀ s ∈ [a, b], s.length < 1000000 := by
    intro s hs
    rcases List.mem_cons.1 hs with q | q
    · rw [q]; exact hla
    · rw [List.mem_singleton.1 q]; exact hlb
  have hrg := hdD_rng D'
  rw [hhd] at hrg
  have hrg : at_ < 0 ∧ (g, sg) = ((0, 0) : Int × Int) ∨ 0 ≤ at_ ∧ at_ ≤ 1 ∧ 1 ≤ g ∧ g < 18446744073709551616 ∧ 0 ≤ sg ∧ sg ≤ 1 := hrg
  clear ha hbb
  (conv => whnf)
  (repeat (first | (refine CallVC.auto rnewE_k ⟨[a, b], rfl, rfl, Nat.le_of_ble_eq_true rfl, hll, g, sg, at_, hnw.symm, ?_⟩; conv => whnf) | (exact Out.same; conv => whnf) | (exact Out1.same; conv => whnf) | (refine QAnd.mk ?_ ?_; conv => whnf) | (apply QStepH.go; conv => whnf) | (refine Both.lit_true ?_; conv => whnf) | (refine Both.lit_false ?_; conv => whnf) | (apply QStep.go; conv => whnf) | (refine Need.au ?_; conv => whnf) | (refine ⟨_, rfl, ?_⟩; conv => whnf)))
  refine Both.dec (fun hlt => ?_) (fun hge => ?_)
  · obtain ⟨hd, eh, hh⟩ : ∃ hd eh, hRes D'.sz 1 0 = (hd, eh) := ⟨_, _, rfl⟩
    obtain ⟨e3, D3, hput⟩ : ∃ e3 D3, putV D' 1 [hd] = (e3, D3) := ⟨_, _, rfl⟩
    have hopb : opnB D' = if e3 ≠ 0 then (e3, D3, w7z, []) else (0, D3, opnW D3 1 0 1) := by
      unfold opnB
      rw [hhd, hh]
      show (if at_ < 0 then (if (putV D' 1 [hd]).1 ≠ 0 then ((putV D' 1 [hd]).1, (putV D' 1 [hd]).2, w7z, []) else (0, (putV D' 1 [hd]).2, opnW (putV D' 1 [hd]).2 1 0 1)) else _) = _
      rw [if_pos hlt, hput]
    have hop3 := putV_ok [hd] D' 1 ho1 (by show D'.buf.length + 1 < 1000000; omega)
    have hge3 := putV_geo [hd] D' 1
    rw [hput] at hop3 hge3
    have ho3 : D3.Ok := hop3
    have hc3 : D3.sc = D'.sc := hge3.2
    have h23 : 2 ≤ D3.sc := by omega
    have hd1 : D'.buf.length + ([hd] : List Bs).length < 1000000 := by show D'.buf.length + 1 < 1000000; omega
    clear hge3 hop3
    (conv => whnf)
    (repeat (first | (exact Out.same; conv => whnf) | (exact Out1.same; conv => whnf) | (refine QAnd.mk ?_ ?_; conv => whnf) | (apply QStepH.go; conv => whnf) | (refine Both.lit_true ?_; conv => whnf) | (refine Both.lit_false ?_; conv => whnf) | (apply QStep.go; conv => whnf) | (refine Need.au ?_; conv => whnf) | (refine ⟨_, rfl, ?_⟩; conv => whnf)))
    (refine DrawVC.any Γok (by kernel_rfl) (by kernel_rfl) (by kernel_rfl) (by rfl) ?_; conv => whnf)
    (repeat (first | (refine CallVC.auto rhputE_k (Need.mk ⟨by decide, by decide⟩ ⟨hd, eh, hh.symm, ?_⟩); conv => whnf) | (exact Out.same; conv => whnf) | (exact Out1.same; conv => whnf) | (refine QAnd.mk ?_ ?_; conv => whnf) | (apply QStepH.go; conv => whnf) | (refine Both.lit_true ?_; conv => whnf) | (refine Both.lit_false ?_; conv => whnf) | (apply QStep.go; conv => whnf) | (refine Need.au ?_; conv => whnf) | (refine ⟨_, rfl, ?_⟩; conv => whnf)))
    refine CallVC.auto r7put_k (rIn_mk ho1 ⟨[hd], rfl, rfl, by decide, by decide, Nat.le_of_ble_eq_true rfl, hd1, fun e5 D5 he5 => ?_⟩)
    obtain ⟨u1, u2⟩ := Prod.mk.inj (he5.trans hput)
    clear he5
    subst u1 u2
    (conv => whnf)
    (repeat (first | (exact Out.same; conv => whnf) | (exact Out1.same; conv => whnf) | (refine QAnd.mk ?_ ?_; conv => whnf) | (apply QStepH.go; conv => whnf) | (refine Both.lit_true ?_; conv => whnf) | (refine Both.lit_false ?_; conv => whnf) | (apply QStep.go; conv => whnf) | (refine Need.au ?_; conv => whnf) | (refine ⟨_, rfl, ?_⟩; conv => whnf)))
    refine Both.dec_not (fun hne3 => ?_) (fun heq3 => ?_)
    · have h := (h e5 D5 w7z [] (by rw [hopb]; exact (if_pos hne3).symm)).1 hne3
      (conv => whnf)
      (repeat (first | (exact Out.same; conv => whnf) | (exact Out1.same; conv => whnf) | (refine QAnd.mk ?_ ?_; conv => whnf) | (apply QStepH.go; conv => whnf) | (refine Both.lit_true ?_; conv => whnf) | (refine Both.lit_false ?_; conv => whnf) | (apply QStep.go; conv => whnf) | (refine Need.au ?_; conv => whnf) | (refine ⟨_, rfl, ?_⟩; conv => whnf)))
      refine ⟨_, _, WeakV.auto ?_, h⟩
      (repeat' ((conv => whnf); first | exact True.intro | (refine And.intro ?_ ?_)))
      all_goals first | rfl | exact .eq rfl
    · obtain ⟨l, n, hscan⟩ : ∃ l n, scanA D5.sz 1 (readV D5 (baseV D5 0) (segV D5)) = (l, n) := ⟨_, _, rfl⟩
      have h := (h 0 D5 ⟨1, 0, 1, n, l.length, false, false⟩ l (by
        rw [hopb, if_neg (fun q => q heq3)]
        unfold opnW
        rw [hscan])).2 rfl
      (conv => whnf)
      (repeat (first | (refine CallVC.auto recs_k (rIn_mk ho3 ⟨1, l, n, rfl, by decide, h23, hscan, ?_⟩); conv => whnf) | (exact Out.same; conv => whnf) | (exact Out1.same; conv => whnf) | (refine QAnd.mk ?_ ?_; conv => whnf) | (apply QStepH.go; conv => whnf) | (refine Both.lit_true ?_; conv => whnf) | (refine Both.lit_false ?_; conv => whnf) | (apply QStep.go; conv => whnf) | (refine Need.au ?_; conv => whnf) | (refine ⟨_, rfl, ?_⟩; conv => whnf)))
      refine ⟨_, _, WeakV.auto ?_, h⟩
      (repeat' ((conv => whnf); first | exact True.intro | (refine And.intro ?_ ?_)))
      all_goals first | rfl | exact .eq rfl
  · have hrg := hrg.resolve_left (fun q => hge q.1)
    obtain ⟨gn, rfl⟩ := Int.eq_ofNat_of_zero_le (show 0 ≤ g by omega)
    have hgn : gn < 18446744073709551616 := by omega
    obtain ⟨l, n, hscan⟩ : ∃ l n, scanA D'.sz gn (readV D' (baseV D' sg) (segV D')) = (l, n) := ⟨_, _, rfl⟩
    have h := (h 0 D' ⟨gn, sg, at_, n, l.length, false, false⟩ l (by
      unfold opnB
      rw [hhd]
      show _ = (if at_ < 0 then _ else (0, D', opnW D' ((gn : Int)).toNat sg at_))
      rw [if_neg hge, Int.toNat_natCast]
      unfold opnW
      rw [hscan])).2 rfl
    (conv => whnf)
    (repeat (first | (refine CallVC.auto recs_k (rIn_mk ho1 ⟨gn, l, n, rfl, hgn, h2, hscan, ?_⟩); conv => whnf) | (exact Out.same; conv => whnf) | (exact Out1.same; conv => whnf) | (refine QAnd.mk ?_ ?_; conv => whnf) | (apply QStepH.go; conv => whnf) | (refine Both.lit_true ?_; conv => whnf) | (refine Both.lit_false ?_; conv => whnf) | (apply QStep.go; conv => whnf) | (refine Need.au ?_; conv => whnf) | (refine ⟨_, rfl, ?_⟩; conv => whnf)))
    refine ⟨_, _, WeakV.auto ?_, h⟩
    (repeat' ((conv => whnf); first | exact True.intro | (refine And.intro ?_ ?_)))
    all_goals first | rfl | exact .eq rfl
theorem ropen_k : Contract Tryz.prog [] 55 ropenS := ⟨⟨⟨_, rfl, rfl, rfl⟩⟩, ropen_c⟩
end Go.LX
end
section
set_option maxRecDepth 100000
set_option maxHeartbeats 2000000
set_option autoImplicit false
set_option linter.unusedVariables false
set_option linter.unusedSimpArgs false
namespace Go.LX
open Go.Proofs

theorem wr_err {D : Dsk} {n : Int} {t : Bs} (h : 0 ≤ n ∧ n < D.sc ∧ t.length = D.sz) : (D.wr n t).1 = 0 ∨ (D.wr n t).1 = 13 := by
  unfold Dsk.wr
  rw [if_pos h]
  split
  · exact .inr rfl
  · exact .inl rfl
theorem putV_err : ∀ (l : List Bs) (D : Dsk) (n : Int), 0 ≤ n → n + l.length ≤ D.sc → (∀ t ∈ l, t.length = D.sz) → (putV D n l).1 = 0 ∨ (putV D n l).1 = 13
  | [], D, n, _, _, _ => by
    rw [putV]
    unfold Dsk.fl
    split
    · exact .inr rfl
    · exact .inl rfl
  | t :: l, D, n, h0, h1, h2 => by
    rw [List.length_cons] at h1
    have hg := wr_geo D n t
    have he := wr_err (D := D) (n := n) (t := t) ⟨h0, by omega, h2 t List.mem_cons_self⟩
    rw [putV]
    split
    · exact putV_err l _ (n + 1) (by omega) (by rw [hg.2]; omega) (fun x hx => by rw [hg.1]; exact h2 x (List.mem_cons_of_mem _ hx))
    · exact he
theorem split_post {f : FuncId} (hc : Contract Tryz.prog [] f splitS) : Contract Tryz.prog [] f splitPS := hc.post fun args H Q h => by
  unfold splitPS at h
  split at h
  case h_2 => exact h.elim
  rename_i z g sr s
  obtain ⟨gn, sn, rfl, rfl, h1, h2, h3, L, e, he, h⟩ := h
  refine ⟨gn, sn, rfl, rfl, h1, h2, h3, fun h0 => ?_, fun h0 => ?_⟩
  · obtain ⟨rfl, rfl⟩ := Prod.mk.inj (he.trans (if_pos h0))
    exact ⟨_, _, WeakV.drop rfl, h⟩
  · obtain ⟨rfl, rfl⟩ := Prod.mk.inj (he.trans (if_neg h0))
    exact ⟨_, _, (WeakV.pubTup (e := 9) (sz := 1) (n := (splitL z.toNat gn sn s).length) (xs := strL (splitL z.toNat gn sn s)) (wr := true) 0 rfl).trans (WeakV.drop rfl), h⟩
theorem rsplitP_k : Contract Tryz.prog [] 72 splitPS := split_post rsplit_k
theorem r7putE_imp {H : List LObj} {k k' : Dsk → Prop} (h : rIn H k) (hk : ∀ D, k D → k' D) : rIn H k' := by
  unfold rIn at h ⊢
  split at h
  · obtain ⟨D, h1, h2, h3, h4, h5, h6, h7, h8⟩ := h
    exact ⟨D, h1, h2, h3, h4, h5, h6, h7, hk D h8⟩
  · exact h.elim
def r7putES : Spec := fun args H Q => match args with
  | [.ptr 0 0, .int .i64 n, .sl 1 m cs f] => rIn H fun D => ∃ l : List Bs, m = l.length ∧ cs = l.map CV.str ∧ 0 ≤ n ∧ n ≤ 1000000 ∧ l.length ≤ 1000000 ∧ D.buf.length + l.length < 1000000 ∧ ∃ e D', (e, D') = putV D n l ∧ Q (.int .i64 e) (rA D')
  | _ => False
theorem r7putE_k : Contract Tryz.prog [] 73 r7putES := r7put_k.imp fun args H Q h => by
  unfold r7putES at h
  split at h
  case h_2 => exact h.elim
  exact r7putE_imp h fun D ⟨l, h1, h2, h3, h4, h5, h6, e, D', h7, h8⟩ => ⟨l, h1, h2, h3, h4, h5, h6, fun e2 D2 he => by
    obtain ⟨rfl, rfl⟩ := Prod.mk.inj (he.trans h7.symm)
    exact h8⟩
def rwB (D : Dsk) (w : W7) : List LObj := [.cells [.ptr 1 0, .int .u64 (w.g : Int), .int .i64 w.sg, .int .i64 w.slot, .int .i64 (w.used : Int), .int .i64 (w.sn : Int), .bool w.ready, .bool w.broken] 63, .cells [.int .i64 (D.sz : Int), .int .i64 (D.sc : Int), .str D.st.flatten, .own 2, .int .i64 (D.ar : Int)] 59, .own 135 2 D.buf.length (D.buf.flatMap wrEn) true]
def rwA (D : Dsk) (w : W7) : List LObj := [.cells [.ptr 1 0, .int .u64 (w.g : Int), .int .i64 w.sg, .int .i64 w.slot, .int .i64 (w.used : Int), .int .i64 (w.sn : Int), .bool w.ready, .bool w.broken] 63, .cells [.int .i64 (D.sz : Int), .int .i64 (D.sc : Int), .str D.st.flatten, .own 3, .int .i64 (D.ar : Int)] 59, .gone, .own 135 2 D.buf.length (D.buf.flatMap wrEn) true]
def rwIn (H : List LObj) (k : Dsk → W7 → Prop) : Prop :=
  match H with
  | [.cells [.ptr 1 0, .int .u64 g, .int .i64 sg, .int .i64 sl, .int .i64 us, .int .i64 sn, .bool rd, .bool br] 63, .cells [.int .i64 z, .int .i64 c, .str s, .own 2, .int .i64 a] 59, .own 135 2 m ys true] =>
    ∃ (D : Dsk) (w : W7), (g = w.g ∧ sg = w.sg ∧ sl = w.slot ∧ us = w.used ∧ sn = w.sn ∧ rd = w.ready ∧ br = w.broken) ∧ (z = D.sz ∧ c = D.sc ∧ s = D.st.flatten ∧ a = D.ar ∧ m = D.buf.length ∧ ys = D.buf.flatMap wrEn) ∧ D.Ok ∧ w.Ok D ∧ k D w
  | _ => False
theorem rwIn_out {H : List LObj} {k : Dsk → W7 → Prop} (h : rwIn H k) : ∃ (D : Dsk) (w : W7), H = rwB D w ∧ D.Ok ∧ w.Ok D ∧ k D w := by
  unfold rwIn at h
  split at h
  case h_2 => exact h.elim
  obtain ⟨D, w, ⟨rfl, rfl, rfl, rfl, rfl, rfl, rfl⟩, ⟨rfl, rfl, rfl, rfl, rfl, rfl⟩, h1, h2, h3⟩ := h
  exact ⟨D, w, rfl, h1, h2, h3⟩
theorem rwIn_mk {D : Dsk} {w : W7} {k : Dsk → W7 → Prop} (h1 : D.Ok) (h2 : w.Ok D) (h3 : k D w) : rwIn (rwB D w) k := ⟨D, w, ⟨rfl, rfl, rfl, rfl, rfl, rfl, rfl⟩, ⟨rfl, rfl, rfl, rfl, rfl, rfl⟩, h1, h2, h3⟩
def rappS : Spec := fun args H Q => match args with
  | [.ptr 0 0, .str s] => rwIn H fun D w => s.length ≤ 1000000 ∧ D.buf.length ≤ 900000 ∧ ∀ e D' w', (e, D', w') = appL D w s → Q (.int .i64 e) (rwA D' w')
  | _ => False
theorem w7_eta {w : W7} {b : Bool} (h : w.broken = b) : ({ w with broken := b } : W7) = w := by
  cases w
  cases h
  rfl
theorem err_eta {w : W7} (hb : w.broken = false) {e : Int} (h : e ≠ 13) : ({ w with broken := decide (e = 13) } : W7) = w := by
  rw [decide_eq_false h]
  exact w7_eta hb
theorem parts_zero {z : Int} {n : Nat} (h : 4096 < n) : partsV z (n : Int) = 0 := by
  unfold partsV
  rw [if_neg (by omega)]
theorem rapp_c : Meets Tryz.prog [] 47 rappS := by
  refine meets_of Γok Tryz.func47 rfl ?_
  intro args H Q h
  unfold rappS at h
  split at h
  case h_2 => exact h.elim
  rename_i s
  obtain ⟨D, w, rfl, ho, hw, hs, hb, h⟩ := rwIn_out h
  have hsz := ho.sz
  have hsc := ho.sc
  have hs4 := hw.sc
  have hg := hw.g
  have hu := hw.used
  have hsn := hw.sn
  have hsg := hw.sg
  have hv : segV D ≤ 2047 := by unfold segV; omega
  cases hbr : w.broken with
  | true =>
    have h := h 14 D w (by unfold appL; rw [if_pos hbr])
    (refine sx_sound Γok _ ?_; conv => whnf)
    (repeat (first | (refine Both.of_true hbr ?_; conv => whnf) | (exact Out.same; conv => whnf) | (exact Out1.same; conv => whnf) | (refine QAnd.mk ?_ ?_; conv => whnf) | (apply QStepH.go; conv => whnf) | (refine Both.lit_true ?_; conv => whnf) | (refine Both.lit_false ?_; conv => whnf) | (apply QStep.go; conv => whnf) | (refine Need.au ?_; conv => whnf) | (refine ⟨_, rfl, ?_⟩; conv => whnf)))
    refine ⟨_, _, WeakV.trans (WeakV.of (Weak.fresh 2 1 3 rfl rfl rfl)) (WeakV.auto ?_), h⟩
    (repeat' ((conv => whnf); first | exact True.intro | (refine And.intro ?_ ?_)))
    all_goals first | rfl | exact .eq rfl
  | false =>
  have hnb : ¬ w.broken = true := by rw [hbr]; decide
  cases hr : w.ready with
  | false =>
    have h := h 15 D w (by
      unfold appL appP
      rw [if_neg hnb, if_pos hr]
      show _ = ((15 : Int), D, ({ w with broken := decide ((15 : Int) = 13) } : W7))
      rw [err_eta hbr (by decide)])
    have c1 : (!w.ready) = true := by rw [hr]; rfl
    (refine sx_sound Γok _ ?_; conv => whnf)
    (repeat (first | (refine Both.of_false hbr ?_; conv => whnf) | (refine Both.of_true c1 ?_; conv => whnf) | (exact Out.same; conv => whnf) | (exact Out1.same; conv => whnf) | (refine QAnd.mk ?_ ?_; conv => whnf) | (apply QStepH.go; conv => whnf) | (refine Both.lit_true ?_; conv => whnf) | (refine Both.lit_false ?_; conv => whnf) | (apply QStep.go; conv => whnf) | (refine Need.au ?_; conv => whnf) | (refine ⟨_, rfl, ?_⟩; conv => whnf)))
    refine ⟨_, _, WeakV.trans (WeakV.of (Weak.fresh 2 1 3 rfl rfl rfl)) (WeakV.auto ?_), h⟩
    (repeat' ((conv => whnf); first | exact True.intro | (refine And.intro ?_ ?_)))
    all_goals first | rfl | exact .eq rfl
  | true =>
  have c1 : (!w.ready) = false := by rw [hr]; rfl
  have hnr : ¬ w.ready = false := by rw [hr]; decide
  by_cases hlen : 4096 < s.length
  · have hp := parts_zero (z := D.sz) hlen
    have h := h 1 D w (by
      unfold appL appP
      rw [if_neg hnb, if_neg hnr, if_pos hp]
      show _ = ((1 : Int), D, ({ w with broken := decide ((1 : Int) = 13) } : W7))
      rw [err_eta hbr (by decide)])
    have c2 : decide ((4096 : Int) < ((s.length : Nat) : Int)) = true := decide_eq_true (by omega)
    (refine sx_sound Γok _ ?_; conv => whnf)
    (repeat (first | (refine Both.of_false hbr ?_; conv => whnf) | (refine Both.of_false c1 ?_; conv => whnf) | (refine Both.of_true c2 ?_; conv => whnf) | (exact Out.same; conv => whnf) | (exact Out1.same; conv => whnf) | (refine QAnd.mk ?_ ?_; conv => whnf) | (apply QStepH.go; conv => whnf) | (refine Both.lit_true ?_; conv => whnf) | (refine Both.lit_false ?_; conv => whnf) | (apply QStep.go; conv => whnf) | (refine Need.au ?_; conv => whnf) | (refine ⟨_, rfl, ?_⟩; conv => whnf)))
    refine ⟨_, _, WeakV.trans (WeakV.of (Weak.fresh 2 1 3 rfl rfl rfl)) (WeakV.auto ?_), h⟩
    (repeat' ((conv => whnf); first | exact True.intro | (refine And.intro ?_ ?_)))
    all_goals first | rfl | exact .eq rfl
  have c2 : decide ((4096 : Int) < ((s.length : Nat) : Int)) = false := decide_eq_false (by omega)
  have hpn : partsV D.sz s.length = npar (D.sz - 25) s.length := by
    unfold partsV
    rw [if_pos (by omega), Int.toNat_natCast, Int.toNat_natCast]
  have hpos := npar_pos (D.sz - 25) s.length
  have hp : ¬ partsV D.sz s.length = 0 := by omega
  have htn : (D.sz : Int).toNat = D.sz := Int.toNat_natCast _
  have hLp : (splitL D.sz w.g w.sn s).length = npar (D.sz - 25) s.length := splitL_len _ _ _ _
  have hLz : ∀ t ∈ splitL D.sz w.g w.sn s, t.length = D.sz := fun t ht => splitL_size hsz ht
  obtain ⟨L, hL⟩ : ∃ L, splitL D.sz w.g w.sn s = L := ⟨_, rfl⟩
  have hsp : ((.sl 1 L.length (L.map CV.str) false, 0) : SV × Int) = (if partsV D.sz s.length = 0 then (.nilsl, 1) else (.sl 1 (splitL (D.sz : Int).toNat w.g w.sn s).length ((splitL (D.sz : Int).toNat w.g w.sn s).map CV.str) false, 0)) := by rw [if_neg hp, htn, hL]
  rw [hL] at hLp hLz
  have hwsn : IntKind.u64.wrap ((w.sn : Nat) : Int) = ((w.sn : Nat) : Int) := wrap_u64 (by omega) (by omega)
  have hws : IntKind.i64.wrap (((segV D : Nat) : Int) - ((w.used : Nat) : Int)) = ((segV D - w.used : Nat) : Int) := by rw [wrap_i64 (by omega) (by omega)]; omega
  have h2 : 2 ≤ D.sc := by omega
  by_cases hf : fitsW D w s.length
  case neg =>
    have h := h 2 D w (by
      unfold appL appP
      rw [if_neg hnb, if_neg hnr, if_neg hp, if_pos hf]
      show _ = ((2 : Int), D, ({ w with broken := decide ((2 : Int) = 13) } : W7))
      rw [err_eta hbr (by decide)])
    have c3 : decide (IntKind.i64.wrap (((segV D : Nat) : Int) - ((w.used : Nat) : Int)) < ((L.length : Nat) : Int)) = true := decide_eq_true (by
      rw [hws]
      unfold fitsW at hf
      omega)
    (refine sx_sound Γok _ ?_; conv => whnf)
    (repeat (first | (refine Both.of_false hbr ?_; conv => whnf) | (refine Both.of_false c1 ?_; conv => whnf) | (refine Both.of_false c2 ?_; conv => whnf) | (exact Out.same; conv => whnf) | (exact Out1.same; conv => whnf) | (refine QAnd.mk ?_ ?_; conv => whnf) | (apply QStepH.go; conv => whnf) | (refine Both.lit_true ?_; conv => whnf) | (refine Both.lit_false ?_; conv => whnf) | (apply QStep.go; conv => whnf) | (refine Need.au ?_; conv => whnf) | (refine ⟨_, rfl, ?_⟩; conv => whnf)))
    (refine DrawVC.any Γok (by kernel_rfl) (by kernel_rfl) (by kernel_rfl) (by rfl) ?_; conv => whnf)
    (repeat (first | (refine CallVC.auto rsplitP_k ⟨w.g, w.sn, rfl, hwsn, hg.2, by omega, by omega, .sl 1 L.length (L.map CV.str) false, 0, hsp, ?_⟩; conv => whnf) | (exact Out.same; conv => whnf) | (exact Out1.same; conv => whnf) | (refine QAnd.mk ?_ ?_; conv => whnf) | (apply QStepH.go; conv => whnf) | (refine Both.lit_true ?_; conv => whnf) | (refine Both.lit_false ?_; conv => whnf) | (apply QStep.go; conv => whnf) | (refine Need.au ?_; conv => whnf) | (refine ⟨_, rfl, ?_⟩; conv => whnf)))
    (refine DrawVC.any Γok (by kernel_rfl) (by kernel_rfl) (by kernel_rfl) (by rfl) ?_; conv => whnf)
    (repeat (first | (refine CallVC.auto rseg_k (rIn_mk ho ⟨h2, ?_⟩); conv => whnf) | (refine Both.of_true c3 ?_; conv => whnf) | (exact Out.same; conv => whnf) | (exact Out1.same; conv => whnf) | (refine QAnd.mk ?_ ?_; conv => whnf) | (apply QStepH.go; conv => whnf) | (refine Both.lit_true ?_; conv => whnf) | (refine Both.lit_false ?_; conv => whnf) | (apply QStep.go; conv => whnf) | (refine Need.au ?_; conv => whnf) | (refine ⟨_, rfl, ?_⟩; conv => whnf)))
    refine ⟨_, _, WeakV.trans (WeakV.of (Weak.fresh 2 1 3 rfl rfl rfl)) (WeakV.auto ?_), h⟩
    (repeat' ((conv => whnf); first | exact True.intro | (refine And.intro ?_ ?_)))
    all_goals first | rfl | exact .eq rfl
  have c3 : decide (IntKind.i64.wrap (((segV D : Nat) : Int) - ((w.used : Nat) : Int)) < ((L.length : Nat) : Int)) = false := decide_eq_false (by
    rw [hws]
    unfold fitsW at hf
    omega)
  obtain ⟨f1, f2⟩ := hf
  have hbv : 2 ≤ baseV D w.sg ∧ baseV D w.sg + ((segV D : Nat) : Int) ≤ D.sc := by
    unfold baseV segV
    split <;> omega
  have hwb : IntKind.i64.wrap (baseV D w.sg + ((w.used : Nat) : Int)) = baseV D w.sg + ((w.used : Nat) : Int) := wrap_i64 (by omega) (by omega)
  have hn0 : 0 ≤ IntKind.i64.wrap (baseV D w.sg + ((w.used : Nat) : Int)) := by rw [hwb]; omega
  have hn1 : IntKind.i64.wrap (baseV D w.sg + ((w.used : Nat) : Int)) ≤ 1000000 := by rw [hwb]; omega
  have hap : appP D w s = (if (putV D (baseV D w.sg + w.used) L).1 = 0 then (0, (putV D (baseV D w.sg + w.used) L).2, { w with used := w.used + L.length, sn := w.sn + 1 }) else ((putV D (baseV D w.sg + w.used) L).1, (putV D (baseV D w.sg + w.used) L).2, w)) := by
    unfold appP
    rw [if_neg hnr, if_neg hp, if_neg (fun q => q ⟨f1, f2⟩), hL]
  have her := putV_err L D (baseV D w.sg + w.used) (by omega) (by omega) hLz
  obtain ⟨e1, D1, hput⟩ : ∃ e1 D1, putV D (baseV D w.sg + w.used) L = (e1, D1) := ⟨_, _, rfl⟩
  rw [hput] at hap her
  have her : e1 = 0 ∨ e1 = 13 := her
  have hput2 : (e1, D1) = putV D (IntKind.i64.wrap (baseV D w.sg + ((w.used : Nat) : Int))) L := by rw [hwb]; exact hput.symm
  have hll1 : L.length ≤ 1000000 := by omega
  have hll2 : D.buf.length + L.length < 1000000 := by omega
  (refine sx_sound Γok _ ?_; conv => whnf)
  (repeat (first | (refine Both.of_false hbr ?_; conv => whnf) | (refine Both.of_false c1 ?_; conv => whnf) | (refine Both.of_false c2 ?_; conv => whnf) | (exact Out.same; conv => whnf) | (exact Out1.same; conv => whnf) | (refine QAnd.mk ?_ ?_; conv => whnf) | (apply QStepH.go; conv => whnf) | (refine Both.lit_true ?_; conv => whnf) | (refine Both.lit_false ?_; conv => whnf) | (apply QStep.go; conv => whnf) | (refine Need.au ?_; conv => whnf) | (refine ⟨_, rfl, ?_⟩; conv => whnf)))
  (refine DrawVC.any Γok (by kernel_rfl) (by kernel_rfl) (by kernel_rfl) (by rfl) ?_; conv => whnf)
  (repeat (first | (refine CallVC.auto rsplitP_k ⟨w.g, w.sn, rfl, hwsn, hg.2, by omega, by omega, .sl 1 L.length (L.map CV.str) false, 0, hsp, ?_⟩; conv => whnf) | (exact Out.same; conv => whnf) | (exact Out1.same; conv => whnf) | (refine QAnd.mk ?_ ?_; conv => whnf) | (apply QStepH.go; conv => whnf) | (refine Both.lit_true ?_; conv => whnf) | (refine Both.lit_false ?_; conv => whnf) | (apply QStep.go; conv => whnf) | (refine Need.au ?_; conv => whnf) | (refine ⟨_, rfl, ?_⟩; conv => whnf)))
  (refine DrawVC.any Γok (by kernel_rfl) (by kernel_rfl) (by kernel_rfl) (by rfl) ?_; conv => whnf)
  (repeat (first | (refine CallVC.auto rseg_k (rIn_mk ho ⟨h2, ?_⟩); conv => whnf) | (refine Both.of_false c3 ?_; conv => whnf) | (exact Out.same; conv => whnf) | (exact Out1.same; conv => whnf) | (refine QAnd.mk ?_ ?_; conv => whnf) | (apply QStepH.go; conv => whnf) | (refine Both.lit_true ?_; conv => whnf) | (refine Both.lit_false ?_; conv => whnf) | (apply QStep.go; conv => whnf) | (refine Need.au ?_; conv => whnf) | (refine ⟨_, rfl, ?_⟩; conv => whnf)))
  (refine DrawVC.any Γok (by kernel_rfl) (by kernel_rfl) (by kernel_rfl) (by rfl) ?_; conv => whnf)
  (repeat (first | (refine CallVC.auto rbase_k (rIn_mk ho ⟨h2, ?_⟩); conv => whnf) | (refine CallVC.auto r7putE_k (rIn_mk ho ⟨L, rfl, rfl, hn0, hn1, hll1, hll2, e1, D1, hput2, ?_⟩); conv => whnf) | (exact Out.same; conv => whnf) | (exact Out1.same; conv => whnf) | (refine QAnd.mk ?_ ?_; conv => whnf) | (apply QStepH.go; conv => whnf) | (refine Both.lit_true ?_; conv => whnf) | (refine Both.lit_false ?_; conv => whnf) | (apply QStep.go; conv => whnf) | (refine Need.au ?_; conv => whnf) | (refine ⟨_, rfl, ?_⟩; conv => whnf)))
  refine Both.dec_not (fun hne => ?_) (fun heq => ?_)
  · have he13 : e1 = 13 := her.resolve_left hne
    have h := h e1 D1 { w with broken := true } (by
      unfold appL
      rw [if_neg hnb, hap]
      show _ = ((if e1 = 0 then _ else (e1, D1, w)).1, (if e1 = 0 then _ else (e1, D1, w)).2.1, ({ (if e1 = 0 then _ else (e1, D1, w)).2.2 with broken := decide ((if e1 = 0 then _ else (e1, D1, w)).1 = 13) } : W7))
      rw [if_neg hne]
      show _ = (e1, D1, ({ w with broken := decide (e1 = 13) } : W7))
      rw [decide_eq_true he13])
    (conv => whnf)
    (repeat (first | (exact Out.same; conv => whnf) | (exact Out1.same; conv => whnf) | (refine QAnd.mk ?_ ?_; conv => whnf) | (apply QStepH.go; conv => whnf) | (refine Both.lit_true ?_; conv => whnf) | (refine Both.lit_false ?_; conv => whnf) | (apply QStep.go; conv => whnf) | (refine Need.au ?_; conv => whnf) | (refine ⟨_, rfl, ?_⟩; conv => whnf)))
    refine ⟨_, _, WeakV.auto ?_, h⟩
    (repeat' ((conv => whnf); first | exact True.intro | (refine And.intro ?_ ?_)))
    all_goals first | rfl | exact .eq rfl
  · have h := h 0 D1 { w with used := w.used + L.length, sn := w.sn + 1 } (by
      unfold appL
      rw [if_neg hnb, hap]
      show _ = ((if e1 = 0 then ((0 : Int), D1, _) else (e1, D1, w)).1, (if e1 = 0 then ((0 : Int), D1, _) else (e1, D1, w)).2.1, ({ (if e1 = 0 then ((0 : Int), D1, ({ w with used := w.used + L.length, sn := w.sn + 1 } : W7)) else (e1, D1, w)).2.2 with broken := decide ((if e1 = 0 then ((0 : Int), D1, ({ w with used := w.used + L.length, sn := w.sn + 1 } : W7)) else (e1, D1, w)).1 = 13) } : W7))
      rw [if_pos heq]
      show _ = ((0 : Int), D1, ({ ({ w with used := w.used + L.length, sn := w.sn + 1 } : W7) with broken := decide ((0 : Int) = 13) } : W7))
      rw [err_eta (w := { w with used := w.used + L.length, sn := w.sn + 1 }) hbr (by decide)])
    have hw1 : IntKind.i64.wrap (((w.used : Nat) : Int) + ((L.length : Nat) : Int)) = ((w.used + L.length : Nat) : Int) := by rw [wrap_i64 (by omega) (by omega)]; omega
    have hw2 : IntKind.i64.wrap (((w.sn : Nat) : Int) + 1) = ((w.sn + 1 : Nat) : Int) := by rw [wrap_i64 (by omega) (by omega)]; omega
    have hce : ([SV.ptr 1 0, .int .u64 (w.g : Int), .int .i64 w.sg, .int .i64 w.slot, .int .i64 (IntKind.i64.wrap (((w.used : Nat) : Int) + ((L.length : Nat) : Int))), .int .i64 (IntKind.i64.wrap (((w.sn : Nat) : Int) + 1)), .bool w.ready, .bool w.broken] : List SV) = [SV.ptr 1 0, .int .u64 (w.g : Int), .int .i64 w.sg, .int .i64 w.slot, .int .i64 ((w.used + L.length : Nat) : Int), .int .i64 ((w.sn + 1 : Nat) : Int), .bool w.ready, .bool w.broken] := by rw [hw1, hw2]
    (conv => whnf)
    (repeat (first | (exact Out.same; conv => whnf) | (exact Out1.same; conv => whnf) | (refine QAnd.mk ?_ ?_; conv => whnf) | (apply QStepH.go; conv => whnf) | (refine Both.lit_true ?_; conv => whnf) | (refine Both.lit_false ?_; conv => whnf) | (apply QStep.go; conv => whnf) | (refine Need.au ?_; conv => whnf) | (refine ⟨_, rfl, ?_⟩; conv => whnf)))
    refine ⟨_, _, WeakV.auto ?_, h⟩
    (repeat' ((conv => whnf); first | exact True.intro | (refine And.intro ?_ ?_)))
    all_goals first | rfl | exact .eq rfl | exact .eq hce
theorem rapp_k : Contract Tryz.prog [] 47 rappS := ⟨⟨⟨_, rfl, rfl, rfl⟩⟩, rapp_c⟩
end Go.LX
end
section
set_option maxRecDepth 100000
set_option maxHeartbeats 2000000
set_option autoImplicit false
set_option linter.unusedVariables false
set_option linter.unusedSimpArgs false
namespace Go.LX
open Go.Proofs

def rchkS : Spec := fun args H Q => match args with
  | [.ptr 0 0, .str s] => rwIn H fun D w => s.length ≤ 1000000 ∧ D.buf.length ≤ 900000 ∧ ∀ e D' w', (e, D', w') = chkL D w s → Q (.int .i64 e) (rwA D' w')
  | _ => False
theorem chkL_err {D : Dsk} {w : W7} {s : Bs} {e : Int} {D' : Dsk} (hb : w.broken = false) (h : chkP D w s = (e, D', w)) (he : e ≠ 13) : chkL D w s = (e, D', w) := by
  unfold chkL
  rw [if_neg (by rw [hb]; decide), h]
  show (e, D', ({ w with broken := decide (e = 13) } : W7)) = _
  rw [err_eta hb he]
theorem chkL_io {D : Dsk} {w : W7} {s : Bs} {e : Int} {D' : Dsk} (hb : w.broken = false) (h : chkP D w s = (e, D', w)) (he : e = 13) : chkL D w s = (e, D', { w with broken := true }) := by
  unfold chkL
  rw [if_neg (by rw [hb]; decide), h]
  show (e, D', ({ w with broken := decide (e = 13) } : W7)) = _
  rw [decide_eq_true he]
theorem rchk_c : Meets Tryz.prog [] 48 rchkS := by
  refine meets_of Γok Tryz.func48 rfl ?_
  intro args H Q h
  unfold rchkS at h
  split at h
  case h_2 => exact h.elim
  rename_i s
  obtain ⟨D, w, rfl, ho, hw, hs, hb, h⟩ := rwIn_out h
  have hsz := ho.sz
  have hsc := ho.sc
  have hs4 := hw.sc
  have hg := hw.g
  have hsg := hw.sg
  have hsl := hw.slot
  have h2 : 2 ≤ D.sc := by omega
  have hv : segV D ≤ 2047 := by unfold segV; omega
  cases hbr : w.broken with
  | true =>
    have h := h 14 D w (by unfold chkL; rw [if_pos hbr])
    (refine sx_sound Γok _ ?_; conv => whnf)
    (repeat (first | (refine Both.of_true hbr ?_; conv => whnf) | (exact Out.same; conv => whnf) | (exact Out1.same; conv => whnf) | (refine QAnd.mk ?_ ?_; conv => whnf) | (apply QStepH.go; conv => whnf) | (refine Both.lit_true ?_; conv => whnf) | (refine Both.lit_false ?_; conv => whnf) | (apply QStep.go; conv => whnf) | (refine Need.au ?_; conv => whnf) | (refine ⟨_, rfl, ?_⟩; conv => whnf)))
    refine ⟨_, _, WeakV.trans (WeakV.of (Weak.fresh 2 1 3 rfl rfl rfl)) (WeakV.auto ?_), h⟩
    (repeat' ((conv => whnf); first | exact True.intro | (refine And.intro ?_ ?_)))
    all_goals first | rfl | exact .eq rfl
  | false =>
  by_cases hlen : 4096 < s.length
  · have hp := parts_zero (z := D.sz) hlen
    have h := h 1 D w (chkL_err hbr (by unfold chkP; rw [if_pos hp]) (by decide)).symm
    have c2 : decide ((4096 : Int) < ((s.length : Nat) : Int)) = true := decide_eq_true (by omega)
    (refine sx_sound Γok _ ?_; conv => whnf)
    (repeat (first | (refine Both.of_false hbr ?_; conv => whnf) | (refine Both.of_true c2 ?_; conv => whnf) | (exact Out.same; conv => whnf) | (exact Out1.same; conv => whnf) | (refine QAnd.mk ?_ ?_; conv => whnf) | (apply QStepH.go; conv => whnf) | (refine Both.lit_true ?_; conv => whnf) | (refine Both.lit_false ?_; conv => whnf) | (apply QStep.go; conv => whnf) | (refine Need.au ?_; conv => whnf) | (refine ⟨_, rfl, ?_⟩; conv => whnf)))
    refine ⟨_, _, WeakV.trans (WeakV.of (Weak.fresh 2 1 3 rfl rfl rfl)) (WeakV.auto ?_), h⟩
    (repeat' ((conv => whnf); first | exact True.intro | (refine And.intro ?_ ?_)))
    all_goals first | rfl | exact .eq rfl
  have c2 : decide ((4096 : Int) < ((s.length : Nat) : Int)) = false := decide_eq_false (by omega)
  have hpn : partsV D.sz s.length = npar (D.sz - 25) s.length := by
    unfold partsV
    rw [if_pos (by omega), Int.toNat_natCast, Int.toNat_natCast]
  have hpos := npar_pos (D.sz - 25) s.length
  have hp : ¬ partsV D.sz s.length = 0 := by omega
  by_cases hq : segV D < partsV D.sz s.length
  · have h := h 2 D w (chkL_err hbr (by unfold chkP; rw [if_neg hp, if_pos hq]) (by decide)).symm
    have c3 : decide (((segV D : Nat) : Int) < ((partsV D.sz s.length : Nat) : Int)) = true := decide_eq_true (by omega)
    (refine sx_sound Γok _ ?_; conv => whnf)
    (repeat (first | (refine Both.of_false hbr ?_; conv => whnf) | (refine Both.of_false c2 ?_; conv => whnf) | (exact Out.same; conv => whnf) | (exact Out1.same; conv => whnf) | (refine QAnd.mk ?_ ?_; conv => whnf) | (apply QStepH.go; conv => whnf) | (refine Both.lit_true ?_; conv => whnf) | (refine Both.lit_false ?_; conv => whnf) | (apply QStep.go; conv => whnf) | (refine Need.au ?_; conv => whnf) | (refine ⟨_, rfl, ?_⟩; conv => whnf)))
    (refine DrawVC.any Γok (by kernel_rfl) (by kernel_rfl) (by kernel_rfl) (by rfl) ?_; conv => whnf)
    (repeat (first | (refine CallVC.auto rseg_k (rIn_mk ho ⟨h2, ?_⟩); conv => whnf) | (refine Both.of_true c3 ?_; conv => whnf) | (exact Out.same; conv => whnf) | (exact Out1.same; conv => whnf) | (refine QAnd.mk ?_ ?_; conv => whnf) | (apply QStepH.go; conv => whnf) | (refine Both.lit_true ?_; conv => whnf) | (refine Both.lit_false ?_; conv => whnf) | (apply QStep.go; conv => whnf) | (refine Need.au ?_; conv => whnf) | (refine ⟨_, rfl, ?_⟩; conv => whnf) | (refine CallVC.auto parts2_k ?_; conv => whnf)))
    refine ⟨_, _, WeakV.trans (WeakV.of (Weak.fresh 2 1 3 rfl rfl rfl)) (WeakV.auto ?_), h⟩
    (repeat' ((conv => whnf); first | exact True.intro | (refine And.intro ?_ ?_)))
    all_goals first | rfl | exact .eq rfl
  have c3 : decide (((segV D : Nat) : Int) < ((partsV D.sz s.length : Nat) : Int)) = false := decide_eq_false (by omega)
  obtain ⟨g1, sg1, e1, hnx⟩ : ∃ g1 sg1 e1, hNext w.g w.sg = ((g1, sg1), e1) := ⟨_, _, _, rfl⟩
  have hrg := hNext_rng (g := w.g) (by omega) hsg hnx
  have he12 : e1 ≠ 13 := by
    unfold hNext at hnx
    split at hnx
    · have q : (12 : Int) = e1 := congrArg Prod.snd hnx
      omega
    · have q : (0 : Int) = e1 := congrArg Prod.snd hnx
      omega
  (refine sx_sound Γok _ ?_; conv => whnf)
  (repeat (first | (refine Both.of_false hbr ?_; conv => whnf) | (refine Both.of_false c2 ?_; conv => whnf) | (exact Out.same; conv => whnf) | (exact Out1.same; conv => whnf) | (refine QAnd.mk ?_ ?_; conv => whnf) | (apply QStepH.go; conv => whnf) | (refine Both.lit_true ?_; conv => whnf) | (refine Both.lit_false ?_; conv => whnf) | (apply QStep.go; conv => whnf) | (refine Need.au ?_; conv => whnf) | (refine ⟨_, rfl, ?_⟩; conv => whnf)))
  (refine DrawVC.any Γok (by kernel_rfl) (by kernel_rfl) (by kernel_rfl) (by rfl) ?_; conv => whnf)
  (repeat (first | (refine CallVC.auto rseg_k (rIn_mk ho ⟨h2, ?_⟩); conv => whnf) | (refine Both.of_false c3 ?_; conv => whnf) | (exact Out.same; conv => whnf) | (exact Out1.same; conv => whnf) | (refine QAnd.mk ?_ ?_; conv => whnf) | (apply QStepH.go; conv => whnf) | (refine Both.lit_true ?_; conv => whnf) | (refine Both.lit_false ?_; conv => whnf) | (apply QStep.go; conv => whnf) | (refine Need.au ?_; conv => whnf) | (refine ⟨_, rfl, ?_⟩; conv => whnf) | (refine CallVC.auto parts2_k ?_; conv => whnf)))
  refine CallVC.auto rnext_k (Need.mk ⟨by omega, by omega⟩ fun g2 sg2 e2 he => ?_)
  obtain ⟨u1, u3⟩ := Prod.mk.inj (he.trans hnx)
  obtain ⟨u1, u2⟩ := Prod.mk.inj u1
  clear he
  subst u1 u2 u3
  (conv => whnf)
  (repeat (first | (exact Out.same; conv => whnf) | (exact Out1.same; conv => whnf) | (refine QAnd.mk ?_ ?_; conv => whnf) | (apply QStepH.go; conv => whnf) | (refine Both.lit_true ?_; conv => whnf) | (refine Both.lit_false ?_; conv => whnf) | (apply QStep.go; conv => whnf) | (refine Need.au ?_; conv => whnf) | (refine ⟨_, rfl, ?_⟩; conv => whnf)))
  refine Both.dec_not (fun hne => ?_) (fun heq => ?_)
  · have h := h e2 D w (chkL_err hbr (by unfold chkP; rw [if_neg hp, if_neg hq, hnx, if_pos hne]) he12).symm
    (conv => whnf)
    (repeat (first | (exact Out.same; conv => whnf) | (exact Out1.same; conv => whnf) | (refine QAnd.mk ?_ ?_; conv => whnf) | (apply QStepH.go; conv => whnf) | (refine Both.lit_true ?_; conv => whnf) | (refine Both.lit_false ?_; conv => whnf) | (apply QStep.go; conv => whnf) | (refine Need.au ?_; conv => whnf) | (refine ⟨_, rfl, ?_⟩; conv => whnf)))
    refine ⟨_, _, WeakV.trans (WeakV.of (Weak.fresh 2 1 3 rfl rfl rfl)) (WeakV.auto ?_), h⟩
    (repeat' ((conv => whnf); first | exact True.intro | (refine And.intro ?_ ?_)))
    all_goals first | rfl | exact .eq rfl
  obtain ⟨q1, q2, q3, q4⟩ := hrg heq
  clear u1 hrg he12
  subst heq
  obtain ⟨gn, rfl⟩ := Int.eq_ofNat_of_zero_le (show 0 ≤ g2 by omega)
  have hgn : gn < 18446744073709551616 := by omega
  have htn : (D.sz : Int).toNat = D.sz := Int.toNat_natCast _
  have hLp : (splitL D.sz gn 0 s).length = npar (D.sz - 25) s.length := splitL_len _ _ _ _
  have hLz : ∀ t ∈ splitL D.sz gn 0 s, t.length = D.sz := fun t ht => splitL_size hsz ht
  obtain ⟨L, hL⟩ : ∃ L, splitL D.sz gn 0 s = L := ⟨_, rfl⟩
  have hsp : ((.sl 1 L.length (L.map CV.str) false, 0) : SV × Int) = (if partsV D.sz s.length = 0 then (.nilsl, 1) else (.sl 1 (splitL (D.sz : Int).toNat gn 0 s).length ((splitL (D.sz : Int).toNat gn 0 s).map CV.str) false, 0)) := by rw [if_neg hp, htn, hL]
  rw [hL] at hLp hLz
  have hbv : 2 ≤ baseV D sg2 ∧ baseV D sg2 + ((segV D : Nat) : Int) ≤ D.sc := by
    unfold baseV segV
    split <;> omega
  have hok : hOk (D.sz : Int) (gn : Int) sg2 = true := decide_eq_true ⟨by omega, by omega, by omega, by omega, by omega⟩
  have hhl := hPut_len (z := D.sz) (by omega) (gn : Int) sg2
  have hres : hRes (D.sz : Int) (gn : Int) sg2 = (hPut D.sz (gn : Int) sg2, 0) := by rw [hRes, if_pos hok, Int.toNat_natCast]
  obtain ⟨hd, hhd⟩ : ∃ x, hPut D.sz (gn : Int) sg2 = x := ⟨_, rfl⟩
  rw [hhd] at hres hhl
  obtain ⟨e3, D3, hput⟩ : ∃ e3 D3, putV D (baseV D sg2) L = (e3, D3) := ⟨_, _, rfl⟩
  have hgeo := putV_geo L D (baseV D sg2)
  have hbuf := putV_buf L D (baseV D sg2)
  have hop3 := putV_ok L D (baseV D sg2) ho (by omega)
  have her := putV_err L D (baseV D sg2) (by omega) (by omega) hLz
  rw [hput] at hgeo hbuf hop3 her
  have hz3 : D3.sz = D.sz := hgeo.1
  have hc3 : D3.sc = D.sc := hgeo.2
  have hbuf3 : D3.buf.length ≤ D.buf.length + L.length := hbuf
  have ho3 : D3.Ok := hop3
  have her3 : e3 = 0 ∨ e3 = 13 := her
  clear hgeo hbuf hop3 her
  have her4 := putV_err [hd] D3 (1 - w.slot) (by omega) (by rw [List.length_singleton]; omega) (fun t ht => by rw [List.mem_singleton.1 ht, hz3]; exact hhl)
  have hck : chkP D w s = (if e3 ≠ 0 then (e3, D3, w) else if (putV D3 (1 - w.slot) [hd]).1 ≠ 0 then ((putV D3 (1 - w.slot) [hd]).1, (putV D3 (1 - w.slot) [hd]).2, w) else (0, (putV D3 (1 - w.slot) [hd]).2, ⟨gn, sg2, 1 - w.slot, partsV D.sz s.length, 1, true, w.broken⟩)) := by
    unfold chkP
    rw [if_neg hp, if_neg hq, hnx]
    show (if (0 : Int) ≠ 0 then _ else _) = _
    rw [if_neg (by decide)]
    show (if (putV D (baseV D sg2) (splitL D.sz ((gn : Int).toNat) 0 s)).1 ≠ 0 then _ else _) = _
    rw [Int.toNat_natCast, hL, hput]
    show (if e3 ≠ 0 then _ else if (putV D3 (1 - w.slot) [(hRes D.sz gn sg2).1]).1 ≠ 0 then ((putV D3 (1 - w.slot) [(hRes D.sz gn sg2).1]).1, (putV D3 (1 - w.slot) [(hRes D.sz gn sg2).1]).2, w) else (0, (putV D3 (1 - w.slot) [(hRes D.sz gn sg2).1]).2, _)) = _
    rw [hres]
  (conv => whnf)
  (repeat (first | (exact Out.same; conv => whnf) | (exact Out1.same; conv => whnf) | (refine QAnd.mk ?_ ?_; conv => whnf) | (apply QStepH.go; conv => whnf) | (refine Both.lit_true ?_; conv => whnf) | (refine Both.lit_false ?_; conv => whnf) | (apply QStep.go; conv => whnf) | (refine Need.au ?_; conv => whnf) | (refine ⟨_, rfl, ?_⟩; conv => whnf)))
  (refine DrawVC.any Γok (by kernel_rfl) (by kernel_rfl) (by kernel_rfl) (by rfl) ?_; conv => whnf)
  (repeat (first | (refine CallVC.auto rsplitP_k ⟨gn, 0, rfl, rfl, hgn, by decide, by omega, .sl 1 L.length (L.map CV.str) false, 0, hsp, ?_⟩; conv => whnf) | (exact Out.same; conv => whnf) | (exact Out1.same; conv => whnf) | (refine QAnd.mk ?_ ?_; conv => whnf) | (apply QStepH.go; conv => whnf) | (refine Both.lit_true ?_; conv => whnf) | (refine Both.lit_false ?_; conv => whnf) | (apply QStep.go; conv => whnf) | (refine Need.au ?_; conv => whnf) | (refine ⟨_, rfl, ?_⟩; conv => whnf)))
  (refine DrawVC.any Γok (by kernel_rfl) (by kernel_rfl) (by kernel_rfl) (by rfl) ?_; conv => whnf)
  (repeat (first | (refine CallVC.auto rhputE_k (Need.mk ⟨by omega, by omega⟩ ⟨hd, 0, hres.symm, ?_⟩); conv => whnf) | (exact Out.same; conv => whnf) | (exact Out1.same; conv => whnf) | (refine QAnd.mk ?_ ?_; conv => whnf) | (apply QStepH.go; conv => whnf) | (refine Both.lit_true ?_; conv => whnf) | (refine Both.lit_false ?_; conv => whnf) | (apply QStep.go; conv => whnf) | (refine Need.au ?_; conv => whnf) | (refine ⟨_, rfl, ?_⟩; conv => whnf)))
  (refine DrawVC.any Γok (by kernel_rfl) (by kernel_rfl) (by kernel_rfl) (by rfl) ?_; conv => whnf)
  (repeat (first | (refine CallVC.auto rbase_k (rIn_mk ho ⟨h2, ?_⟩); conv => whnf) | (refine CallVC.auto r7putE_k (rIn_mk ho ⟨L, rfl, rfl, by omega, by omega, by omega, by omega, e3, D3, hput.symm, ?_⟩); conv => whnf) | (exact Out.same; conv => whnf) | (exact Out1.same; conv => whnf) | (refine QAnd.mk ?_ ?_; conv => whnf) | (apply QStepH.go; conv => whnf) | (refine Both.lit_true ?_; conv => whnf) | (refine Both.lit_false ?_; conv => whnf) | (apply QStep.go; conv => whnf) | (refine Need.au ?_; conv => whnf) | (refine ⟨_, rfl, ?_⟩; conv => whnf)))
  refine Both.dec_not (fun hne => ?_) (fun heq => ?_)
  · have h := h e3 D3 { w with broken := true } (chkL_io hbr (hck.trans (if_pos hne)) (her3.resolve_left hne)).symm
    (conv => whnf)
    (repeat (first | (exact Out.same; conv => whnf) | (exact Out1.same; conv => whnf) | (refine QAnd.mk ?_ ?_; conv => whnf) | (apply QStepH.go; conv => whnf) | (refine Both.lit_true ?_; conv => whnf) | (refine Both.lit_false ?_; conv => whnf) | (apply QStep.go; conv => whnf) | (refine Need.au ?_; conv => whnf) | (refine ⟨_, rfl, ?_⟩; conv => whnf)))
    refine ⟨_, _, WeakV.auto ?_, h⟩
    (repeat' ((conv => whnf); first | exact True.intro | (refine And.intro ?_ ?_)))
    all_goals first | rfl | exact .eq rfl
  rw [if_neg (show ¬ e3 ≠ 0 from fun u => u heq)] at hck
  obtain ⟨e4, D4, hput4⟩ : ∃ e4 D4, putV D3 (1 - w.slot) [hd] = (e4, D4) := ⟨_, _, rfl⟩
  rw [hput4] at hck her4
  have her5 : e4 = 0 ∨ e4 = 13 := her4
  have hws : IntKind.i64.wrap (1 - w.slot) = 1 - w.slot := wrap_i64 (by omega) (by omega)
  have hm0 : 0 ≤ IntKind.i64.wrap (1 - w.slot) := by rw [hws]; omega
  have hm1 : IntKind.i64.wrap (1 - w.slot) ≤ 1000000 := by rw [hws]; omega
  have hl2 : D3.buf.length + ([hd] : List Bs).length < 1000000 := by show D3.buf.length + 1 < 1000000; omega
  have hput5 : (e4, D4) = putV D3 (IntKind.i64.wrap (1 - w.slot)) [hd] := by rw [hws]; exact hput4.symm
  (conv => whnf)
  (repeat (first | (exact Out.same; conv => whnf) | (exact Out1.same; conv => whnf) | (refine QAnd.mk ?_ ?_; conv => whnf) | (apply QStepH.go; conv => whnf) | (refine Both.lit_true ?_; conv => whnf) | (refine Both.lit_false ?_; conv => whnf) | (apply QStep.go; conv => whnf) | (refine Need.au ?_; conv => whnf) | (refine ⟨_, rfl, ?_⟩; conv => whnf)))
  (refine DrawVC.any Γok (by kernel_rfl) (by kernel_rfl) (by kernel_rfl) (by rfl) ?_; conv => whnf)
  (repeat (first | (refine CallVC.auto r7putE_k (rIn_mk ho3 ⟨[hd], rfl, rfl, hm0, hm1, Nat.le_of_ble_eq_true rfl, hl2, e4, D4, hput5, ?_⟩); conv => whnf) | (exact Out.same; conv => whnf) | (exact Out1.same; conv => whnf) | (refine QAnd.mk ?_ ?_; conv => whnf) | (apply QStepH.go; conv => whnf) | (refine Both.lit_true ?_; conv => whnf) | (refine Both.lit_false ?_; conv => whnf) | (apply QStep.go; conv => whnf) | (refine Need.au ?_; conv => whnf) | (refine ⟨_, rfl, ?_⟩; conv => whnf)))
  refine Both.dec_not (fun hne => ?_) (fun heq4 => ?_)
  · have h := h e4 D4 { w with broken := true } (chkL_io hbr (hck.trans (if_pos hne)) (her5.resolve_left hne)).symm
    (conv => whnf)
    (repeat (first | (exact Out.same; conv => whnf) | (exact Out1.same; conv => whnf) | (refine QAnd.mk ?_ ?_; conv => whnf) | (apply QStepH.go; conv => whnf) | (refine Both.lit_true ?_; conv => whnf) | (refine Both.lit_false ?_; conv => whnf) | (apply QStep.go; conv => whnf) | (refine Need.au ?_; conv => whnf) | (refine ⟨_, rfl, ?_⟩; conv => whnf)))
    refine ⟨_, _, WeakV.auto ?_, h⟩
    (repeat' ((conv => whnf); first | exact True.intro | (refine And.intro ?_ ?_)))
    all_goals first | rfl | exact .eq rfl
  have h := h 0 D4 ⟨gn, sg2, 1 - w.slot, partsV D.sz s.length, 1, true, w.broken⟩ (by
    unfold chkL
    rw [if_neg (by rw [hbr]; decide), hck.trans (if_neg (fun q => q heq4))]
    show _ = ((0 : Int), D4, ({ (⟨gn, sg2, 1 - w.slot, partsV D.sz s.length, 1, true, w.broken⟩ : W7) with broken := decide ((0 : Int) = 13) } : W7))
    rw [err_eta (w := ⟨gn, sg2, 1 - w.slot, partsV D.sz s.length, 1, true, w.broken⟩) hbr (by decide)])
  have hce : ([SV.ptr 1 0, .int .u64 (gn : Int), .int .i64 sg2, .int .i64 (IntKind.i64.wrap (1 - w.slot)), .int .i64 ((L.length : Nat) : Int), .int .i64 1, .bool true, .bool w.broken] : List SV) = [SV.ptr 1 0, .int .u64 (gn : Int), .int .i64 sg2, .int .i64 (1 - w.slot), .int .i64 ((partsV D.sz s.length : Nat) : Int), .int .i64 1, .bool true, .bool w.broken] := by rw [hws, hLp, hpn]
  (conv => whnf)
  (repeat (first | (exact Out.same; conv => whnf) | (exact Out1.same; conv => whnf) | (refine QAnd.mk ?_ ?_; conv => whnf) | (apply QStepH.go; conv => whnf) | (refine Both.lit_true ?_; conv => whnf) | (refine Both.lit_false ?_; conv => whnf) | (apply QStep.go; conv => whnf) | (refine Need.au ?_; conv => whnf) | (refine ⟨_, rfl, ?_⟩; conv => whnf)))
  refine ⟨_, _, WeakV.auto ?_, h⟩
  (repeat' ((conv => whnf); first | exact True.intro | (refine And.intro ?_ ?_)))
  all_goals first | rfl | exact .eq rfl | exact .eq hce
theorem rchk7_k : Contract Tryz.prog [] 48 rchkS := ⟨⟨⟨_, rfl, rfl, rfl⟩⟩, rchk_c⟩
def rfitsS : Spec := fun args H Q => match args with
  | [.ptr 0 0, .int .i64 b] => rwIn H fun D w => Q (.bool (decide (fitsW D w b))) (rwB D w)
  | _ => False
theorem rfits_c : Meets Tryz.prog [] 26 rfitsS := by
  refine meets_of Γok Tryz.func26 rfl ?_
  intro args H Q h
  unfold rfitsS at h
  split at h
  case h_2 => exact h.elim
  rename_i b
  obtain ⟨D, w, rfl, ho, hw, h⟩ := rwIn_out h
  have hs := ho.sc
  have hsc := hw.sc
  have hu := hw.used
  have hv : segV D ≤ 2047 := by unfold segV; omega
  have hws : IntKind.i64.wrap (((segV D : Nat) : Int) - ((w.used : Nat) : Int)) = ((segV D - w.used : Nat) : Int) := by rw [wrap_i64 (by omega) (by omega)]; omega
  have h2 : 2 ≤ D.sc := by omega
  by_cases h0 : 0 < partsV D.sz b
  · have c0 : decide ((0 : Int) < ((partsV D.sz b : Nat) : Int)) = true := decide_eq_true (by omega)
    have e : decide (((partsV D.sz b : Nat) : Int) ≤ IntKind.i64.wrap (((segV D : Nat) : Int) - ((w.used : Nat) : Int))) = decide (fitsW D w b) := by
      rw [hws]
      unfold fitsW
      exact decide_eq_decide.2 (by omega)
    rw [← e] at h
    (refine sx_sound Γok _ ?_; conv => whnf)
    (repeat (first | (exact Out.same; conv => whnf) | (exact Out1.same; conv => whnf) | (refine QAnd.mk ?_ ?_; conv => whnf) | (apply QStepH.go; conv => whnf) | (refine Both.lit_true ?_; conv => whnf) | (refine Both.lit_false ?_; conv => whnf) | (apply QStep.go; conv => whnf) | (refine Need.au ?_; conv => whnf) | (refine ⟨_, rfl, ?_⟩; conv => whnf) | (refine CallVC.auto parts2_k ?_; conv => whnf)))
    (refine DrawVC.any Γok (by kernel_rfl) (by kernel_rfl) (by kernel_rfl) (by rfl) ?_; conv => whnf)
    (repeat (first | (refine Both.of_true c0 ?_; conv => whnf) | (refine CallVC.auto rseg_k (rIn_mk ho ⟨h2, ?_⟩); conv => whnf) | (exact Out.same; conv => whnf) | (exact Out1.same; conv => whnf) | (refine QAnd.mk ?_ ?_; conv => whnf) | (apply QStepH.go; conv => whnf) | (refine Both.lit_true ?_; conv => whnf) | (refine Both.lit_false ?_; conv => whnf) | (apply QStep.go; conv => whnf) | (refine Need.au ?_; conv => whnf) | (refine ⟨_, rfl, ?_⟩; conv => whnf)))
    refine ⟨_, _, WeakV.auto ?_, h⟩
    (repeat' ((conv => whnf); first | exact True.intro | (refine And.intro ?_ ?_)))
    all_goals first | rfl | exact .eq rfl
  · have c0 : decide ((0 : Int) < ((partsV D.sz b : Nat) : Int)) = false := decide_eq_false (by omega)
    have e : false = decide (fitsW D w b) := (decide_eq_false (fun q => h0 q.1)).symm
    rw [← e] at h
    (refine sx_sound Γok _ ?_; conv => whnf)
    (repeat (first | (exact Out.same; conv => whnf) | (exact Out1.same; conv => whnf) | (refine QAnd.mk ?_ ?_; conv => whnf) | (apply QStepH.go; conv => whnf) | (refine Both.lit_true ?_; conv => whnf) | (refine Both.lit_false ?_; conv => whnf) | (apply QStep.go; conv => whnf) | (refine Need.au ?_; conv => whnf) | (refine ⟨_, rfl, ?_⟩; conv => whnf) | (refine CallVC.auto parts2_k ?_; conv => whnf)))
    (refine DrawVC.any Γok (by kernel_rfl) (by kernel_rfl) (by kernel_rfl) (by rfl) ?_; conv => whnf)
    (repeat (first | (refine Both.of_false c0 ?_; conv => whnf) | (exact Out.same; conv => whnf) | (exact Out1.same; conv => whnf) | (refine QAnd.mk ?_ ?_; conv => whnf) | (apply QStepH.go; conv => whnf) | (refine Both.lit_true ?_; conv => whnf) | (refine Both.lit_false ?_; conv => whnf) | (apply QStep.go; conv => whnf) | (refine Need.au ?_; conv => whnf) | (refine ⟨_, rfl, ?_⟩; conv => whnf)))
    refine ⟨_, _, WeakV.auto ?_, h⟩
    (repeat' ((conv => whnf); first | exact True.intro | (refine And.intro ?_ ?_)))
    all_goals first | rfl | exact .eq rfl
theorem rfits_k : Contract Tryz.prog [] 26 rfitsS := ⟨⟨⟨_, rfl, rfl, rfl⟩⟩, rfits_c⟩
end Go.LX
end
section
set_option maxRecDepth 100000
set_option maxHeartbeats 2000000
set_option autoImplicit false
set_option linter.unusedVariables false
set_option linter.unusedSimpArgs false
namespace Go.LX
open Go.Proofs

def seqs : Int → List Bs → List (Int × Bs)
  | _, [] => []
  | n, t :: l => (n, t) :: seqs (n + 1) l
theorem rd_calm {D : Dsk} (hb : D.buf = []) {n : Nat} (h : n < D.sc) : (D.rd n).1 = D.st.getD n [] := by
  unfold Dsk.rd rdOf
  rw [if_pos ⟨by omega, by omega⟩, hb]
  rfl
theorem arm0 {D : Dsk} (ha : D.ar = 0) (st : List Bs) (b : List (Int × Bs)) : ({ D with ar := D.ar - 1, st := st, buf := b } : Dsk) = { D with st := st, buf := b } := by
  cases D
  cases ha
  rfl
theorem putV_0 : ∀ (l : List Bs) (D : Dsk) (n : Int), D.ar = 0 → 0 ≤ n → n + l.length ≤ D.sc → (∀ t ∈ l, t.length = D.sz) → putV D n l = (0, { D with st := putAll D.st (D.buf ++ seqs n l), buf := [] })
  | [], D, n, ha, hn, hi, hl => by
    rw [putV]
    unfold Dsk.fl
    rw [if_neg (by omega), arm0 ha, seqs, List.append_nil]
  | t :: l, D, n, ha, hn, hi, hl => by
    rw [List.length_cons] at hi
    have hw : D.wr n t = (0, { D with buf := D.buf ++ [(n, t)] }) := by
      unfold Dsk.wr
      rw [if_pos ⟨hn, by omega, hl t List.mem_cons_self⟩, if_neg (by omega)]
      exact congrArg (fun x => ((0 : Int), x)) (arm0 ha D.st _)
    rw [putV, hw, if_pos rfl]
    have ih := putV_0 l { D with buf := D.buf ++ [(n, t)] } (n + 1) ha (by omega) (by show n + 1 + _ ≤ ((D.sc : Nat) : Int); omega) (fun x hx => hl x (List.mem_cons_of_mem _ hx))
    rw [show (((0 : Int), ({ D with buf := D.buf ++ [(n, t)] } : Dsk)).2) = { D with buf := D.buf ++ [(n, t)] } from rfl, ih]
    show (0, ({ D with st := putAll D.st ((D.buf ++ [(n, t)]) ++ seqs (n + 1) l), buf := [] } : Dsk)) = _
    rw [List.append_assoc]
    rfl
theorem putAll_seqs : ∀ (l st : List Bs) (n i : Nat), n + l.length ≤ st.length → (putAll st (seqs n l)).getD i [] = if n ≤ i ∧ i < n + l.length then l.getD (i - n) [] else st.getD i []
  | [], st, n, i, h => by
    rw [if_neg (by rw [List.length_nil]; omega)]
    rfl
  | t :: l, st, n, i, h => by
    rw [List.length_cons] at h
    have ih := putAll_seqs l (st.set n t) (n + 1) i (by rw [List.length_set]; omega)
    have e : putAll st (seqs n (t :: l)) = putAll (st.set n t) (seqs ((n + 1 : Nat) : Int) l) := by
      show putAll (st.set ((n : Int)).toNat t) (seqs ((n : Int) + 1) l) = _
      rw [Int.toNat_natCast]
      rfl
    rw [e, ih, List.length_cons]
    by_cases h1 : n + 1 ≤ i ∧ i < n + 1 + l.length
    · rw [if_pos h1, if_pos (by omega), show i - n = (i - (n + 1)) + 1 by omega]
      rfl
    · rw [if_neg h1]
      by_cases h2 : i = n
      · subst h2
        rw [if_pos (by omega), Nat.sub_self, List.getD_eq_getElem?_getD, List.getElem?_set_self (by omega)]
        rfl
      · rw [if_neg (by omega), List.getD_eq_getElem?_getD, List.getElem?_set_ne (by omega), ← List.getD_eq_getElem?_getD]
structure Calm7 (D : Dsk) : Prop where
  ok : D.Ok
  buf : D.buf = []
  ar : D.ar = 0
theorem putV_calm {D : Dsk} (hc : Calm7 D) {n : Nat} {l : List Bs} (hi : n + l.length ≤ D.sc) (hl : ∀ t ∈ l, t.length = D.sz) :
    ∃ D', putV D n l = (0, D') ∧ Calm7 D' ∧ D'.sz = D.sz ∧ D'.sc = D.sc ∧ ∀ i, D'.st.getD i [] = if n ≤ i ∧ i < n + l.length then l.getD (i - n) [] else D.st.getD i [] := by
  have h := putV_0 l D n hc.ar (by omega) (by omega) hl
  rw [hc.buf, List.nil_append] at h
  have hsc := hc.ok.sc
  have hk := putV_ok l D n hc.ok (by rw [hc.buf, List.length_nil]; omega)
  rw [h] at hk
  exact ⟨_, h, ⟨hk, rfl, hc.ar⟩, rfl, rfl, fun i => putAll_seqs l D.st n i (by rw [hc.ok.len]; exact hi)⟩
theorem readV_chunk {D : Dsk} (hc : Calm7 D) {n m k : Nat} (hi : n + m ≤ D.sc) (hk : k < m) : chunk D.sz (readV D n m) k = D.st.getD (n + k) [] := by
  have hl : ∀ x ∈ (List.range m).map (fun k => (D.rd (((n : Nat) : Int) + ((k : Nat) : Int))).1), x.length = D.sz := by
    intro x hx
    obtain ⟨j, hj, rfl⟩ := List.mem_map.1 hx
    have := List.mem_range.1 hj
    exact rd_size hc.ok (by omega) (by omega)
  have h := flat_chunk (z := D.sz) (l := (List.range m).map (fun k => (D.rd (((n : Nat) : Int) + ((k : Nat) : Int))).1)) [] [] 0 k (D.rd (((n : Nat) : Int) + ((k : Nat) : Int))).1 (by rw [List.length_nil]; omega) hl (by rw [List.getElem?_map, List.getElem?_range hk]; rfl)
  rw [List.nil_append, List.append_nil, Nat.zero_add] at h
  unfold readV
  rw [h, show ((n : Nat) : Int) + ((k : Nat) : Int) = ((n + k : Nat) : Int) from rfl]
  exact rd_calm hc.buf (by omega)
def oldS (z g : Nat) (s : Bs) : Prop := s = Z z ∨ ∃ (g' sr : Nat) (t : Bs) (k : Nat), g' < g ∧ g' < 18446744073709551616 ∧ sr < 18446744073709551616 ∧ t.length ≤ 4096 ∧ k < npar (z - 25) t.length ∧ s = secAt z g' sr t k
theorem oldS.mono {z g g1 : Nat} {s : Bs} (h : oldS z g s) (hg : g ≤ g1) : oldS z g1 s := by
  rcases h with h | ⟨g', sr, t, k, h1, h2⟩
  · exact .inl h
  · exact .inr ⟨g', sr, t, k, by omega, h2⟩
theorem readX_zero (z : Nat) : (readX (z : Int) (Z z)).2 ≠ 0 := by
  unfold readX
  split
  · decide
  rename_i h1
  have hz : 64 ≤ (z : Int) ∧ (z : Int) ≤ 512 := of_decide_eq_true (by simpa using h1 : rightN (z : Int) = true)
  split
  · decide
  split
  · decide
  rw [if_neg ?_]
  · decide
  rintro ⟨_, _, _, h, _⟩
  rw [Int.toNat_natCast] at h
  unfold Z at h
  rw [List.take_replicate, List.take_replicate, show min 1 (min (z - 4) z) = 1 by omega] at h
  cases h
theorem old_no {z g : Nat} {s : Bs} (hz : 64 ≤ z ∧ z ≤ 512) (h : oldS z g s) : (readX (z : Int) s).2 ≠ 0 ∨ (readX (z : Int) s).1.g ≠ g := by
  rcases h with h | ⟨g', sr, t, k, h1, h2, h3, h4, h5, rfl⟩
  · rw [h]
    exact .inl (readX_zero z)
  · rw [readX_at hz h2 h3 h4 h5]
    exact .inr (by show g' ≠ g; omega)
theorem head_zero (z : Nat) : (hGet (z : Int) (Z z)).2 ≠ 0 ∧ (hGet (z : Int) (Z z)).1 = (0, 0) := by
  have hz := hGet_zero (z : Int) (Z z)
  rcases hz with ⟨h, _⟩ | h
  · exfalso
    unfold hGet at h
    split at h
    · exact absurd h (by decide)
    rename_i h1
    split at h
    · exact absurd h (by decide)
    split at h
    · exact absurd h (by decide)
    split at h
    · rename_i h4
      unfold hRes at h4
      split at h4
      · rename_i h5
        have h6 := of_decide_eq_true h5
        have h7 := (Prod.mk.inj h4).1
        rw [Int.toNat_natCast] at h7
        have h8 : (hPut z (hG (Z z)) (hS (Z z))).take 1 = [72] := by
          unfold hPut Crc.seal_ hRaw
          generalize beb (hG (Z z)).toNat 8 = a
          generalize Crc.le 4 _ = b
          simp
        rw [h7] at h8
        unfold Z at h8
        rw [List.take_replicate, show min 1 z = 1 by omega] at h8
        cases h8
      · exact absurd (show (1 : Int) = 0 from congrArg Prod.snd h4) (by decide)
    · exact absurd h (by decide)
  · exact h
end Go.LX
end
section
set_option maxRecDepth 100000
set_option maxHeartbeats 2000000
set_option autoImplicit false
set_option linter.unusedVariables false
set_option linter.unusedSimpArgs false
namespace Go.LX
open Go.Proofs

theorem placed_congr7 {z g : Nat} {T T' : Bz} (hl : T'.length = T.length) : ∀ (L : List Bz) (u i : Nat), (∀ k, k < u + secs z L → chunk z T' k = chunk z T k) → placed z g T u i L → placed z g T' u i L
  | [], _, _, _, _ => trivial
  | t :: L, u, i, hc, hp => by
    rw [secs] at hc
    exact ⟨⟨fun k hk => (hc _ (by omega)).trans (hp.1.1 k hk), by rw [hl]; exact hp.1.2⟩, placed_congr7 hl L _ _ (fun k hk => hc k (by omega)) hp.2⟩
theorem placed_app1 {z g : Nat} {T : Bz} {s : Bz} : ∀ (L : List Bz) (u i : Nat), placed z g T u i L → (∀ k, k < npar (z - 25) s.length → chunk z T (u + secs z L + k) = secAt z g (i + L.length) s k) → (u + secs z L + npar (z - 25) s.length) * z ≤ T.length → placed z g T u i (L ++ [s])
  | [], u, i, _, h1, h2 => ⟨⟨h1, h2⟩, trivial⟩
  | t :: L, u, i, hp, h1, h2 => by
    rw [secs] at h1 h2
    refine ⟨hp.1, placed_app1 L _ _ hp.2 (fun k hk => ?_) ?_⟩
    · rw [show i + 1 + L.length = i + (t :: L).length by rw [List.length_cons]; omega, ← h1 k hk]
      congr 1
      omega
    · rw [show u + npar (z - 25) t.length + secs z L + npar (z - 25) s.length = u + (npar (z - 25) t.length + secs z L) + npar (z - 25) s.length by omega]
      exact h2
theorem placed_here {z g : Nat} {T : Bz} : ∀ (L : List Bz) (u i k : Nat), placed z g T u i L → k < secs z L → ∃ (sr : Nat) (t : Bz) (j : Nat), sr < i + L.length ∧ t ∈ L ∧ j < npar (z - 25) t.length ∧ chunk z T (u + k) = secAt z g sr t j
  | [], u, i, k, _, h => by
    rw [secs] at h
    omega
  | t :: L, u, i, k, hp, h => by
    rw [secs] at h
    by_cases hk : k < npar (z - 25) t.length
    · exact ⟨i, t, k, by rw [List.length_cons]; omega, List.mem_cons_self, hk, hp.1.1 k hk⟩
    · obtain ⟨sr, t', j, h1, h2, h3, h4⟩ := placed_here L _ _ (k - npar (z - 25) t.length) hp.2 (by omega)
      rw [show u + npar (z - 25) t.length + (k - npar (z - 25) t.length) = u + k by omega] at h4
      exact ⟨sr, t', j, by rw [List.length_cons]; omega, List.mem_cons_of_mem _ h2, h3, h4⟩
def bsN (D : Dsk) (sg : Int) : Nat := if sg = 1 then 2 + segV D else 2
theorem baseV_n (D : Dsk) (sg : Int) : baseV D sg = ((bsN D sg : Nat) : Int) := by
  unfold baseV bsN
  split <;> omega
theorem bsN_rng {D : Dsk} (h4 : 4 ≤ D.sc) (sg : Int) : 2 ≤ bsN D sg ∧ bsN D sg + segV D ≤ D.sc := by
  unfold bsN segV
  split <;> omega
theorem bsN_geo {D D' : Dsk} (h : D'.sc = D.sc) (sg : Int) : bsN D' sg = bsN D sg ∧ segV D' = segV D := by
  unfold bsN segV
  rw [h]
  exact ⟨rfl, rfl⟩
theorem bsN_flip {D : Dsk} {sg : Int} (h : 0 ≤ sg ∧ sg ≤ 1) : bsN D (1 - sg) + segV D ≤ bsN D sg ∨ bsN D sg + segV D ≤ bsN D (1 - sg) := by
  unfold bsN
  rcases (show sg = 0 ∨ sg = 1 by omega) with q | q
  · subst q
    rw [if_pos (by decide), if_neg (by decide)]
    omega
  · subst q
    rw [if_neg (by decide), if_pos (by decide)]
    omega
structure Inv7 (D : Dsk) (w : W7) (now : List Bs) : Prop where
  calm : Calm7 D
  wok : w.Ok D
  br : w.broken = false
  len : ∀ t ∈ now, t.length ≤ 4096
  used : w.used = secs D.sz now
  sn : w.sn = now.length
  here : placed D.sz w.g (readV D ((bsN D w.sg : Nat) : Int) (segV D)) 0 0 now
  head : hGet D.sz (D.st.getD w.slot.toNat []) = (((w.g : Int), w.sg), 0)
  other : (hGet D.sz (D.st.getD (1 - w.slot).toNat [])).1.1 < (w.g : Int)
  old1 : ∀ k, w.used ≤ k → k < segV D → oldS D.sz w.g (D.st.getD (bsN D w.sg + k) [])
  old2 : ∀ k, k < segV D → oldS D.sz w.g (D.st.getD (bsN D (1 - w.sg) + k) [])
theorem inv_scan {D : Dsk} {w : W7} {now : List Bs} (h : Inv7 D w now) : scanA D.sz w.g (readV D (baseV D w.sg) (segV D)) = (now, w.used) := by
  rw [baseV_n]
  have hz := h.calm.ok.sz
  have hr := bsN_rng h.wok.sc w.sg
  have hT : (readV D ((bsN D w.sg : Nat) : Int) (segV D)).length = segV D * D.sz := readV_size h.calm.ok (by omega) _ (by omega)
  have hck : ∀ k, k < segV D → chunk D.sz (readV D ((bsN D w.sg : Nat) : Int) (segV D)) k = D.st.getD (bsN D w.sg + k) [] := fun k hk => readV_chunk h.calm hr.2 hk
  have hp := h.here
  generalize readV D ((bsN D w.sg : Nat) : Int) (segV D) = T at hT hck hp
  have hg := h.wok.g
  have hu := h.wok.used
  have hue := h.used
  have hsg := secs_ge D.sz now
  have h1 : segV D * 1 ≤ segV D * D.sz := Nat.mul_le_mul_left _ (by omega)
  have hsc := h.calm.ok.sc
  have hv : segV D ≤ 2047 := by unfold segV; omega
  have hgo := scanX_placed hz hg.2 now 0 [] (T.length + 1 - now.length) h.len (by rw [List.length_nil]; omega) hp
  unfold scanA
  rw [show T.length + 1 = (T.length + 1 - now.length) + now.length by omega, hgo, Nat.zero_add, List.nil_append, ← hue]
  refine scanX_stop ?_ _
  refine congrArg Prod.snd (recX_no (fun q => ?_) : recA D.sz w.g now.length (T.drop (w.used * D.sz)) = ([], 0))
  by_cases hq : w.used = segV D
  · have q1 := q.1
    rw [List.length_drop, hT, hq] at q1
    omega
  · have ho := old_no hz (h.old1 w.used (Nat.le_refl _) (by omega))
    rw [← hck w.used (by omega), ← Nat.add_zero w.used, ← chunk_drop] at ho
    rcases ho with ho | ho
    · exact ho q.2.1
    · exact ho q.2.2.1
theorem fl_calm {D : Dsk} (h : Calm7 D) : D.fl = (0, D) := by
  unfold Dsk.fl
  rw [if_neg (by rw [h.ar]; decide), arm0 h.ar, h.buf]
  have hb := h.buf
  cases D
  cases hb
  rfl
theorem h7_in {z : Int} {x : (Int × Int) × Int} {k : Nat} {s : Bs} {g sg : Int} (h : hGet z s = ((g, sg), 0)) (hx : x.1.1 < g) : hStep z x k s = ((g, sg), (k : Int)) := by
  unfold hStep
  rw [h, if_pos ⟨rfl, hx⟩]
theorem h7_out {z : Int} {x : (Int × Int) × Int} {k : Nat} {s : Bs} (h : (hGet z s).1.1 ≤ x.1.1) : hStep z x k s = x := by
  unfold hStep
  rw [if_neg (fun q => by have := q.2; omega)]
theorem hdD_calm {D : Dsk} (h : Calm7 D) (h2 : 2 ≤ D.sc) : hdD D = hStep D.sz (hStep D.sz ((0, 0), -1) 0 (D.st.getD 0 [])) 1 (D.st.getD 1 []) := by
  have e0 : (D.rd 0).1 = D.st.getD 0 [] := rd_calm (n := 0) h.buf (by omega)
  have e1 : (D.rd 1).1 = D.st.getD 1 [] := rd_calm (n := 1) h.buf (by omega)
  rw [← e0, ← e1]
  rfl
theorem inv_head {D : Dsk} {w : W7} {now : List Bs} (h : Inv7 D w now) : hdD D = (((w.g : Int), w.sg), w.slot) := by
  have h4 := h.wok.sc
  have hg := h.wok.g
  have hs := h.wok.slot
  rw [hdD_calm h.calm (by omega)]
  have hh := h.head
  have ho := h.other
  rcases (show w.slot = 0 ∨ w.slot = 1 by omega) with q | q
  · rw [q] at hh ho ⊢
    have hh : hGet D.sz (D.st.getD 0 []) = (((w.g : Int), w.sg), 0) := hh
    have ho : (hGet D.sz (D.st.getD 1 [])).1.1 < (w.g : Int) := ho
    rw [h7_in hh (by show (0 : Int) < _; omega), h7_out (by show _ ≤ (w.g : Int); omega)]
    rfl
  · rw [q] at hh ho ⊢
    have hh : hGet D.sz (D.st.getD 1 []) = (((w.g : Int), w.sg), 0) := hh
    have ho : (hGet D.sz (D.st.getD 0 [])).1.1 < (w.g : Int) := ho
    refine h7_in hh ?_
    unfold hStep
    split
    · exact ho
    · show (0 : Int) < _
      omega
theorem inv_open {D : Dsk} {w : W7} {now : List Bs} (h : Inv7 D w now) : opn D = (0, D, ⟨w.g, w.sg, w.slot, w.used, w.sn, false, false⟩, now) := by
  have hs := h.wok.slot
  unfold opn
  rw [if_neg (by have := h.wok.sc; omega), fl_calm h.calm]
  show (if (0 : Int) ≠ 0 then _ else opnB D) = _
  rw [if_neg (fun q => q rfl)]
  unfold opnB
  rw [inv_head h]
  show (if w.slot < 0 then _ else ((0 : Int), D, opnW D ((w.g : Int)).toNat w.sg w.slot)) = _
  rw [if_neg (by omega), Int.toNat_natCast]
  unfold opnW
  rw [inv_scan h, h.sn]
theorem parts_n {D : Dsk} (ho : D.Ok) {s : Bs} (hs : s.length ≤ 4096) : partsV D.sz s.length = npar (D.sz - 25) s.length := by
  have := ho.sz
  unfold partsV
  rw [if_pos (by omega), Int.toNat_natCast, Int.toNat_natCast]
theorem inv_app {D : Dsk} {w : W7} {now : List Bs} {s : Bs} (h : Inv7 D w now) (hs : s.length ≤ 4096) (hr : w.ready = true) (hf : fitsW D w s.length) :
    ∃ D', appL D w s = (0, D', { w with used := w.used + npar (D.sz - 25) s.length, sn := w.sn + 1 }) ∧ Inv7 D' { w with used := w.used + npar (D.sz - 25) s.length, sn := w.sn + 1 } (now ++ [s]) ∧ D'.sz = D.sz ∧ D'.sc = D.sc := by
  have hz := h.calm.ok.sz
  have hrg := bsN_rng h.wok.sc w.sg
  have hrg2 := bsN_rng h.wok.sc (1 - w.sg)
  have hpn := parts_n h.calm.ok hs
  have hpos := npar_pos (D.sz - 25) s.length
  obtain ⟨f1, f2⟩ := hf
  rw [hpn] at f1 f2
  have hu := h.wok.used
  have hsl := h.wok.slot
  have hsg := h.wok.sg
  have hsn := h.wok.sn
  have hgg := h.wok.g
  have hsc := h.calm.ok.sc
  have hv : segV D ≤ 2047 := by unfold segV; omega
  obtain ⟨D', hp, hc', hz', hs', hst⟩ := putV_calm (D := D) h.calm (n := bsN D w.sg + w.used) (l := splitL D.sz w.g w.sn s) (by rw [splitL_len]; omega) (fun t ht => splitL_size hz ht)
  rw [splitL_len] at hst
  have hbg := bsN_geo (D := D) hs'
  have hwo : ({ w with used := w.used + npar (D.sz - 25) s.length, sn := w.sn + 1 } : W7).Ok D' := ⟨by rw [hs']; exact h.wok.sc, hgg, hsg, hsl, by rw [(hbg 0).2]; show w.used + _ ≤ _; omega, by show w.sn + 1 ≤ w.used + _; omega⟩
  refine ⟨D', ?_, ⟨hc', hwo, h.br, ?_, ?_, ?_, ?_, ?_, ?_, ?_, ?_⟩, hz', hs'⟩
  · have hap : appP D w s = (0, D', { w with used := w.used + npar (D.sz - 25) s.length, sn := w.sn + 1 }) := by
      unfold appP
      rw [if_neg (by rw [hr]; decide), if_neg (by rw [hpn]; omega), if_neg (fun q => q ⟨by rw [hpn]; exact f1, by rw [hpn]; exact f2⟩), baseV_n,
        show ((bsN D w.sg : Nat) : Int) + ((w.used : Nat) : Int) = ((bsN D w.sg + w.used : Nat) : Int) from rfl, hp, if_pos rfl, splitL_len]
    unfold appL
    rw [if_neg (by rw [h.br]; decide), hap]
    show (0, D', ({ w with used := _, sn := _, broken := decide ((0 : Int) = 13) } : W7)) = _
    have hb := h.br
    cases w
    cases hb
    rfl
  · intro t ht
    rcases List.mem_append.1 ht with q | q
    · exact h.len t q
    · rw [List.mem_singleton.1 q]; exact hs
  · show w.used + _ = _
    rw [hz', secs_app, ← h.used, secs, secs, Nat.add_zero]
  · show w.sn + 1 = _
    rw [h.sn, List.length_append, List.length_singleton]
  · show placed D'.sz w.g (readV D' ((bsN D' w.sg : Nat) : Int) (segV D')) 0 0 (now ++ [s])
    have hT := readV_size h.calm.ok (n := ((bsN D w.sg : Nat) : Int)) (by omega) (segV D) (by omega)
    have hT' := readV_size hc'.ok (n := ((bsN D w.sg : Nat) : Int)) (by omega) (segV D) (by rw [hs']; omega)
    have hck : ∀ k, k < segV D → chunk D.sz (readV D ((bsN D w.sg : Nat) : Int) (segV D)) k = D.st.getD (bsN D w.sg + k) [] := fun k hk => readV_chunk h.calm hrg.2 hk
    have hck' : ∀ k, k < segV D → chunk D'.sz (readV D' ((bsN D w.sg : Nat) : Int) (segV D)) k = D'.st.getD (bsN D w.sg + k) [] := fun k hk => readV_chunk hc' (by rw [hs']; exact hrg.2) hk
    rw [(hbg w.sg).1, (hbg w.sg).2]
    rw [hz'] at hT' hck' ⊢
    refine placed_app1 now 0 0 (placed_congr7 (hT'.trans hT.symm) now 0 0 (fun k hk => ?_) h.here) (fun k hk => ?_) ?_
    · rw [Nat.zero_add, ← h.used] at hk
      rw [hck' k (by omega), hck k (by omega), hst, if_neg (by omega)]
    · rw [Nat.zero_add, Nat.zero_add, ← h.used, hck' _ (by omega), hst, if_pos (by omega), show bsN D w.sg + (w.used + k) - (bsN D w.sg + w.used) = k by omega, List.getD_eq_getElem?_getD, splitL_at hk, ← h.sn]
      rfl
    · rw [hT', Nat.zero_add, ← h.used]
      exact Nat.mul_le_mul_right _ (by omega)
  · show hGet D'.sz (D'.st.getD w.slot.toNat []) = _
    rw [hz', hst, if_neg (by omega)]
    exact h.head
  · show (hGet D'.sz (D'.st.getD (1 - w.slot).toNat [])).1.1 < _
    rw [hz', hst, if_neg (by omega)]
    exact h.other
  · intro k hk1 hk2
    have hk1 : w.used + npar (D.sz - 25) s.length ≤ k := hk1
    rw [(hbg 0).2] at hk2
    show oldS D'.sz w.g (D'.st.getD (bsN D' w.sg + k) [])
    rw [hz', (hbg w.sg).1, hst, if_neg (by omega)]
    exact h.old1 k (by omega) hk2
  · intro k hk2
    rw [(hbg 0).2] at hk2
    show oldS D'.sz w.g (D'.st.getD (bsN D' (1 - w.sg) + k) [])
    rw [hz', (hbg _).1, hst, if_neg ?_]
    · exact h.old2 k hk2
    · have hfl := bsN_flip (D := D) hsg
      omega
end Go.LX
end
section
set_option maxRecDepth 100000
set_option maxHeartbeats 2000000
set_option autoImplicit false
set_option linter.unusedVariables false
set_option linter.unusedSimpArgs false
namespace Go.LX
open Go.Proofs

theorem inv_chk {D : Dsk} {w : W7} {now : List Bs} {s : Bs} (h : Inv7 D w now) (hs : s.length ≤ 4096) (hp : partsV D.sz s.length ≤ segV D) (hg : w.g + 1 < 18446744073709551615) :
    ∃ D', chkL D w s = (0, D', ⟨w.g + 1, 1 - w.sg, 1 - w.slot, npar (D.sz - 25) s.length, 1, true, false⟩) ∧ Inv7 D' ⟨w.g + 1, 1 - w.sg, 1 - w.slot, npar (D.sz - 25) s.length, 1, true, false⟩ [s] ∧ D'.sz = D.sz ∧ D'.sc = D.sc := by
  have hz := h.calm.ok.sz
  have h4 := h.wok.sc
  have hrg := bsN_rng h.wok.sc w.sg
  have hrg2 := bsN_rng h.wok.sc (1 - w.sg)
  have hpn := parts_n h.calm.ok hs
  have hpos := npar_pos (D.sz - 25) s.length
  rw [hpn] at hp
  have hu := h.wok.used
  have hsl := h.wok.slot
  have hsg := h.wok.sg
  have hsn := h.wok.sn
  have hgg := h.wok.g
  have hfl := bsN_flip (D := D) hsg
  have hsc := h.calm.ok.sc
  have hv : segV D ≤ 2047 := by unfold segV; omega
  have hnx : hNext (w.g : Int) w.sg = ((((w.g + 1 : Nat) : Int), 1 - w.sg), 0) := by
    unfold hNext
    rw [if_neg (by omega)]
    rcases (show w.sg = 0 ∨ w.sg = 1 by omega) with q | q
    · rw [q, if_pos rfl]
      rfl
    · rw [q, if_neg (by decide)]
      rfl
  obtain ⟨D1, hp1, hc1, hz1, hs1, hst1⟩ := putV_calm (D := D) h.calm (n := bsN D (1 - w.sg)) (l := splitL D.sz (w.g + 1) 0 s) (by rw [splitL_len]; omega) (fun t ht => splitL_size hz ht)
  rw [splitL_len] at hst1
  have hok : hOk (D.sz : Int) ((w.g + 1 : Nat) : Int) (1 - w.sg) = true := decide_eq_true ⟨by omega, by omega, by omega, by omega, by omega⟩
  have hres : hRes (D.sz : Int) ((w.g + 1 : Nat) : Int) (1 - w.sg) = (hPut D.sz ((w.g + 1 : Nat) : Int) (1 - w.sg), 0) := by rw [hRes, if_pos hok, Int.toNat_natCast]
  have hhl := hPut_len (z := D.sz) (by omega) ((w.g + 1 : Nat) : Int) (1 - w.sg)
  have hgp := hGet_put hok (by omega) (by omega)
  obtain ⟨hd, hhd⟩ : ∃ x, hPut D.sz ((w.g + 1 : Nat) : Int) (1 - w.sg) = x := ⟨_, rfl⟩
  rw [hhd] at hres hhl hgp
  obtain ⟨D2, hp2, hc2, hz2, hs2, hst2⟩ := putV_calm (D := D1) hc1 (n := (1 - w.slot).toNat) (l := [hd]) (by rw [hs1, List.length_singleton]; omega) (fun t ht => by rw [List.mem_singleton.1 ht, hz1]; exact hhl)
  rw [List.length_singleton] at hst2
  have hbg := bsN_geo (D := D) (hs2.trans hs1)
  have hz' := hz2.trans hz1
  have hs' := hs2.trans hs1
  have hlow : ∀ i, 2 ≤ i → D2.st.getD i [] = D1.st.getD i [] := fun i hi => by rw [hst2, if_neg (by omega)]
  have hwo : (⟨w.g + 1, 1 - w.sg, 1 - w.slot, npar (D.sz - 25) s.length, 1, true, false⟩ : W7).Ok D2 := ⟨by rw [hs']; exact h4, ⟨by show 1 ≤ w.g + 1; omega, by show w.g + 1 < _; omega⟩, ⟨by show 0 ≤ 1 - w.sg; omega, by show 1 - w.sg ≤ 1; omega⟩, ⟨by show 0 ≤ 1 - w.slot; omega, by show 1 - w.slot ≤ 1; omega⟩, by rw [(hbg 0).2]; exact hp, hpos⟩
  refine ⟨D2, ?_, ⟨hc2, hwo, rfl, ?_, ?_, rfl, ?_, ?_, ?_, ?_, ?_⟩, hz', hs'⟩
  · have hap : chkP D w s = (0, D2, ⟨w.g + 1, 1 - w.sg, 1 - w.slot, npar (D.sz - 25) s.length, 1, true, w.broken⟩) := by
      unfold chkP
      rw [if_neg (by rw [hpn]; omega), if_neg (by rw [hpn]; omega), hnx]
      show (if (0 : Int) ≠ 0 then _ else _) = _
      rw [if_neg (fun q => q rfl)]
      show (if (putV D (baseV D (1 - w.sg)) (splitL D.sz (((w.g + 1 : Nat) : Int)).toNat 0 s)).1 ≠ 0 then _ else if (putV (putV D (baseV D (1 - w.sg)) (splitL D.sz (((w.g + 1 : Nat) : Int)).toNat 0 s)).2 (1 - w.slot) [(hRes D.sz ((w.g + 1 : Nat) : Int) (1 - w.sg)).1]).1 ≠ 0 then _ else
        (0, (putV (putV D (baseV D (1 - w.sg)) (splitL D.sz (((w.g + 1 : Nat) : Int)).toNat 0 s)).2 (1 - w.slot) [(hRes D.sz ((w.g + 1 : Nat) : Int) (1 - w.sg)).1]).2, (⟨(((w.g + 1 : Nat) : Int)).toNat, 1 - w.sg, 1 - w.slot, partsV D.sz s.length, 1, true, w.broken⟩ : W7))) = _
      rw [Int.toNat_natCast, hres, baseV_n, hp1]
      show (if (0 : Int) ≠ 0 then _ else if (putV D1 (1 - w.slot) [hd]).1 ≠ 0 then _ else (0, (putV D1 (1 - w.slot) [hd]).2, _)) = _
      rw [if_neg (fun q => q rfl), show 1 - w.slot = (((1 - w.slot).toNat : Nat) : Int) by omega, hp2]
      show (if (0 : Int) ≠ 0 then _ else (0, D2, _)) = _
      rw [if_neg (fun q => q rfl), hpn]
    unfold chkL
    rw [if_neg (by rw [h.br]; decide), hap]
    rfl
  · intro t ht
    rw [List.mem_singleton.1 ht]
    exact hs
  · show npar (D.sz - 25) s.length = _
    rw [hz', secs, secs, Nat.add_zero]
  · show placed D2.sz (w.g + 1) (readV D2 ((bsN D2 (1 - w.sg) : Nat) : Int) (segV D2)) 0 0 [s]
    have hT' := readV_size hc2.ok (n := ((bsN D (1 - w.sg) : Nat) : Int)) (by omega) (segV D) (by rw [hs']; omega)
    have hck' : ∀ k, k < segV D → chunk D2.sz (readV D2 ((bsN D (1 - w.sg) : Nat) : Int) (segV D)) k = D2.st.getD (bsN D (1 - w.sg) + k) [] := fun k hk => readV_chunk hc2 (by rw [hs']; exact hrg2.2) hk
    rw [(hbg _).1, (hbg w.sg).2]
    rw [hz'] at hT' hck' ⊢
    refine placed_app1 [] 0 0 trivial (fun k hk => ?_) ?_
    · rw [Nat.zero_add, secs, Nat.zero_add, hck' _ (by omega), hlow _ (by omega), hst1, if_pos (by omega), show bsN D (1 - w.sg) + k - bsN D (1 - w.sg) = k by omega, List.getD_eq_getElem?_getD, splitL_at hk]
      rfl
    · rw [hT', Nat.zero_add, secs, Nat.zero_add]
      exact Nat.mul_le_mul_right _ hp
  · show hGet D2.sz (D2.st.getD (1 - w.slot).toNat []) = _
    rw [hz', hst2, if_pos (by omega), Nat.sub_self]
    exact hgp
  · show (hGet D2.sz (D2.st.getD (1 - (1 - w.slot)).toNat [])).1.1 < ((w.g + 1 : Nat) : Int)
    rw [hz', show 1 - (1 - w.slot) = w.slot by omega, hst2, if_neg (by omega), hst1, if_neg (by omega), h.head]
    show (w.g : Int) < _
    omega
  · intro k hk1 hk2
    have hk1 : npar (D.sz - 25) s.length ≤ k := hk1
    rw [(hbg 0).2] at hk2
    show oldS D2.sz (w.g + 1) (D2.st.getD (bsN D2 (1 - w.sg) + k) [])
    rw [hz', (hbg _).1, hlow _ (by omega), hst1, if_neg (by omega)]
    exact (h.old2 k hk2).mono (Nat.le_succ _)
  · intro k hk2
    rw [(hbg 0).2] at hk2
    show oldS D2.sz (w.g + 1) (D2.st.getD (bsN D2 (1 - (1 - w.sg)) + k) [])
    rw [show 1 - (1 - w.sg) = w.sg by omega, hz', (hbg _).1, hlow _ (by omega), hst1, if_neg (by omega)]
    by_cases hk : w.used ≤ k
    · exact (h.old1 k hk hk2).mono (Nat.le_succ _)
    · have hck : chunk D.sz (readV D ((bsN D w.sg : Nat) : Int) (segV D)) k = D.st.getD (bsN D w.sg + k) [] := readV_chunk h.calm hrg.2 hk2
      obtain ⟨sr, t, j, q1, q2, q3, q4⟩ := placed_here now 0 0 k h.here (by rw [← h.used]; omega)
      rw [Nat.zero_add, hck] at q4
      refine .inr ⟨w.g, sr, t, j, Nat.lt_succ_self _, hgg.2, ?_, h.len t q2, q3, q4⟩
      rw [Nat.zero_add, ← h.sn] at q1
      omega
theorem calm_fresh {z c : Nat} (h1 : 64 ≤ z ∧ z ≤ 512) (h2 : 1 ≤ c ∧ c ≤ 4096) : Calm7 (Dsk.fresh z c) := ⟨Dsk.fresh_ok h1 h2, rfl, rfl⟩
theorem fresh_at {z c i : Nat} (h : i < c) : (Dsk.fresh z c).st.getD i [] = Z z := by
  show (List.replicate c (Z z)).getD i [] = Z z
  rw [List.getD_eq_getElem?_getD, List.getElem?_replicate, if_pos h]
  rfl
theorem opnB_none {D : Dsk} (hc : Calm7 D) (h4 : 4 ≤ D.sc) (hh : (hdD D).2 < 0) :
    ∃ D', opnB D = (0, D', opnW D' 1 0 1) ∧ Calm7 D' ∧ D'.sz = D.sz ∧ D'.sc = D.sc ∧ hGet D.sz (D'.st.getD 1 []) = ((1, 0), 0) ∧ ∀ i, i ≠ 1 → D'.st.getD i [] = D.st.getD i [] := by
  have hz := hc.ok.sz
  have hok : hOk (D.sz : Int) 1 0 = true := decide_eq_true ⟨by omega, by omega, by omega, by omega, by omega⟩
  have hres : hRes (D.sz : Int) 1 0 = (hPut D.sz 1 0, 0) := by rw [hRes, if_pos hok, Int.toNat_natCast]
  have hhl := hPut_len (z := D.sz) (by omega) 1 0
  have hgp := hGet_put hok (by omega) (by omega)
  obtain ⟨hd, hhd⟩ : ∃ x, hPut D.sz 1 0 = x := ⟨_, rfl⟩
  rw [hhd] at hres hhl hgp
  obtain ⟨D2, hp2, hc2, hz2, hs2, hst2⟩ := putV_calm (D := D) hc (n := 1) (l := [hd]) (by rw [List.length_singleton]; omega) (fun t ht => by rw [List.mem_singleton.1 ht]; exact hhl)
  rw [List.length_singleton] at hst2
  have hp2 : putV D 1 [hd] = (0, D2) := hp2
  refine ⟨D2, ?_, hc2, hz2, hs2, ?_, fun i hi => ?_⟩
  · unfold opnB
    rw [if_pos hh, hres]
    show (if (putV D 1 [hd]).1 ≠ 0 then _ else ((0 : Int), (putV D 1 [hd]).2, opnW (putV D 1 [hd]).2 1 0 1)) = _
    rw [hp2]
    exact if_neg (fun q => q rfl)
  · rw [hst2, if_pos (by omega)]
    exact hgp
  · rw [hst2, if_neg (by omega)]
theorem opn_calm {D : Dsk} (hc : Calm7 D) (h4 : 4 ≤ D.sc) : opn D = opnB D := by
  unfold opn
  rw [if_neg (by omega), fl_calm hc]
  show (if (0 : Int) ≠ 0 then _ else opnB D) = _
  exact if_neg (fun q => q rfl)
theorem fresh_inv {z c : Nat} (h1 : 64 ≤ z ∧ z ≤ 512) (h2 : 4 ≤ c ∧ c ≤ 4096) :
    ∃ D', opn (Dsk.fresh z c) = (0, D', ⟨1, 0, 1, 0, 0, false, false⟩, []) ∧ Inv7 D' ⟨1, 0, 1, 0, 0, false, false⟩ [] ∧ D'.sz = z ∧ D'.sc = c := by
  have hc := calm_fresh (z := z) (c := c) h1 (by omega)
  have hh0 := head_zero z
  have hhd : hdD (Dsk.fresh z c) = ((0, 0), -1) := by
    rw [hdD_calm hc (by show 2 ≤ c; omega), fresh_at (by omega), fresh_at (by omega)]
    show hStep z (hStep z ((0, 0), -1) 0 (Z z)) 1 (Z z) = _
    rw [h7_out (k := 0) (by rw [hh0.2]; exact Int.le_refl _), h7_out (by rw [hh0.2]; exact Int.le_refl _)]
  obtain ⟨D', e, hc', hz', hs', hg, hst⟩ := opnB_none hc (by show 4 ≤ c; omega) (by rw [hhd]; decide)
  have hz' : D'.sz = z := hz'
  have hs' : D'.sc = c := hs'
  have hsv : segV D' = (c - 2) / 2 := by unfold segV; rw [hs']
  have hbn : ∀ sg, 2 ≤ bsN D' sg ∧ bsN D' sg + segV D' ≤ c := fun sg => by
    have := bsN_rng (D := D') (by omega) sg
    omega
  have hold : ∀ sg k, k < segV D' → oldS D'.sz 1 (D'.st.getD (bsN D' sg + k) []) := fun sg k hk => by
    have := hbn sg
    rw [hst _ (by omega), fresh_at (by omega), hz']
    exact .inl rfl
  have hother : (hGet D'.sz (D'.st.getD 0 [])).1.1 < 1 := by
    rw [hst 0 (by decide), fresh_at (by omega), hz', hh0.2]
    decide
  have hI : Inv7 D' ⟨1, 0, 1, 0, 0, false, false⟩ [] := ⟨hc', ⟨by omega, ⟨by decide, by decide⟩, ⟨by decide, by decide⟩, ⟨by decide, by decide⟩, Nat.zero_le _, Nat.le_refl _⟩, rfl, (fun t ht => absurd ht List.not_mem_nil), rfl, rfl, trivial,
    (by rw [hz']; exact hg), hother, fun k _ hk => hold 0 k hk, fun k hk => hold (1 - 0) k hk⟩
  refine ⟨D', ?_, hI, hz', hs'⟩
  rw [opn_calm hc (by show 4 ≤ c; omega), e]
  have hs := inv_scan hI
  unfold opnW
  have hs : scanA D'.sz 1 (readV D' (baseV D' 0) (segV D')) = ([], 0) := hs
  rw [hs]
  rfl
end Go.LX
end
section
set_option maxRecDepth 100000
set_option maxHeartbeats 2000000
set_option autoImplicit false
set_option linter.unusedVariables false
set_option linter.unusedSimpArgs false
namespace Go.LX
open Go.Proofs

theorem strL_at (l : List Bz) {k : Nat} (h : k < l.length) : (strL l)[((k : Nat) : Int).toNat]? = some (CV.str (l.getD k [])) := by
  rw [Int.toNat_natCast, List.getElem?_map, List.getElem?_eq_getElem h, List.getD_eq_getElem?_getD, List.getElem?_eq_getElem h]
  rfl
def textsS : Spec := fun args H Q => match args, H with
  | [.sl 1 n cs f, .sl 1 n' cs' f'], [] => ∃ p q : List Bz, cs = strL p ∧ cs' = strL q ∧ n = p.length ∧ n' = q.length ∧ p.length ≤ 9223372036854775807 ∧ q.length ≤ 9223372036854775807 ∧ Q (.bool (decide (p = q))) []
  | _, _ => False
theorem texts_c : Meets Tryz.prog [] 18 textsS := by
  refine meets_of Γok Tryz.func18 rfl ?_
  intro args H Q h
  unfold textsS at h
  split at h
  case h_2 => exact h.elim
  rename_i n cs f n' cs' f'
  obtain ⟨p, q, rfl, rfl, rfl, rfl, hp, hq, h⟩ := h
  by_cases hlen : p.length = q.length
  case neg =>
    have e : (!decide (((p.length : Nat) : Int) = ((q.length : Nat) : Int))) = true := by rw [decide_eq_false (by omega)]; rfl
    have e2 : decide (p = q) = false := decide_eq_false (fun u => hlen (congrArg List.length u))
    rw [e2] at h
    (refine sx_sound Γok _ ?_; conv => whnf)
    (repeat (first | (refine Both.of_true e ?_; conv => whnf) | (exact Out.same; conv => whnf) | (exact Out1.same; conv => whnf) | (refine QAnd.mk ?_ ?_; conv => whnf) | (apply QStepH.go; conv => whnf) | (refine Both.lit_true ?_; conv => whnf) | (refine Both.lit_false ?_; conv => whnf) | (apply QStep.go; conv => whnf) | (refine Need.au ?_; conv => whnf) | (refine ⟨_, rfl, ?_⟩; conv => whnf)))
    exact ⟨_, _, WeakV.drop rfl, h⟩
  have e : (!decide (((p.length : Nat) : Int) = ((q.length : Nat) : Int))) = false := by rw [decide_eq_true (by omega)]; rfl
  (refine sx_sound Γok _ ?_; conv => whnf)
  (repeat (first | (refine Both.of_false e ?_; conv => whnf) | (exact Out.same; conv => whnf) | (exact Out1.same; conv => whnf) | (refine QAnd.mk ?_ ?_; conv => whnf) | (apply QStepH.go; conv => whnf) | (refine Both.lit_true ?_; conv => whnf) | (refine Both.lit_false ?_; conv => whnf) | (apply QStep.go; conv => whnf) | (refine Need.au ?_; conv => whnf) | (refine ⟨_, rfl, ?_⟩; conv => whnf)))
  refine loop_rule (fun k : Nat => ⟨[.sl 1 p.length (strL p) f, .sl 1 q.length (strL q) f', .any, .any, .any, .int .i64 (k : Int), .any, .any, .any, .any, .any, .any, .any, .any, .any, .any, .any, .any, .any, .any, .any, .any, .any, .any, .any, .any], []⟩) (fun k => k ≤ p.length ∧ p.take k = q.take k) (fun k => p.length - k) 0 ⟨Nat.zero_le _, rfl⟩ (Weak.auto ?_) ?_
  · (repeat' ((conv => whnf); first | exact True.intro | (refine And.intro ?_ ?_)))
    all_goals first | rfl | exact .eq rfl
  rintro k ⟨hk, hpq⟩
  (refine sx_sound Γok _ ?_; conv => whnf)
  (repeat (first | (exact Out.same; conv => whnf) | (exact Out1.same; conv => whnf) | (refine QAnd.mk ?_ ?_; conv => whnf) | (apply QStepH.go; conv => whnf) | (refine Both.lit_true ?_; conv => whnf) | (refine Both.lit_false ?_; conv => whnf) | (apply QStep.go; conv => whnf) | (refine Need.au ?_; conv => whnf) | (refine ⟨_, rfl, ?_⟩; conv => whnf)))
  refine Both.dec (fun hlt => ?_) (fun hge => ?_)
  · have hkl : k < p.length := by omega
    have hat := strL_at p hkl
    have hat2 := strL_at q (show k < q.length by omega)
    have hwr : IntKind.i64.wrap ((k : Int) + 1) = ((k + 1 : Nat) : Int) := by rw [wrap_i64 (by omega) (by omega)]; rfl
    have g1 : p.getD k [] = p[k] := by rw [List.getD_eq_getElem?_getD, List.getElem?_eq_getElem hkl]; rfl
    have g2 : q.getD k [] = q[k]'(by omega) := by rw [List.getD_eq_getElem?_getD, List.getElem?_eq_getElem (show k < q.length by omega)]; rfl
    by_cases hne : p.getD k [] = q.getD k []
    · have e2 : (!decide (p.getD k [] = q.getD k [])) = false := by rw [decide_eq_true hne]; rfl
      have hnext : p.take (k + 1) = q.take (k + 1) := by
        rw [List.take_succ_eq_append_getElem hkl, List.take_succ_eq_append_getElem (show k < q.length by omega), hpq, ← g1, ← g2, hne]
      (conv => whnf)
      (refine DrawVC.any Γok (by kernel_rfl) (by kernel_rfl) (by kernel_rfl) (by rfl) ?_; conv => whnf)
      (repeat (first | (refine ⟨_, hat, ?_⟩; conv => whnf) | (refine ⟨_, hat2, ?_⟩; conv => whnf) | (refine Both.of_false e2 ?_; conv => whnf) | (exact Out.same; conv => whnf) | (exact Out1.same; conv => whnf) | (refine QAnd.mk ?_ ?_; conv => whnf) | (apply QStepH.go; conv => whnf) | (refine Both.lit_true ?_; conv => whnf) | (refine Both.lit_false ?_; conv => whnf) | (apply QStep.go; conv => whnf) | (refine Need.au ?_; conv => whnf) | (refine ⟨_, rfl, ?_⟩; conv => whnf)))
      refine ⟨k + 1, ⟨by omega, hnext⟩, by omega, Weak.auto ?_⟩
      (repeat' ((conv => whnf); first | exact True.intro | (refine And.intro ?_ ?_)))
      all_goals first | rfl | exact .eq rfl | exact congrArg (SV.int .i64) hwr
    · have e2 : (!decide (p.getD k [] = q.getD k [])) = true := by rw [decide_eq_false hne]; rfl
      have e3 : decide (p = q) = false := decide_eq_false (fun u => hne (by rw [u]))
      rw [e3] at h
      (conv => whnf)
      (refine DrawVC.any Γok (by kernel_rfl) (by kernel_rfl) (by kernel_rfl) (by rfl) ?_; conv => whnf)
      (repeat (first | (refine ⟨_, hat, ?_⟩; conv => whnf) | (refine ⟨_, hat2, ?_⟩; conv => whnf) | (refine Both.of_true e2 ?_; conv => whnf) | (exact Out.same; conv => whnf) | (exact Out1.same; conv => whnf) | (refine QAnd.mk ?_ ?_; conv => whnf) | (apply QStepH.go; conv => whnf) | (refine Both.lit_true ?_; conv => whnf) | (refine Both.lit_false ?_; conv => whnf) | (apply QStep.go; conv => whnf) | (refine Need.au ?_; conv => whnf) | (refine ⟨_, rfl, ?_⟩; conv => whnf)))
      exact ⟨_, _, WeakV.drop rfl, h⟩
  · have e3 : decide (p = q) = true := by
      refine decide_eq_true ?_
      have hk1 : k = p.length := by omega
      rw [hk1, List.take_length, hlen, List.take_length] at hpq
      exact hpq
    rw [e3] at h
    (conv => whnf)
    (repeat (first | (exact Out.same; conv => whnf) | (exact Out1.same; conv => whnf) | (refine QAnd.mk ?_ ?_; conv => whnf) | (apply QStepH.go; conv => whnf) | (refine Both.lit_true ?_; conv => whnf) | (refine Both.lit_false ?_; conv => whnf) | (apply QStep.go; conv => whnf) | (refine Need.au ?_; conv => whnf) | (refine ⟨_, rfl, ?_⟩; conv => whnf)))
    exact ⟨_, _, WeakV.drop rfl, h⟩
theorem texts_k : Contract Tryz.prog [] 18 textsS := ⟨⟨⟨_, rfl, rfl, rfl⟩⟩, texts_c⟩
def textsNS : Spec := fun args H Q => match args, H with
  | [.nilsl, .nilsl], [] => Q (.bool true) []
  | _, _ => False
theorem textsN_c : Meets Tryz.prog [] 18 textsNS := by
  refine meets_of Γok Tryz.func18 rfl ?_
  intro args H Q h
  unfold textsNS at h
  split at h
  case h_2 => exact h.elim
  (refine sx_sound Γok _ ?_; conv => whnf)
  (repeat (first | (exact Out.same; conv => whnf) | (exact Out1.same; conv => whnf) | (refine QAnd.mk ?_ ?_; conv => whnf) | (apply QStepH.go; conv => whnf) | (refine Both.lit_true ?_; conv => whnf) | (refine Both.lit_false ?_; conv => whnf) | (apply QStep.go; conv => whnf) | (refine Need.au ?_; conv => whnf) | (refine ⟨_, rfl, ?_⟩; conv => whnf)))
  refine loop_rule (fun k : Nat => ⟨[.nilsl, .nilsl, .any, .any, .any, .int .i64 0, .any, .any, .any, .any, .any, .any, .any, .any, .any, .any, .any, .any, .any, .any, .any, .any, .any, .any, .any, .any], []⟩) (fun k => k = 0) (fun k => k) 0 rfl (Weak.auto ?_) ?_
  · (repeat' ((conv => whnf); first | exact True.intro | (refine And.intro ?_ ?_)))
    all_goals first | rfl | exact .eq rfl
  intro k hk
  (refine sx_sound Γok _ ?_; conv => whnf)
  (repeat (first | (exact Out.same; conv => whnf) | (exact Out1.same; conv => whnf) | (refine QAnd.mk ?_ ?_; conv => whnf) | (apply QStepH.go; conv => whnf) | (refine Both.lit_true ?_; conv => whnf) | (refine Both.lit_false ?_; conv => whnf) | (apply QStep.go; conv => whnf) | (refine Need.au ?_; conv => whnf) | (refine ⟨_, rfl, ?_⟩; conv => whnf)))
  exact ⟨_, _, WeakV.drop rfl, h⟩
theorem textsN_k : Contract Tryz.prog [] 18 textsNS := ⟨⟨⟨_, rfl, rfl, rfl⟩⟩, textsN_c⟩
end Go.LX
end
section
set_option maxRecDepth 100000
set_option maxHeartbeats 1000000
set_option autoImplicit false
set_option linter.unusedVariables false
set_option linter.unusedSimpArgs false
namespace Go.LX
open Go.Proofs

def mvF (n i : Nat) : Nat → Option Nat := fun j => some (bif Nat.beq j i then n else j)
def mvH (H : List LObj) (i : Nat) : List LObj := ((H.set i .gone).map (LObj.ren (mvF H.length i))) ++ [(H.getD i .gone).ren (mvF H.length i)]
theorem mvF_eq (n i : Nat) : mvF n i i = some n := by
  unfold mvF
  rw [show Nat.beq i i = true from Nat.beq_refl i]
  rfl
theorem mvF_ne {n i j : Nat} (h : j ≠ i) : mvF n i j = some j := by
  unfold mvF
  cases hb : Nat.beq j i with
  | true => exact absurd (Nat.eq_of_beq_eq_true hb) h
  | false => rfl
theorem mvH_get {H : List LObj} {i k : Nat} {o' : LObj} (hi : i < H.length) (h : (mvH H i)[k]? = some o') :
    (∃ j o, H[j]? = some o ∧ o' = o.ren (mvF H.length i) ∧ ((j = k ∧ k ≠ i ∧ k < H.length) ∨ (j = i ∧ k = H.length))) ∨ (k = i ∧ o' = .gone) := by
  unfold mvH at h
  rw [List.getElem?_append] at h
  split at h
  · rename_i hk
    rw [List.length_map, List.length_set] at hk
    rw [List.getElem?_map] at h
    by_cases hki : k = i
    · rw [hki, List.getElem?_set_self hi] at h
      exact .inr ⟨hki, (Option.some.inj h).symm⟩
    · rw [List.getElem?_set_ne (fun q => hki q.symm), List.getElem?_eq_getElem hk] at h
      exact .inl ⟨k, H[k], List.getElem?_eq_getElem hk, (Option.some.inj h).symm, .inl ⟨rfl, hki, hk⟩⟩
  · rename_i hk
    rw [List.length_map, List.length_set] at h hk
    have hk2 : k = H.length := by
      rcases Nat.lt_or_ge (k - H.length) 1 with q | q
      · omega
      · rw [List.getElem?_eq_none (by simpa using q)] at h
        cases h
    rw [hk2, Nat.sub_self] at h
    refine .inl ⟨i, H[i], List.getElem?_eq_getElem hi, ?_, .inr ⟨rfl, hk2⟩⟩
    rw [List.getElem?_cons_zero, List.getD_eq_getElem?_getD, List.getElem?_eq_getElem hi] at h
    exact (Option.some.inj h).symm
theorem Weak.move {G : Gl} {N : Nat} {s : LS} (i : Nat) (hi : i < s.h.length) : Weak G N s ⟨SV.renL (mvF s.h.length i) s.t, mvH s.h i⟩ := by
  intro A E w a hA hs
  have hn := hs.rel.len
  have hin : i < E.n := by rw [← hn]; exact hi
  have le := E.le_add (E.b i) (E.v i)
  have nam : E.Named (E.add (E.b i) (E.v i)) (mvF s.h.length i) := by
    refine ⟨fun j k hj hk => ?_, fun j k hj hk => ?_, fun j k hj hk => ?_, fun b hb => hb⟩
    all_goals
      by_cases hji : j = i
      · rw [hji, mvF_eq] at hk
        obtain rfl := Option.some.inj hk
        first
          | (show s.h.length < E.n + 1; omega)
          | (rw [hn, Env.add_b, hji])
          | (rw [hn, Env.add_v, hji])
      · rw [mvF_ne hji] at hk
        obtain rfl := Option.some.inj hk
        first
          | (show j < E.n + 1; omega)
          | exact le.b j hj
          | exact le.v j hj
  have hsrc : ∀ {k : Nat} {o' : LObj}, (mvH s.h i)[k]? = some o' → ∀ b, foot (E.add (E.b i) (E.v i)) k o' = some b → ∃ j o, s.h[j]? = some o ∧ foot E j o = some b ∧ ((j = k ∧ k ≠ i ∧ k < s.h.length) ∨ (j = i ∧ k = s.h.length)) := by
    intro k o' hk b hb
    rcases mvH_get hi hk with ⟨j, o, h1, rfl, h2⟩ | ⟨_, rfl⟩
    · refine ⟨j, o, h1, ?_, h2⟩
      have hj : j < E.n := by rw [← hn]; exact lt_of_get h1
      have hf : mvF s.h.length i j = some k := by
        rcases h2 with ⟨rfl, h3, _⟩ | ⟨rfl, rfl⟩
        · exact mvF_ne h3
        · exact mvF_eq _ _
      rw [← foot_ren nam hj hf]
      exact hb
    · cases hb
  have hfo : ∀ b, InFoot (E.add (E.b i) (E.v i)) (mvH s.h i) b → InFoot E s.h b := by
    rintro b ⟨k, o', hk, hf⟩
    obtain ⟨j, o, h1, h2, _⟩ := hsrc hk b hf
    exact ⟨j, o, h1, h2⟩
  have hrel : Rel (E.add (E.b i) (E.v i)) (mvH s.h i) w := by
    refine ⟨?_, ?_, ?_, fun b hb => hs.rel.imm b (hfo b hb), hs.rel.ltI⟩
    · show (mvH s.h i).length = E.n + 1
      unfold mvH
      rw [List.length_append, List.length_map, List.length_set, hn]
      rfl
    · intro k o' hk
      rcases mvH_get hi hk with ⟨j, o, h1, rfl, h2⟩ | ⟨_, rfl⟩
      · have hj : j < E.n := by rw [← hn]; exact lt_of_get h1
        have hf : mvF s.h.length i j = some k := by
          rcases h2 with ⟨rfl, h3, _⟩ | ⟨rfl, rfl⟩
          · exact mvF_ne h3
          · exact mvF_eq _ _
        exact ObjR.ren nam hj hf (hs.rel.obj j o h1)
      · trivial
    · intro k k' o o' b hne hk hk' hf hf'
      obtain ⟨j, x, h1, h2, h3⟩ := hsrc hk b hf
      obtain ⟨j', x', h1', h2', h3'⟩ := hsrc hk' b hf'
      refine hs.rel.sep j j' x x' b ?_ h1 h1' h2 h2'
      intro q
      omega
  exact ⟨_, ⟨hs.anc.trans le, hs.vals.ren nam, hrel, ⟨hs.gl.ok⟩, hs.nod⟩, ⟨Nat.le_refl _, fun _ _ _ => rfl, rfl, rfl, rfl, fun b hb => .inr (hfo b hb), fun b h => h, fun b h => .inl h⟩⟩
theorem WeakV.move {G : Gl} {N : Nat} {r : SV} {H : List LObj} (i : Nat) (hi : i < H.length) : WeakV G N r H (r.ren (mvF H.length i)) (mvH H i) := WeakV.of (Weak.move (s := ⟨[r], H⟩) i hi)
theorem WeakV.pubOne {G : Gl} {N : Nat} {r : SV} {H : List LObj} (i : Nat) {e sz n : Nat} {xs : List CV} {wr : Bool} (hi : H[i]? = some (.own e sz n xs wr)) : WeakV G N r H ((pubL i sz n xs [r]).getD 0 .any) (H.set i .gone) := by
  refine WeakV.of (r' := (pubL i sz n xs [r]).getD 0 .any) ?_
  have h := Weak.pubT (G := G) (N := N) (s := ⟨[r], H⟩) i hi
  exact h
end Go.LX
end
