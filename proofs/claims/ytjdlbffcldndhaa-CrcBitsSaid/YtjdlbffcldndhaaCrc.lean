import Derived.Test.YtjdlbffcldndhaaTy
import Derived.Test.YtjdlbffcldndhaaCrcMath
set_option maxRecDepth 100000
set_option autoImplicit false
set_option linter.unusedVariables false
set_option linter.unusedSimpArgs false
namespace Go.LX
open Go.Proofs

/-! ## The program's table -/
def tabAt (i : Nat) : BitVec 32 := Crc.steps 8 (BitVec.ofNat 32 i)
def tabTo (n : Nat) : List SV := (List.range 256).map fun i => .int .u32 (if i < n then u32 (tabAt i) else 0)
def tableS : Spec := fun args H Q => match args, H with
  | [], [] => Q (.agg (tabTo 256)) []
  | _, _ => False

theorem tabTo_zero : tabTo 0 = List.replicate 256 (.int .u32 0) := by
  unfold tabTo
  apply List.ext_getElem?
  intro j
  rw [List.getElem?_map, List.getElem?_replicate]
  by_cases h : j < 256
  · simp [h]
  · simp [h]
theorem tabTo_length (n : Nat) : (tabTo n).length = 256 := by simp [tabTo]
theorem tabTo_set (n : Nat) (h : n < 256) : (tabTo n).set n (.int .u32 (u32 (tabAt n))) = tabTo (n + 1) := by
  apply List.ext_getElem?
  intro j
  rw [List.getElem?_set]
  unfold tabTo
  by_cases hj : n = j
  · subst hj
    simp [h]
  · rw [if_neg hj]
    by_cases hl : j < 256
    · have : (j < n) = (j < n + 1) := by simp; omega
      simp [hl, this]
    · simp [hl]

theorem tabTo_far (n : Nat) : ∀ y ∈ tabTo n, isFar y := by
  intro y hy
  obtain ⟨i, _, rfl⟩ := List.mem_map.1 hy
  trivial
theorem tabTo_ren (n : Nat) (f : Nat → Option Nat) : SV.renL f (tabTo n) = tabTo n := SV.renL_map f _ _ fun _ => rfl
theorem poly_mul (x : BitVec 32) : IntKind.u32.wrap (bitAnd .u32 (u32 x) 1 * 3988292384) = u32 (bif x.getLsbD 0 then Crc.poly else 0) := by
  have h1 : (1 : Int) = u32 1 := rfl
  have h2 : (3988292384 : Int) = u32 Crc.poly := rfl
  rw [h1, h2, and_u32, mul_u32]
  congr 1
  cases h : x.getLsbD 0
  · have : x &&& 1 = 0 := by
      apply BitVec.eq_of_getLsbD_eq
      intro i hi
      cases i with
      | zero => rw [BitVec.getLsbD_and, h]; rfl
      | succ i => simp
    rw [this]; simp
  · have : x &&& 1 = 1 := by
      apply BitVec.eq_of_getLsbD_eq
      intro i hi
      cases i with
      | zero => rw [BitVec.getLsbD_and, h]; rfl
      | succ i => simp
    rw [this]; simp

theorem step_go (x : BitVec 32) : bitXor .u32 (shrI .u32 (u32 x) 1) (IntKind.u32.wrap (bitAnd .u32 (u32 x) 1 * 3988292384)) = u32 (Crc.step x) := by
  rw [poly_mul, show (1 : Int) = ((1 : Nat) : Int) from rfl, shr_u32 x 1 (by omega), xor_u32]
  rfl

theorem table_zero : zeroCells ti37 = tabTo 0 := by
  rw [tabTo_zero]
  rfl
theorem u32_of_i64 (n : Nat) (h : n < 4294967296) : IntKind.u32.wrap (n : Int) = u32 (BitVec.ofNat 32 n) := by
  rw [wrap_u32_mod]
  unfold u32
  simp
theorem table_c : Meets Try.prog [] 21 tableS := by
  refine meets_of Γok Try.func21 rfl ?_
  intro args H Q h
  unfold tableS at h
  split at h
  case h_2 => exact h.elim
  (refine sx_sound Γok _ ?_; conv => whnf)
  refine loop_rule (fun k : Nat => ⟨[.ptr 0 0, .ptr 1 0, .any, .any, .int .i64 (k : Int), .any, .any, .any, .any, .any, .any, .any, .any, .any, .any, .any, .any, .any, .any, .any, .any, .any, .any], [.cells (tabTo 0) 37, .cells (tabTo k) 37]⟩) (fun k => k ≤ 256) (fun k => 256 - k) 0 (by omega) ?_ ?_
  · refine Weak.le ?_ ?_
    · (repeat' ((conv => whnf); first | exact True.intro | (refine And.intro ?_ ?_)))
      all_goals rfl
    · (repeat' ((conv => whnf); first | exact True.intro | (refine And.intro ?_ ?_)))
      all_goals first | rfl | exact .eq table_zero
  · intro k hk
    (refine sx_sound Γok _ ?_; conv => whnf)
    refine Both.dec (fun hlt => ?_) (fun hge => ?_)
    · (conv => whnf)
      refine loop_rule (fun j : Nat => ⟨[.ptr 0 0, .ptr 1 0, .int .i64 (k : Int), .int .u32 (u32 (Crc.steps j (BitVec.ofNat 32 k))), .int .i64 (k : Int), .any, .any, .any, .any, .int .i64 (j : Int), .any, .any, .any, .any, .any, .any, .any, .any, .any, .any, .any, .any, .any], [.cells (tabTo 0) 37, .cells (tabTo k) 37]⟩) (fun j => j ≤ 8) (fun j => 8 - j) 0 (by omega) ?_ ?_
      · refine Weak.le ?_ ?_
        · (repeat' ((conv => whnf); first | exact True.intro | (refine And.intro ?_ ?_)))
          all_goals first | rfl | (rw [u32_of_i64 k (by omega)]; rfl)
        · (repeat' ((conv => whnf); first | exact True.intro | (refine And.intro ?_ ?_)))
          all_goals first | rfl | exact .eq rfl
      · intro j hj
        (refine sx_sound Γok _ ?_; conv => whnf)
        refine Both.dec (fun hlt2 => ?_) (fun hge2 => ?_)
        · (conv => whnf)
          refine Need.mk (by omega) ?_
          (conv => whnf)
          refine ⟨j + 1, by omega, by omega, Weak.le ?_ ?_⟩
          · (repeat' ((conv => whnf); first | exact True.intro | (refine And.intro ?_ ?_)))
            all_goals first | rfl | (rw [step_go, ← Crc.steps_succ]; done) | (rw [wrap_i64 (by omega) (by omega)]; rfl)
          · (repeat' ((conv => whnf); first | exact True.intro | (refine And.intro ?_ ?_)))
            all_goals first | rfl | exact .eq rfl
        · have h8 : j = 8 := by omega
          subst h8
          (conv => whnf)
          refine Need.mk (by omega) ?_
          (conv => whnf)
          refine Need.mk ⟨rfl, by rw [tabTo_length]; omega⟩ ?_
          (conv => whnf)
          refine ⟨k + 1, by omega, by omega, Weak.le ?_ ?_⟩
          · (repeat' ((conv => whnf); first | exact True.intro | (refine And.intro ?_ ?_)))
            all_goals first | rfl | (rw [wrap_i64 (by omega) (by omega)]; rfl)
          · (repeat' ((conv => whnf); first | exact True.intro | (refine And.intro ?_ ?_)))
            all_goals first | rfl | exact .eq rfl | (refine .eq ?_; rw [← tabTo_set k (by omega)]; rw [Nat.zero_add, Int.toNat_natCast]; rfl)
    · have hk' : k = 256 := by omega
      subst hk'
      (conv => whnf)
      refine Need.mk (tabTo_length _) ?_
      (conv => whnf)
      refine Need.mk ⟨tabTo_length _, tabTo_length _, tabTo_far _⟩ ?_
      (conv => whnf)
      refine Need.mk (tabTo_length _) ?_
      (conv => whnf)
      exact ⟨_, _, WeakV.drop (congrArg SV.agg (tabTo_ren _ _)), h⟩

end Go.LX
