import Derived.Test.YtjdlbffcldndhaaCrcB
set_option maxRecDepth 100000
set_option autoImplicit false
set_option linter.unusedVariables false
set_option linter.unusedSimpArgs false
namespace Go.LX
open Go.Proofs

theorem over_k : Contract Try.prog [] 19 overS := ⟨⟨⟨_, rfl, rfl, rfl⟩⟩, over_c⟩
def sumS : Spec := fun args H Q => match args, H with
  | [p], [] => ∃ parts : List (List UInt8), (p = .sl 1 parts.length (parts.map .str) true ∨ p = .nilsl ∧ parts = []) ∧ parts.length < 1000000 ∧ (∀ s ∈ parts, s.length < 1000000) ∧ Q (.int .u32 (u32 (Crc.sum parts.flatten))) []
  | _, _ => False
theorem str_get {parts : List (List UInt8)} {k : Nat} (h : k < parts.length) : (parts.map CV.str)[((k : Nat) : Int).toNat]? = some (.str parts[k]) := by
  rw [Int.toNat_natCast, List.getElem?_map, List.getElem?_eq_getElem h]; rfl
theorem sum_go {parts : List (List UInt8)} {k : Nat} (h : k < parts.length) : Crc.over (Crc.over (~~~ 0) (parts.take k).flatten) parts[k] = Crc.over (~~~ 0) (parts.take (k + 1)).flatten := by
  rw [List.take_succ_eq_append_getElem h, List.flatten_append, Crc.over_append]; simp
theorem sum_c : Meets Try.prog [] 9 sumS := by
  refine meets_of Γok Try.func9 rfl ?_
  intro args H Q h
  unfold sumS at h
  split at h
  case h_2 => exact h.elim
  obtain ⟨parts, hp, hl, hs, h⟩ := h
  (refine sx_sound Γok _ ?_; conv => whnf)
  rcases hp with rfl | ⟨rfl, rfl⟩
  · (conv => whnf)
    refine loop_rule (fun k : Nat => ⟨[.any, .any, .any, .int .u32 (u32 (Crc.over (~~~ 0) (parts.take k).flatten)), .any, .any, .sl 1 parts.length (parts.map .str) true, .int .i64 (parts.length : Int), .int .i64 (k : Int), .any, .any, .any, .any, .any, .any, .any, .any, .any], []⟩) (fun k => k ≤ parts.length) (fun k => parts.length - k) 0 (by omega) ?_ ?_
    · refine Weak.le ?_ ?_
      · (repeat' ((conv => whnf); first | exact True.intro | (refine And.intro ?_ ?_)))
        all_goals rfl
      · (repeat' ((conv => whnf); first | exact True.intro | (refine And.intro ?_ ?_)))
        all_goals first | rfl | exact .eq rfl
    · intro k hk
      (refine sx_sound Γok _ ?_; conv => whnf)
      refine Both.dec (fun hlt => ?_) (fun hge => ?_)
      · (conv => whnf)
        (repeat (first | (refine Both.lit_true ?_; conv => whnf) | (refine Both.lit_false ?_; conv => whnf) | (refine Need.mk (by first | omega | exact ⟨by omega, by omega⟩ | rfl | exact ⟨rfl, rfl⟩) ?_; conv => whnf)))
        refine ⟨_, str_get (by omega), ?_⟩
        (conv => whnf)
        (refine ⟨_, rfl, ?_⟩; conv => whnf)
        refine CallVC.of [] over_k ?_
        refine ⟨_, rfl, hs _ (List.getElem_mem _), ?_⟩
        (conv => whnf)
        refine ⟨k + 1, by omega, by omega, Weak.le ?_ ?_⟩
        · (repeat' ((conv => whnf); first | exact True.intro | (refine And.intro ?_ ?_)))
          all_goals first | rfl | (rw [wrap_i64 (by omega) (by omega)]; rfl) | exact congrArg (fun x => SV.int .u32 (u32 x)) (sum_go (by omega))
        · (repeat' ((conv => whnf); first | exact True.intro | (refine And.intro ?_ ?_)))
      · have hk' : k = parts.length := by omega
        subst hk'
        (conv => whnf)
        refine ⟨_, _, WeakV.drop (congrArg (SV.int .u32) (by rw [List.take_length, not_u32]; rfl)), h⟩
  · (conv => whnf)
    refine loop_rule (fun k : Unit => ⟨[.any, .any, .any, .int .u32 (u32 (~~~ 0)), .any, .any, .nilsl, .int .i64 0, .int .i64 0, .any, .any, .any, .any, .any, .any, .any, .any, .any], []⟩) (fun k => True) (fun k => 0) () trivial ?_ ?_
    · refine Weak.le ?_ ?_
      · (repeat' ((conv => whnf); first | exact True.intro | (refine And.intro ?_ ?_)))
        all_goals rfl
      · (repeat' ((conv => whnf); first | exact True.intro | (refine And.intro ?_ ?_)))
    · intro k hk
      (refine sx_sound Γok _ ?_; conv => whnf)
      refine Both.dec (fun hlt => absurd hlt (by omega)) (fun hge => ?_)
      (conv => whnf)
      refine ⟨_, _, WeakV.drop (congrArg (SV.int .u32) (by rw [not_u32]; rfl)), h⟩
theorem sum_k : Contract Try.prog [] 9 sumS := ⟨⟨⟨_, rfl, rfl, rfl⟩⟩, sum_c⟩
end Go.LX
