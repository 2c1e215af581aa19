import Derived.Test.YteejbjdjfngagaaWi
set_option maxRecDepth 100000
set_option autoImplicit false
set_option linter.unusedVariables false
set_option linter.unusedSimpArgs false
namespace Go.LX
open Go.Proofs

theorem errW_two (l : List Call) : errW 0 l = 0 ∨ errW 0 l = 1 := by
  unfold errW
  split
  · exact .inl rfl
  · exact .inr rfl
def refWS : Spec := fun args H Q => match args, H with
  | [.sl 4 n cs false], [] => ∃ l : List Call, n = l.length ∧ cs = l.flatMap Call.en ∧ (∀ c ∈ l, c.ok) ∧ l.length ≤ 101 ∧ total l ≤ 70000 ∧ Q (.tuple [.str (if errW 0 l = 0 then outW l else []), .int .i64 (errW 0 l)]) []
  | _, _ => False
theorem refW_c : Meets Try.prog [] 12 refWS := by
  refine meets_of Γok Try.func12 rfl ?_
  intro args H Q h
  unfold refWS at h
  split at h
  case h_2 => exact h.elim
  obtain ⟨l, rfl, rfl, hok, hlen, htot, h⟩ := h
  (refine sx_sound Γok _ ?_; conv => whnf)
  refine loop_rule (fun k : Nat => ⟨[.sl 4 l.length (l.flatMap Call.en) false, .any, .any, .any, .str (outW (l.take k)), .int .i64 (errW 0 (l.take k)), .int .i64 (k : Int), .any, .any, .any, .any, .any, .any, .any, .any, .any, .any, .any, .any, .any, .any, .any, .any, .any, .any, .any, .any, .any, .any, .any, .any, .any, .any, .any, .any, .any, .any, .any, .any, .any, .any, .any, .any, .any, .any, .any, .any, .any, .any, .any, .any, .any, .any, .any, .any, .any, .any, .any, .any, .any, .any, .any, .any, .any, .any, .any, .any, .any, .any], []⟩) (fun k => k ≤ l.length) (fun k => l.length - k) 0 (by omega) ?_ ?_
  · refine Weak.le ?_ ?_
    · (repeat' ((conv => whnf); first | exact True.intro | (refine And.intro ?_ ?_)))
      all_goals first | rfl | done
    · (repeat' ((conv => whnf); first | exact True.intro | (refine And.intro ?_ ?_)))
  · intro k hk
    (refine sx_sound Γok _ ?_; conv => whnf)
    refine Both.dec (fun hlt => ?_) (fun hge => ?_)
    · (conv => whnf)
      (repeat (first | (refine Both.lit_true ?_; conv => whnf) | (refine Both.lit_false ?_; conv => whnf) | (refine Need.mk (by first | omega | exact ⟨by omega, by omega⟩ | rfl | exact ⟨rfl, rfl⟩ | exact ⟨rfl, Nat.le_of_ble_eq_true rfl⟩) ?_; conv => whnf)))
      have hkl : k < l.length := by omega
      refine Need.mk ⟨rfl, by omega, by omega⟩ ?_
      (conv => whnf)
      refine ⟨_, calls_row l k hkl, ?_⟩
      (conv => whnf)
      (repeat (first | (refine Both.lit_true ?_; conv => whnf) | (refine Both.lit_false ?_; conv => whnf) | (refine Need.mk (by first | omega | exact ⟨by omega, by omega⟩ | rfl | exact ⟨rfl, rfl⟩ | exact ⟨rfl, Nat.le_of_ble_eq_true rfl⟩) ?_; conv => whnf)))
      have hol := outW_len (l.take k)
      have htk := total_le l k
      have hsl := total_get l hkl
      have hlk : (l.take k).length ≤ 101 := by rw [List.length_take]; omega
      refine Need.mk ⟨rfl, rfl, by simp [isFar, CV.up]⟩ ?_
      (conv => whnf)
      (refine ⟨_, rfl, ?_⟩; conv => whnf)
      refine Both.dec (fun h0 => ?_) (fun h0 => ?_)
      · (conv => whnf)
        (repeat (first | (refine Both.lit_true ?_; conv => whnf) | (refine Both.lit_false ?_; conv => whnf) | (refine Need.mk (by first | omega | exact ⟨by omega, by omega⟩ | rfl | exact ⟨rfl, rfl⟩ | exact ⟨rfl, Nat.le_of_ble_eq_true rfl⟩) ?_; conv => whnf)))
        (refine ⟨_, rfl, ?_⟩; conv => whnf)
        refine Both.dec (fun hn => ?_) (fun hn => ?_)
        · (conv => whnf)
          (repeat (first | (refine Both.lit_true ?_; conv => whnf) | (refine Both.lit_false ?_; conv => whnf) | (refine Need.mk (by first | omega | exact ⟨by omega, by omega⟩ | rfl | exact ⟨rfl, rfl⟩ | exact ⟨rfl, Nat.le_of_ble_eq_true rfl⟩) ?_; conv => whnf)))
          (conv => whnf)
          (repeat (first | (refine Both.lit_true ?_; conv => whnf) | (refine Both.lit_false ?_; conv => whnf) | (refine Need.mk (by first | omega | exact ⟨by omega, by omega⟩ | rfl | exact ⟨rfl, rfl⟩ | exact ⟨rfl, Nat.le_of_ble_eq_true rfl⟩) ?_; conv => whnf)))
          have hg : l[k].good = false := by simp [Call.good, h0]; omega
          have hm : l[k].more = [] := by simp [Call.more, hg]
          have he : errOf (errW 0 (l.take k)) = 1 := by rcases errW_two (l.take k) with he | he <;> rw [he] <;> rfl
          refine ⟨k + 1, by omega, by omega, Weak.to [] rfl rfl rfl ?_ trivial⟩
          (repeat' ((conv => whnf); first | exact True.intro | (refine And.intro ?_ ?_)))
          all_goals first | rfl | exact congrArg (SV.int .i64) (by rw [wrap_i64 (by omega) (by omega)]; rfl) | exact congrArg (SV.int .i64) (by rw [errW_take 0 l hkl, hg]; exact he.symm) | exact congrArg SV.str (by simp only [outW_take l hkl, hm, List.append_nil, List.append_assoc])
        (conv => whnf)
        (repeat (first | (refine Both.lit_true ?_; conv => whnf) | (refine Both.lit_false ?_; conv => whnf) | (refine Need.mk (by first | omega | exact ⟨by omega, by omega⟩ | rfl | exact ⟨rfl, rfl⟩ | exact ⟨rfl, Nat.le_of_ble_eq_true rfl⟩) ?_; conv => whnf)))
        (refine ⟨_, rfl, ?_⟩; conv => whnf)
        (repeat (first | (refine Both.lit_true ?_; conv => whnf) | (refine Both.lit_false ?_; conv => whnf) | (refine Need.mk (by first | omega | exact ⟨by omega, by omega⟩ | rfl | exact ⟨rfl, rfl⟩ | exact ⟨rfl, Nat.le_of_ble_eq_true rfl⟩) ?_; conv => whnf)))
        refine Both.dec (fun hn2 => ?_) (fun hn2 => ?_)
        · (conv => whnf)
          (repeat (first | (refine Both.lit_true ?_; conv => whnf) | (refine Both.lit_false ?_; conv => whnf) | (refine Need.mk (by first | omega | exact ⟨by omega, by omega⟩ | rfl | exact ⟨rfl, rfl⟩ | exact ⟨rfl, Nat.le_of_ble_eq_true rfl⟩) ?_; conv => whnf)))
          have hg : l[k].good = false := by simp [Call.good, h0]; omega
          have hm : l[k].more = [] := by simp [Call.more, hg]
          have he : errOf (errW 0 (l.take k)) = 1 := by rcases errW_two (l.take k) with he | he <;> rw [he] <;> rfl
          refine ⟨k + 1, by omega, by omega, Weak.to [] rfl rfl rfl ?_ trivial⟩
          (repeat' ((conv => whnf); first | exact True.intro | (refine And.intro ?_ ?_)))
          all_goals first | rfl | exact congrArg (SV.int .i64) (by rw [wrap_i64 (by omega) (by omega)]; rfl) | exact congrArg (SV.int .i64) (by rw [errW_take 0 l hkl, hg]; exact he.symm) | exact congrArg SV.str (by simp only [outW_take l hkl, hm, List.append_nil, List.append_assoc])
        (conv => whnf)
        (repeat (first | (refine Both.lit_true ?_; conv => whnf) | (refine Both.lit_false ?_; conv => whnf) | (refine Need.mk (by first | omega | exact ⟨by omega, by omega⟩ | rfl | exact ⟨rfl, rfl⟩ | exact ⟨rfl, Nat.le_of_ble_eq_true rfl⟩) ?_; conv => whnf)))
        (refine ⟨_, rfl, ?_⟩; conv => whnf)
        rw [wrap_u64 (by omega) (by omega)]
        refine CallVC.of [] rb_k ⟨l[k].k.toNat, 1, by omega, by omega, rfl, by omega, ?_⟩
        (conv => whnf)
        refine Need.mk (by rw [beb_length]; omega) ?_
        (conv => whnf)
        (repeat (first | (refine Both.lit_true ?_; conv => whnf) | (refine Both.lit_false ?_; conv => whnf) | (refine Need.mk (by first | omega | exact ⟨by omega, by omega⟩ | rfl | exact ⟨rfl, rfl⟩ | exact ⟨rfl, Nat.le_of_ble_eq_true rfl⟩) ?_; conv => whnf)))
        have hg : l[k].good = true := by simp [Call.good, h0]; omega
        have hm : l[k].more = beb l[k].k.toNat 1 := by simp [Call.more, hg, Call.full, h0, beb]
        refine ⟨k + 1, by omega, by omega, Weak.to [] rfl rfl rfl ?_ trivial⟩
        (repeat' ((conv => whnf); first | exact True.intro | (refine And.intro ?_ ?_)))
        all_goals first | rfl | exact congrArg (SV.int .i64) (by rw [wrap_i64 (by omega) (by omega)]; rfl) | exact congrArg (SV.int .i64) (by rw [errW_take 0 l hkl, hg]; rfl) | exact congrArg SV.str (by simp only [outW_take l hkl, hm, List.append_nil, List.append_assoc])
      (conv => whnf)
      refine Both.dec (fun h1 => ?_) (fun h1 => ?_)
      · (conv => whnf)
        (refine ⟨_, rfl, ?_⟩; conv => whnf)
        refine CallVC.of [] rb_k ⟨l[k].n.toNat, 8, rfl, l[k].n.isLt, rfl, by omega, ?_⟩
        (conv => whnf)
        refine Need.mk (by rw [beb_length]; omega) ?_
        (conv => whnf)
        (repeat (first | (refine Both.lit_true ?_; conv => whnf) | (refine Both.lit_false ?_; conv => whnf) | (refine Need.mk (by first | omega | exact ⟨by omega, by omega⟩ | rfl | exact ⟨rfl, rfl⟩ | exact ⟨rfl, Nat.le_of_ble_eq_true rfl⟩) ?_; conv => whnf)))
        have hg : l[k].good = true := by simp [Call.good, h1]
        have hm : l[k].more = beb l[k].n.toNat 8 := by simp [Call.more, hg, Call.full, h1]
        refine ⟨k + 1, by omega, by omega, Weak.to [] rfl rfl rfl ?_ trivial⟩
        (repeat' ((conv => whnf); first | exact True.intro | (refine And.intro ?_ ?_)))
        all_goals first | rfl | exact congrArg (SV.int .i64) (by rw [wrap_i64 (by omega) (by omega)]; rfl) | exact congrArg (SV.int .i64) (by rw [errW_take 0 l hkl, hg]; rfl) | exact congrArg SV.str (by simp only [outW_take l hkl, hm, List.append_nil, List.append_assoc])
      (conv => whnf)
      refine Both.dec (fun h2 => ?_) (fun h2 => ?_)
      · (conv => whnf)
        (refine ⟨_, rfl, ?_⟩; conv => whnf)
        refine Both.dec (fun hn => ?_) (fun hn => ?_)
        · (conv => whnf)
          (repeat (first | (refine Both.lit_true ?_; conv => whnf) | (refine Both.lit_false ?_; conv => whnf) | (refine Need.mk (by first | omega | exact ⟨by omega, by omega⟩ | rfl | exact ⟨rfl, rfl⟩ | exact ⟨rfl, Nat.le_of_ble_eq_true rfl⟩) ?_; conv => whnf)))
          have hg : l[k].good = false := by simp [Call.good, h2]; omega
          have hm : l[k].more = [] := by simp [Call.more, hg]
          have he : errOf (errW 0 (l.take k)) = 1 := by rcases errW_two (l.take k) with he | he <;> rw [he] <;> rfl
          refine ⟨k + 1, by omega, by omega, Weak.to [] rfl rfl rfl ?_ trivial⟩
          (repeat' ((conv => whnf); first | exact True.intro | (refine And.intro ?_ ?_)))
          all_goals first | rfl | exact congrArg (SV.int .i64) (by rw [wrap_i64 (by omega) (by omega)]; rfl) | exact congrArg (SV.int .i64) (by rw [errW_take 0 l hkl, hg]; exact he.symm) | exact congrArg SV.str (by simp only [outW_take l hkl, hm, List.append_nil, List.append_assoc])
        (conv => whnf)
        refine DrawVC.all Γok (by kernel_rfl) (by kernel_rfl) ?_
        (conv => whnf)
        (repeat (first | (exact Out.same; conv => whnf) | (refine Both.lit_true ?_; conv => whnf) | (refine Both.lit_false ?_; conv => whnf) | (apply QStep.go; conv => whnf) | (refine Need.mk (by first | omega | exact ⟨by omega, by omega⟩ | rfl | exact ⟨rfl, rfl⟩ | exact ⟨rfl, Nat.le_of_ble_eq_true rfl⟩) ?_; conv => whnf)))
        (refine ⟨_, rfl, ?_⟩; conv => whnf)
        (repeat (first | (exact Out.same; conv => whnf) | (refine Both.lit_true ?_; conv => whnf) | (refine Both.lit_false ?_; conv => whnf) | (apply QStep.go; conv => whnf) | (refine Need.mk (by first | omega | exact ⟨by omega, by omega⟩ | rfl | exact ⟨rfl, rfl⟩ | exact ⟨rfl, Nat.le_of_ble_eq_true rfl⟩) ?_; conv => whnf)))
        rw [wrap_u64 (by omega) (by omega)]
        (repeat (first | (exact Out.same; conv => whnf) | (refine Both.lit_true ?_; conv => whnf) | (refine Both.lit_false ?_; conv => whnf) | (apply QStep.go; conv => whnf) | (refine Need.mk (by first | omega | exact ⟨by omega, by omega⟩ | rfl | exact ⟨rfl, rfl⟩ | exact ⟨rfl, Nat.le_of_ble_eq_true rfl⟩) ?_; conv => whnf)))
        refine CallVC.of [] rb_k ⟨l[k].s.length, 2, rfl, by omega, rfl, by omega, ?_⟩
        (conv => whnf)
        (repeat (first | (exact Out.same; conv => whnf) | (refine Both.lit_true ?_; conv => whnf) | (refine Both.lit_false ?_; conv => whnf) | (apply QStep.go; conv => whnf) | (refine Need.mk (by first | omega | exact ⟨by omega, by omega⟩ | rfl | exact ⟨rfl, rfl⟩ | exact ⟨rfl, Nat.le_of_ble_eq_true rfl⟩) ?_; conv => whnf)))
        refine Need.mk (by rw [beb_length]; omega) ?_
        (conv => whnf)
        (repeat (first | (exact Out.same; conv => whnf) | (refine Both.lit_true ?_; conv => whnf) | (refine Both.lit_false ?_; conv => whnf) | (apply QStep.go; conv => whnf) | (refine Need.mk (by first | omega | exact ⟨by omega, by omega⟩ | rfl | exact ⟨rfl, rfl⟩ | exact ⟨rfl, Nat.le_of_ble_eq_true rfl⟩) ?_; conv => whnf)))
        (refine ⟨_, rfl, ?_⟩; conv => whnf)
        (repeat (first | (exact Out.same; conv => whnf) | (refine Both.lit_true ?_; conv => whnf) | (refine Both.lit_false ?_; conv => whnf) | (apply QStep.go; conv => whnf) | (refine Need.mk (by first | omega | exact ⟨by omega, by omega⟩ | rfl | exact ⟨rfl, rfl⟩ | exact ⟨rfl, Nat.le_of_ble_eq_true rfl⟩) ?_; conv => whnf)))
        refine Need.mk (by rw [List.length_append, beb_length]; omega) ?_
        (conv => whnf)
        (repeat (first | (exact Out.same; conv => whnf) | (refine Both.lit_true ?_; conv => whnf) | (refine Both.lit_false ?_; conv => whnf) | (apply QStep.go; conv => whnf) | (refine Need.mk (by first | omega | exact ⟨by omega, by omega⟩ | rfl | exact ⟨rfl, rfl⟩ | exact ⟨rfl, Nat.le_of_ble_eq_true rfl⟩) ?_; conv => whnf)))
        have hg : l[k].good = true := by simp [Call.good, h2]; omega
        have hm : l[k].more = beb l[k].s.length 2 ++ l[k].s := by simp [Call.more, hg, Call.full, h2]
        refine ⟨k + 1, by omega, by omega, Weak.to [] rfl rfl rfl ?_ trivial⟩
        (repeat' ((conv => whnf); first | exact True.intro | (refine And.intro ?_ ?_)))
        all_goals first | rfl | exact congrArg (SV.int .i64) (by rw [wrap_i64 (by omega) (by omega)]; rfl) | exact congrArg (SV.int .i64) (by rw [errW_take 0 l hkl, hg]; rfl) | exact congrArg SV.str (by simp only [outW_take l hkl, hm, List.append_nil, List.append_assoc])
      (conv => whnf)
      refine Both.dec (fun h3 => ?_) (fun h3 => ?_)
      · (conv => whnf)
        (refine ⟨_, rfl, ?_⟩; conv => whnf)
        (repeat (first | (refine Both.lit_true ?_; conv => whnf) | (refine Both.lit_false ?_; conv => whnf) | (refine Need.mk (by first | omega | exact ⟨by omega, by omega⟩ | rfl | exact ⟨rfl, rfl⟩ | exact ⟨rfl, Nat.le_of_ble_eq_true rfl⟩) ?_; conv => whnf)))
        have hg : l[k].good = true := by simp [Call.good, h3]
        have hm : l[k].more = l[k].s := by simp [Call.more, hg, Call.full, h3]
        refine ⟨k + 1, by omega, by omega, Weak.to [] rfl rfl rfl ?_ trivial⟩
        (repeat' ((conv => whnf); first | exact True.intro | (refine And.intro ?_ ?_)))
        all_goals first | rfl | exact congrArg (SV.int .i64) (by rw [wrap_i64 (by omega) (by omega)]; rfl) | exact congrArg (SV.int .i64) (by rw [errW_take 0 l hkl, hg]; rfl) | exact congrArg SV.str (by simp only [outW_take l hkl, hm, List.append_nil, List.append_assoc])
      · (conv => whnf)
        (repeat (first | (refine Both.lit_true ?_; conv => whnf) | (refine Both.lit_false ?_; conv => whnf) | (refine Need.mk (by first | omega | exact ⟨by omega, by omega⟩ | rfl | exact ⟨rfl, rfl⟩ | exact ⟨rfl, Nat.le_of_ble_eq_true rfl⟩) ?_; conv => whnf)))
        have hg : l[k].good = true := by simp [Call.good, h0, h1, h2]
        have hm : l[k].more = [] := by simp [Call.more, hg, Call.full, h0, h1, h2, h3]
        refine ⟨k + 1, by omega, by omega, Weak.to [] rfl rfl rfl ?_ trivial⟩
        (repeat' ((conv => whnf); first | exact True.intro | (refine And.intro ?_ ?_)))
        all_goals first | rfl | exact congrArg (SV.int .i64) (by rw [wrap_i64 (by omega) (by omega)]; rfl) | exact congrArg (SV.int .i64) (by rw [errW_take 0 l hkl, hg]; rfl) | exact congrArg SV.str (by simp only [outW_take l hkl, hm, List.append_nil, List.append_assoc])
    · obtain rfl : k = l.length := by omega
      rw [List.take_length]
      (conv => whnf)
      refine Both.dec_not (fun he => ?_) (fun he => ?_)
      · (conv => whnf)
        rw [if_neg he] at h
        exact ⟨_, _, WeakV.drop rfl, h⟩
      · (conv => whnf)
        rw [he, if_pos rfl] at h
        exact ⟨_, _, WeakV.drop rfl, h⟩
theorem refW_k : Contract Try.prog [] 12 refWS := ⟨⟨⟨_, rfl, rfl, rfl⟩⟩, refW_c⟩
end Go.LX
