import Derived.Test.YteejbjdjfngagaaWf
set_option maxRecDepth 100000
set_option autoImplicit false
set_option linter.unusedVariables false
set_option linter.unusedSimpArgs false
namespace Go.LX
open Go.Proofs

def Call.good (c : Call) : Bool := if c.kind = 0 then decide (0 ≤ c.k ∧ c.k ≤ 255) else if c.kind = 1 then true else if c.kind = 2 then decide (c.s.length ≤ 65535) else true
def Call.full (c : Call) : List UInt8 := if c.kind = 0 then [UInt8.ofNat c.k.toNat] else if c.kind = 1 then beb c.n.toNat 8 else if c.kind = 2 then beb c.s.length 2 ++ c.s else if c.kind = 3 then c.s else []
def Call.more (c : Call) : List UInt8 := if c.good then c.full else []
def outW (l : List Call) : List UInt8 := l.flatMap Call.more
def errW (e : Int) (l : List Call) : Int := if l.all Call.good then e else errOf e
theorem more_len (c : Call) : c.more.length ≤ c.s.length + 10 := by
  unfold Call.more Call.full
  split
  · split
    · simp
    · split
      · rw [beb_length]; omega
      · split
        · rw [List.length_append, beb_length]; omega
        · split <;> simp
  · simp
theorem outW_len (l : List Call) : (outW l).length ≤ total l + 10 * l.length := by
  induction l with
  | nil => simp [outW]
  | cons c l ih =>
    have h := more_len c
    unfold outW at ih ⊢
    rw [List.flatMap_cons, List.length_append, total, List.length_cons]
    omega
theorem outW_take (l : List Call) {k : Nat} (h : k < l.length) : outW (l.take (k + 1)) = outW (l.take k) ++ l[k].more := by
  unfold outW
  rw [List.take_succ_eq_append_getElem h, List.flatMap_append]
  simp
theorem errOf_errOf (e : Int) : errOf (errOf e) = errOf e := by
  unfold errOf
  by_cases h : e = 0 <;> simp [h]
theorem errW_take (e : Int) (l : List Call) {k : Nat} (h : k < l.length) : errW e (l.take (k + 1)) = if l[k].good then errW e (l.take k) else errOf (errW e (l.take k)) := by
  unfold errW
  rw [List.take_succ_eq_append_getElem h, List.all_append]
  simp only [List.all_cons, List.all_nil, Bool.and_true]
  cases hg : l[k].good
  · simp only [Bool.and_false, Bool.false_eq_true, if_false]
    split
    · rfl
    · rw [errOf_errOf]
  · simp
theorem total_le (l : List Call) (k : Nat) : total (l.take k) ≤ total l := by
  have := total_app (l.take k) (l.drop k)
  rw [List.take_append_drop] at this
  omega
theorem total_get (l : List Call) {k : Nat} (h : k < l.length) : l[k].s.length ≤ total l := by
  have h1 := total_take l h
  have h2 := total_le l (k + 1)
  omega
def putsS : Spec := fun args H Q => match args, H with
  | [.ptr 0 0, .sl 4 n cs false], [.cells [.int .i64 e, a, .own 1] 33, .own 5 1 m xs true] => ∃ (l0 : List UInt8) (l : List Call), n = l.length ∧ cs = l.flatMap Call.en ∧ (∀ c ∈ l, c.ok) ∧ l.length ≤ 101 ∧ total l ≤ 70000 ∧ l0.length ≤ 1000000 ∧ xs = bys l0 ∧ m = l0.length ∧
    (a = .nil ∨ a = .ptr 0 1) ∧ ∀ a', (a' = .nil ∨ a' = .ptr 0 1) → Q (.tuple []) (wrN (errW e l) a' (l0 ++ outW l))
  | _, _ => False
theorem puts_c : Meets Try.prog [] 10 putsS := by
  refine meets_of Γok Try.func10 rfl ?_
  intro args H Q h
  unfold putsS at h
  split at h
  case h_2 => exact h.elim
  rename_i e a m xs
  obtain ⟨l0, l, rfl, rfl, hok, hlen, htot, hl0, rfl, rfl, ha, h⟩ := h
  obtain ⟨u0, rfl⟩ : ∃ u : Bool, a = if u then SV.ptr 0 1 else .nil := by
    rcases ha with rfl | rfl
    · exact ⟨false, rfl⟩
    · exact ⟨true, rfl⟩
  (refine sx_sound Γok _ ?_; conv => whnf)
  refine loop_rule (fun x : Nat × Bool => match x with
    | (k, u) => ⟨[.ptr 0 0, .sl 4 l.length (l.flatMap Call.en) false, .any, .any, .int .i64 (k : Int), .any, .any, .any, .any, .any, .any, .any, .any, .any, .any, .any, .any, .any, .any, .any, .any, .any, .any, .any, .any, .any, .any, .any, .any, .any, .any, .any, .any, .any, .any, .any, .any, .any, .any, .any, .any, .any, .any, .any, .any, .any, .any, .any, .any, .any, .any, .any], wrN (errW e (l.take k)) (if u then SV.ptr 0 1 else .nil) (l0 ++ outW (l.take k))⟩) (fun x => x.1 ≤ l.length) (fun x => l.length - x.1) (0, u0) (by omega) ?_ ?_
  · refine (Weak.fresh 1 0 2 rfl rfl rfl).trans (Weak.le ?_ ?_)
    · (repeat' ((conv => whnf); first | exact True.intro | (refine And.intro ?_ ?_)))
      all_goals first | rfl | done
    · (repeat' ((conv => whnf); first | exact True.intro | (refine And.intro ?_ ?_)))
      all_goals first | rfl | exact .eq rfl | (simp [outW]; done)
  · rintro ⟨k, u⟩ hk
    have hk : k ≤ l.length := hk
    cases u
    · (refine sx_sound Γok _ ?_; conv => whnf)
      refine Both.dec (fun hlt => ?_) (fun hge => ?_)
      · (conv => whnf)
        (repeat (first | (refine Both.lit_true ?_; conv => whnf) | (refine Both.lit_false ?_; conv => whnf) | (refine Need.mk (by first | omega | exact ⟨by omega, by omega⟩ | rfl | exact ⟨rfl, rfl⟩ | exact ⟨rfl, Nat.le_of_ble_eq_true rfl⟩) ?_; conv => whnf)))
        have hkl : k < l.length := by have : (k : Int) < l.length := hlt; omega
        refine Need.mk ⟨rfl, by omega, by omega⟩ ?_
        (conv => whnf)
        refine ⟨_, calls_row l k hkl, ?_⟩
        (conv => whnf)
        (refine ⟨_, rfl, ?_⟩; conv => whnf)
        have hc := hok _ (List.getElem_mem hkl)
        have hsl := total_get l hkl
        have hol := outW_len (l.take k)
        have htk := total_le l k
        have hlk : (l.take k).length ≤ 101 := by rw [List.length_take]; omega
        refine Both.dec (fun h0 => ?_) (fun h0 => ?_)
        · (conv => whnf)
          (repeat (first | (refine Both.lit_true ?_; conv => whnf) | (refine Both.lit_false ?_; conv => whnf) | (refine Need.mk (by first | omega | exact ⟨by omega, by omega⟩ | rfl | exact ⟨rfl, rfl⟩ | exact ⟨rfl, Nat.le_of_ble_eq_true rfl⟩) ?_; conv => whnf)))
          refine Need.mk ⟨rfl, by omega, by omega⟩ ?_
          (conv => whnf)
          refine ⟨_, calls_row l k hkl, ?_⟩
          (conv => whnf)
          (refine ⟨_, rfl, ?_⟩; conv => whnf)
          refine CallVC.of [0, 2] byte_k ?_
          refine ⟨_, rfl, rfl, by first | exact .inl rfl | exact .inr rfl, by rw [List.length_append]; omega, ?_⟩
          rw [show decide (0 ≤ l[k].k ∧ l[k].k ≤ 255) = l[k].good by simp [Call.good, h0]]
          cases hg : l[k].good
          · have hm : l[k].more = [] := by simp [Call.more, hg]
            (conv => whnf)
            refine ⟨(k + 1, false), (show k + 1 ≤ l.length by omega), (show l.length - (k + 1) < l.length - k by omega), Weak.to [0, 1, 3] rfl rfl rfl ?_ ?_⟩
            · (repeat' ((conv => whnf); first | exact True.intro | (refine And.intro ?_ ?_)))
              all_goals first | rfl | exact congrArg (SV.int .i64) (by rw [wrap_i64 (by omega) (by omega)]; rfl)
            · (repeat' ((conv => whnf); first | exact True.intro | (refine And.intro ?_ ?_)))
              all_goals first | rfl | exact .eq rfl | (refine .eq ?_; rw [errW_take e l hkl, hg]; rfl) | (rw [outW_take l hkl, hm, ← List.append_assoc l0]; first | rfl | (rw [List.length_append]; rfl)) | (rw [outW_take l hkl, hm, List.append_nil]; rfl)
          · have hm : l[k].more = [UInt8.ofNat l[k].k.toNat] := by simp [Call.more, hg, Call.full, h0]
            (conv => whnf)
            refine ⟨(k + 1, true), (show k + 1 ≤ l.length by omega), (show l.length - (k + 1) < l.length - k by omega), Weak.to [0, 1, 3] rfl rfl rfl ?_ ?_⟩
            · (repeat' ((conv => whnf); first | exact True.intro | (refine And.intro ?_ ?_)))
              all_goals first | rfl | exact congrArg (SV.int .i64) (by rw [wrap_i64 (by omega) (by omega)]; rfl)
            · (repeat' ((conv => whnf); first | exact True.intro | (refine And.intro ?_ ?_)))
              all_goals first | rfl | exact .eq rfl | (refine .eq ?_; rw [errW_take e l hkl, hg]; rfl) | (rw [outW_take l hkl, hm, ← List.append_assoc l0]; first | rfl | (rw [List.length_append]; rfl)) | (rw [outW_take l hkl, hm, List.append_nil]; rfl)
        (conv => whnf)
        refine Both.dec (fun h1 => ?_) (fun h1 => ?_)
        · (conv => whnf)
          (repeat (first | (refine Both.lit_true ?_; conv => whnf) | (refine Both.lit_false ?_; conv => whnf) | (refine Need.mk (by first | omega | exact ⟨by omega, by omega⟩ | rfl | exact ⟨rfl, rfl⟩ | exact ⟨rfl, Nat.le_of_ble_eq_true rfl⟩) ?_; conv => whnf)))
          refine Need.mk ⟨rfl, by omega, by omega⟩ ?_
          (conv => whnf)
          refine ⟨_, calls_row l k hkl, ?_⟩
          (conv => whnf)
          (refine ⟨_, rfl, ?_⟩; conv => whnf)
          refine CallVC.of [0, 2] num_k ?_
          refine ⟨l[k].n.toNat, rfl, l[k].n.isLt, _, rfl, rfl, by first | exact .inl rfl | exact .inr rfl, by rw [List.length_append]; omega, ?_⟩
          have hg : l[k].good = true := by simp [Call.good, h1]
          have hm : l[k].more = beb l[k].n.toNat 8 := by simp [Call.more, hg, Call.full, h1]
          (conv => whnf)
          refine ⟨(k + 1, true), (show k + 1 ≤ l.length by omega), (show l.length - (k + 1) < l.length - k by omega), Weak.to [0, 1, 3] rfl rfl rfl ?_ ?_⟩
          · (repeat' ((conv => whnf); first | exact True.intro | (refine And.intro ?_ ?_)))
            all_goals first | rfl | exact congrArg (SV.int .i64) (by rw [wrap_i64 (by omega) (by omega)]; rfl)
          · (repeat' ((conv => whnf); first | exact True.intro | (refine And.intro ?_ ?_)))
            all_goals first | rfl | exact .eq rfl | (refine .eq ?_; rw [errW_take e l hkl, hg]; rfl) | (rw [outW_take l hkl, hm, ← List.append_assoc l0]; first | rfl | (rw [List.length_append]; rfl)) | (rw [outW_take l hkl, hm, List.append_nil]; rfl)
        (conv => whnf)
        refine Both.dec (fun h2 => ?_) (fun h2 => ?_)
        · (conv => whnf)
          (repeat (first | (refine Both.lit_true ?_; conv => whnf) | (refine Both.lit_false ?_; conv => whnf) | (refine Need.mk (by first | omega | exact ⟨by omega, by omega⟩ | rfl | exact ⟨rfl, rfl⟩ | exact ⟨rfl, Nat.le_of_ble_eq_true rfl⟩) ?_; conv => whnf)))
          refine Need.mk ⟨rfl, by omega, by omega⟩ ?_
          (conv => whnf)
          refine ⟨_, calls_row l k hkl, ?_⟩
          (conv => whnf)
          (refine ⟨_, rfl, ?_⟩; conv => whnf)
          refine CallVC.of [0, 2] text_k ?_
          refine ⟨_, rfl, rfl, by first | exact .inl rfl | exact .inr rfl, by rw [List.length_append]; omega, ?_⟩
          rw [show decide (l[k].s.length ≤ 65535) = l[k].good by simp [Call.good, h2]]
          cases hg : l[k].good
          · have hm : l[k].more = [] := by simp [Call.more, hg]
            (conv => whnf)
            refine ⟨(k + 1, false), (show k + 1 ≤ l.length by omega), (show l.length - (k + 1) < l.length - k by omega), Weak.to [0, 1, 3] rfl rfl rfl ?_ ?_⟩
            · (repeat' ((conv => whnf); first | exact True.intro | (refine And.intro ?_ ?_)))
              all_goals first | rfl | exact congrArg (SV.int .i64) (by rw [wrap_i64 (by omega) (by omega)]; rfl)
            · (repeat' ((conv => whnf); first | exact True.intro | (refine And.intro ?_ ?_)))
              all_goals first | rfl | exact .eq rfl | (refine .eq ?_; rw [errW_take e l hkl, hg]; rfl) | (rw [outW_take l hkl, hm, ← List.append_assoc l0]; first | rfl | (rw [List.length_append]; rfl)) | (rw [outW_take l hkl, hm, List.append_nil]; rfl)
          · have hm : l[k].more = (beb l[k].s.length 2 ++ l[k].s) := by simp [Call.more, hg, Call.full, h2]
            (conv => whnf)
            refine ⟨(k + 1, true), (show k + 1 ≤ l.length by omega), (show l.length - (k + 1) < l.length - k by omega), Weak.to [0, 1, 3] rfl rfl rfl ?_ ?_⟩
            · (repeat' ((conv => whnf); first | exact True.intro | (refine And.intro ?_ ?_)))
              all_goals first | rfl | exact congrArg (SV.int .i64) (by rw [wrap_i64 (by omega) (by omega)]; rfl)
            · (repeat' ((conv => whnf); first | exact True.intro | (refine And.intro ?_ ?_)))
              all_goals first | rfl | exact .eq rfl | (refine .eq ?_; rw [errW_take e l hkl, hg]; rfl) | (rw [outW_take l hkl, hm, ← List.append_assoc l0]; first | rfl | (rw [List.length_append]; rfl)) | (rw [outW_take l hkl, hm, List.append_nil]; rfl)
        (conv => whnf)
        refine Both.dec (fun h3 => ?_) (fun h3 => ?_)
        · (conv => whnf)
          (repeat (first | (refine Both.lit_true ?_; conv => whnf) | (refine Both.lit_false ?_; conv => whnf) | (refine Need.mk (by first | omega | exact ⟨by omega, by omega⟩ | rfl | exact ⟨rfl, rfl⟩ | exact ⟨rfl, Nat.le_of_ble_eq_true rfl⟩) ?_; conv => whnf)))
          refine Need.mk ⟨rfl, by omega, by omega⟩ ?_
          (conv => whnf)
          refine ⟨_, calls_row l k hkl, ?_⟩
          (conv => whnf)
          (refine ⟨_, rfl, ?_⟩; conv => whnf)
          refine CallVC.of [0, 2] raw_k ?_
          refine ⟨by omega, _, rfl, rfl, by first | exact .inl rfl | exact .inr rfl, by rw [List.length_append]; omega, ?_⟩
          have hg : l[k].good = true := by simp [Call.good, h3]
          have hm : l[k].more = l[k].s := by simp [Call.more, hg, Call.full, h3]
          (conv => whnf)
          refine ⟨(k + 1, true), (show k + 1 ≤ l.length by omega), (show l.length - (k + 1) < l.length - k by omega), Weak.to [0, 1, 3] rfl rfl rfl ?_ ?_⟩
          · (repeat' ((conv => whnf); first | exact True.intro | (refine And.intro ?_ ?_)))
            all_goals first | rfl | exact congrArg (SV.int .i64) (by rw [wrap_i64 (by omega) (by omega)]; rfl)
          · (repeat' ((conv => whnf); first | exact True.intro | (refine And.intro ?_ ?_)))
            all_goals first | rfl | exact .eq rfl | (refine .eq ?_; rw [errW_take e l hkl, hg]; rfl) | (rw [outW_take l hkl, hm, ← List.append_assoc l0]; first | rfl | (rw [List.length_append]; rfl)) | (rw [outW_take l hkl, hm, List.append_nil]; rfl)
        · (conv => whnf)
          have hg : l[k].good = true := by simp [Call.good, h0, h1, h2]
          have hm : l[k].more = [] := by simp [Call.more, hg, Call.full, h0, h1, h2, h3]
          refine ⟨(k + 1, false), (show k + 1 ≤ l.length by omega), (show l.length - (k + 1) < l.length - k by omega), Weak.le ?_ ?_⟩
          · (repeat' ((conv => whnf); first | exact True.intro | (refine And.intro ?_ ?_)))
            all_goals first | rfl | exact congrArg (SV.int .i64) (by rw [wrap_i64 (by omega) (by omega)]; rfl)
          · (repeat' ((conv => whnf); first | exact True.intro | (refine And.intro ?_ ?_)))
            all_goals first | rfl | exact .eq rfl | (refine .eq ?_; rw [errW_take e l hkl, hg]; rfl) | (rw [outW_take l hkl, hm, List.append_nil])
      · (conv => whnf)
        have hkk : k = l.length := by have : ¬ (k : Int) < l.length := hge; omega
        subst hkk
        first | skip
        refine ⟨_, _, WeakV.refl _ _ _ _, ?_⟩
        rw [List.take_length]
        first | exact h _ (.inl rfl) | exact h _ (.inr rfl)
    · (refine sx_sound Γok _ ?_; conv => whnf)
      refine Both.dec (fun hlt => ?_) (fun hge => ?_)
      · (conv => whnf)
        (repeat (first | (refine Both.lit_true ?_; conv => whnf) | (refine Both.lit_false ?_; conv => whnf) | (refine Need.mk (by first | omega | exact ⟨by omega, by omega⟩ | rfl | exact ⟨rfl, rfl⟩ | exact ⟨rfl, Nat.le_of_ble_eq_true rfl⟩) ?_; conv => whnf)))
        have hkl : k < l.length := by have : (k : Int) < l.length := hlt; omega
        refine Need.mk ⟨rfl, by omega, by omega⟩ ?_
        (conv => whnf)
        refine ⟨_, calls_row l k hkl, ?_⟩
        (conv => whnf)
        (refine ⟨_, rfl, ?_⟩; conv => whnf)
        have hc := hok _ (List.getElem_mem hkl)
        have hsl := total_get l hkl
        have hol := outW_len (l.take k)
        have htk := total_le l k
        have hlk : (l.take k).length ≤ 101 := by rw [List.length_take]; omega
        refine Both.dec (fun h0 => ?_) (fun h0 => ?_)
        · (conv => whnf)
          (repeat (first | (refine Both.lit_true ?_; conv => whnf) | (refine Both.lit_false ?_; conv => whnf) | (refine Need.mk (by first | omega | exact ⟨by omega, by omega⟩ | rfl | exact ⟨rfl, rfl⟩ | exact ⟨rfl, Nat.le_of_ble_eq_true rfl⟩) ?_; conv => whnf)))
          refine Need.mk ⟨rfl, by omega, by omega⟩ ?_
          (conv => whnf)
          refine ⟨_, calls_row l k hkl, ?_⟩
          (conv => whnf)
          (refine ⟨_, rfl, ?_⟩; conv => whnf)
          refine CallVC.of [0, 2] byte_k ?_
          refine ⟨_, rfl, rfl, by first | exact .inl rfl | exact .inr rfl, by rw [List.length_append]; omega, ?_⟩
          rw [show decide (0 ≤ l[k].k ∧ l[k].k ≤ 255) = l[k].good by simp [Call.good, h0]]
          cases hg : l[k].good
          · have hm : l[k].more = [] := by simp [Call.more, hg]
            (conv => whnf)
            refine ⟨(k + 1, true), (show k + 1 ≤ l.length by omega), (show l.length - (k + 1) < l.length - k by omega), Weak.to [0, 1, 3] rfl rfl rfl ?_ ?_⟩
            · (repeat' ((conv => whnf); first | exact True.intro | (refine And.intro ?_ ?_)))
              all_goals first | rfl | exact congrArg (SV.int .i64) (by rw [wrap_i64 (by omega) (by omega)]; rfl)
            · (repeat' ((conv => whnf); first | exact True.intro | (refine And.intro ?_ ?_)))
              all_goals first | rfl | exact .eq rfl | (refine .eq ?_; rw [errW_take e l hkl, hg]; rfl) | (rw [outW_take l hkl, hm, ← List.append_assoc l0]; first | rfl | (rw [List.length_append]; rfl)) | (rw [outW_take l hkl, hm, List.append_nil]; rfl)
          · have hm : l[k].more = [UInt8.ofNat l[k].k.toNat] := by simp [Call.more, hg, Call.full, h0]
            (conv => whnf)
            refine ⟨(k + 1, true), (show k + 1 ≤ l.length by omega), (show l.length - (k + 1) < l.length - k by omega), Weak.to [0, 1, 3] rfl rfl rfl ?_ ?_⟩
            · (repeat' ((conv => whnf); first | exact True.intro | (refine And.intro ?_ ?_)))
              all_goals first | rfl | exact congrArg (SV.int .i64) (by rw [wrap_i64 (by omega) (by omega)]; rfl)
            · (repeat' ((conv => whnf); first | exact True.intro | (refine And.intro ?_ ?_)))
              all_goals first | rfl | exact .eq rfl | (refine .eq ?_; rw [errW_take e l hkl, hg]; rfl) | (rw [outW_take l hkl, hm, ← List.append_assoc l0]; first | rfl | (rw [List.length_append]; rfl)) | (rw [outW_take l hkl, hm, List.append_nil]; rfl)
        (conv => whnf)
        refine Both.dec (fun h1 => ?_) (fun h1 => ?_)
        · (conv => whnf)
          (repeat (first | (refine Both.lit_true ?_; conv => whnf) | (refine Both.lit_false ?_; conv => whnf) | (refine Need.mk (by first | omega | exact ⟨by omega, by omega⟩ | rfl | exact ⟨rfl, rfl⟩ | exact ⟨rfl, Nat.le_of_ble_eq_true rfl⟩) ?_; conv => whnf)))
          refine Need.mk ⟨rfl, by omega, by omega⟩ ?_
          (conv => whnf)
          refine ⟨_, calls_row l k hkl, ?_⟩
          (conv => whnf)
          (refine ⟨_, rfl, ?_⟩; conv => whnf)
          refine CallVC.of [0, 2] num_k ?_
          refine ⟨l[k].n.toNat, rfl, l[k].n.isLt, _, rfl, rfl, by first | exact .inl rfl | exact .inr rfl, by rw [List.length_append]; omega, ?_⟩
          have hg : l[k].good = true := by simp [Call.good, h1]
          have hm : l[k].more = beb l[k].n.toNat 8 := by simp [Call.more, hg, Call.full, h1]
          (conv => whnf)
          refine ⟨(k + 1, true), (show k + 1 ≤ l.length by omega), (show l.length - (k + 1) < l.length - k by omega), Weak.to [0, 1, 3] rfl rfl rfl ?_ ?_⟩
          · (repeat' ((conv => whnf); first | exact True.intro | (refine And.intro ?_ ?_)))
            all_goals first | rfl | exact congrArg (SV.int .i64) (by rw [wrap_i64 (by omega) (by omega)]; rfl)
          · (repeat' ((conv => whnf); first | exact True.intro | (refine And.intro ?_ ?_)))
            all_goals first | rfl | exact .eq rfl | (refine .eq ?_; rw [errW_take e l hkl, hg]; rfl) | (rw [outW_take l hkl, hm, ← List.append_assoc l0]; first | rfl | (rw [List.length_append]; rfl)) | (rw [outW_take l hkl, hm, List.append_nil]; rfl)
        (conv => whnf)
        refine Both.dec (fun h2 => ?_) (fun h2 => ?_)
        · (conv => whnf)
          (repeat (first | (refine Both.lit_true ?_; conv => whnf) | (refine Both.lit_false ?_; conv => whnf) | (refine Need.mk (by first | omega | exact ⟨by omega, by omega⟩ | rfl | exact ⟨rfl, rfl⟩ | exact ⟨rfl, Nat.le_of_ble_eq_true rfl⟩) ?_; conv => whnf)))
          refine Need.mk ⟨rfl, by omega, by omega⟩ ?_
          (conv => whnf)
          refine ⟨_, calls_row l k hkl, ?_⟩
          (conv => whnf)
          (refine ⟨_, rfl, ?_⟩; conv => whnf)
          refine CallVC.of [0, 2] text_k ?_
          refine ⟨_, rfl, rfl, by first | exact .inl rfl | exact .inr rfl, by rw [List.length_append]; omega, ?_⟩
          rw [show decide (l[k].s.length ≤ 65535) = l[k].good by simp [Call.good, h2]]
          cases hg : l[k].good
          · have hm : l[k].more = [] := by simp [Call.more, hg]
            (conv => whnf)
            refine ⟨(k + 1, true), (show k + 1 ≤ l.length by omega), (show l.length - (k + 1) < l.length - k by omega), Weak.to [0, 1, 3] rfl rfl rfl ?_ ?_⟩
            · (repeat' ((conv => whnf); first | exact True.intro | (refine And.intro ?_ ?_)))
              all_goals first | rfl | exact congrArg (SV.int .i64) (by rw [wrap_i64 (by omega) (by omega)]; rfl)
            · (repeat' ((conv => whnf); first | exact True.intro | (refine And.intro ?_ ?_)))
              all_goals first | rfl | exact .eq rfl | (refine .eq ?_; rw [errW_take e l hkl, hg]; rfl) | (rw [outW_take l hkl, hm, ← List.append_assoc l0]; first | rfl | (rw [List.length_append]; rfl)) | (rw [outW_take l hkl, hm, List.append_nil]; rfl)
          · have hm : l[k].more = (beb l[k].s.length 2 ++ l[k].s) := by simp [Call.more, hg, Call.full, h2]
            (conv => whnf)
            refine ⟨(k + 1, true), (show k + 1 ≤ l.length by omega), (show l.length - (k + 1) < l.length - k by omega), Weak.to [0, 1, 3] rfl rfl rfl ?_ ?_⟩
            · (repeat' ((conv => whnf); first | exact True.intro | (refine And.intro ?_ ?_)))
              all_goals first | rfl | exact congrArg (SV.int .i64) (by rw [wrap_i64 (by omega) (by omega)]; rfl)
            · (repeat' ((conv => whnf); first | exact True.intro | (refine And.intro ?_ ?_)))
              all_goals first | rfl | exact .eq rfl | (refine .eq ?_; rw [errW_take e l hkl, hg]; rfl) | (rw [outW_take l hkl, hm, ← List.append_assoc l0]; first | rfl | (rw [List.length_append]; rfl)) | (rw [outW_take l hkl, hm, List.append_nil]; rfl)
        (conv => whnf)
        refine Both.dec (fun h3 => ?_) (fun h3 => ?_)
        · (conv => whnf)
          (repeat (first | (refine Both.lit_true ?_; conv => whnf) | (refine Both.lit_false ?_; conv => whnf) | (refine Need.mk (by first | omega | exact ⟨by omega, by omega⟩ | rfl | exact ⟨rfl, rfl⟩ | exact ⟨rfl, Nat.le_of_ble_eq_true rfl⟩) ?_; conv => whnf)))
          refine Need.mk ⟨rfl, by omega, by omega⟩ ?_
          (conv => whnf)
          refine ⟨_, calls_row l k hkl, ?_⟩
          (conv => whnf)
          (refine ⟨_, rfl, ?_⟩; conv => whnf)
          refine CallVC.of [0, 2] raw_k ?_
          refine ⟨by omega, _, rfl, rfl, by first | exact .inl rfl | exact .inr rfl, by rw [List.length_append]; omega, ?_⟩
          have hg : l[k].good = true := by simp [Call.good, h3]
          have hm : l[k].more = l[k].s := by simp [Call.more, hg, Call.full, h3]
          (conv => whnf)
          refine ⟨(k + 1, true), (show k + 1 ≤ l.length by omega), (show l.length - (k + 1) < l.length - k by omega), Weak.to [0, 1, 3] rfl rfl rfl ?_ ?_⟩
          · (repeat' ((conv => whnf); first | exact True.intro | (refine And.intro ?_ ?_)))
            all_goals first | rfl | exact congrArg (SV.int .i64) (by rw [wrap_i64 (by omega) (by omega)]; rfl)
          · (repeat' ((conv => whnf); first | exact True.intro | (refine And.intro ?_ ?_)))
            all_goals first | rfl | exact .eq rfl | (refine .eq ?_; rw [errW_take e l hkl, hg]; rfl) | (rw [outW_take l hkl, hm, ← List.append_assoc l0]; first | rfl | (rw [List.length_append]; rfl)) | (rw [outW_take l hkl, hm, List.append_nil]; rfl)
        · (conv => whnf)
          have hg : l[k].good = true := by simp [Call.good, h0, h1, h2]
          have hm : l[k].more = [] := by simp [Call.more, hg, Call.full, h0, h1, h2, h3]
          refine ⟨(k + 1, true), (show k + 1 ≤ l.length by omega), (show l.length - (k + 1) < l.length - k by omega), Weak.le ?_ ?_⟩
          · (repeat' ((conv => whnf); first | exact True.intro | (refine And.intro ?_ ?_)))
            all_goals first | rfl | exact congrArg (SV.int .i64) (by rw [wrap_i64 (by omega) (by omega)]; rfl)
          · (repeat' ((conv => whnf); first | exact True.intro | (refine And.intro ?_ ?_)))
            all_goals first | rfl | exact .eq rfl | (refine .eq ?_; rw [errW_take e l hkl, hg]; rfl) | (rw [outW_take l hkl, hm, List.append_nil])
      · (conv => whnf)
        have hkk : k = l.length := by have : ¬ (k : Int) < l.length := hge; omega
        subst hkk
        first | skip
        refine ⟨_, _, WeakV.refl _ _ _ _, ?_⟩
        rw [List.take_length]
        first | exact h _ (.inl rfl) | exact h _ (.inr rfl)
theorem puts_k : Contract Try.prog [] 10 putsS := ⟨⟨⟨_, rfl, rfl, rfl⟩⟩, puts_c⟩
end Go.LX
