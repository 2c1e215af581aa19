import Derived.Test.YteejbjdjfngagaaWu
set_option maxRecDepth 100000
set_option maxHeartbeats 4000000
set_option autoImplicit false
set_option linter.unusedVariables false
set_option linter.unusedSimpArgs false
namespace Go.LX
open Go.Proofs

def lawCIS : Spec := fun args H Q => match args, H with
  | [.sl 4 n cs false, .int .i64 cut], [] => ∃ l : List Call, n = l.length ∧ cs = l.flatMap Call.en ∧ (∀ c ∈ l, c.ok) ∧ l.length ≤ 9223372036854775807 ∧ Q (.bool true) []
  | _, _ => False
theorem outW_drop (l : List Call) {k : Nat} (h : k < l.length) : outW (l.drop k) = l[k].more ++ outW (l.drop (k + 1)) := by
  unfold outW
  rw [List.drop_eq_getElem_cons h, List.flatMap_cons]
theorem errW_zero {l : List Call} (h : errW 0 l = 0) : ∀ c ∈ l, c.good = true := by
  unfold errW at h
  split at h
  · rename_i h1; simpa using h1
  · cases h
/-- Where a reader stands behind k calls. -/
def BackI (l : List Call) (m k : Nat) (e : Int) (t : List UInt8) : Prop :=
  k ≤ l.length ∧ t.length < 1000000 ∧ ((e = 0 ∧ ∃ p : Nat, p ≤ m ∧ p + (outW (l.drop k)).length = (outW l).length ∧ t = (outW (l.drop k)).take (m - p)) ∨ (e = 6 ∧ m < (outW l).length))
theorem back_step {l : List Call} {m k : Nat} {e : Int} {t : List UInt8} (hI : BackI l m k e t) (hk : k < l.length) (hg : ∀ c ∈ l, c.good = true) (hs : ∀ c ∈ l, c.s.length < 1000000)
    (h4 : l[k].kind = 0 ∨ l[k].kind = 1 ∨ l[k].kind = 2 ∨ l[k].kind = 3) :
    BackI l m (k + 1) (doE l[k].rd e t) (doS l[k].rd e t) ∧ (doE l[k].rd e t = 0 → (l[k].kind = 0 → (doV l[k].rd e t : Int) = l[k].k) ∧ (l[k].kind = 1 → (doV l[k].rd e t : Int) = u64 l[k].n) ∧ (l[k].kind = 2 ∨ l[k].kind = 3 → doT l[k].rd e t = l[k].s)) := by
  obtain ⟨h1, h2, h3⟩ := hI
  have hlen : (doS l[k].rd e t).length ≤ t.length := by
    unfold doS
    split
    · exact rdS_len _ _ _
    · split
      · exact rdS_len _ _ _
      · split
        · exact Nat.le_trans (rdS_len _ _ _) (rdS_len _ _ _)
        · split
          · exact rdS_len _ _ _
          · exact Nat.le_refl _
  rcases h3 with ⟨rfl, p, hp, hpl, ht⟩ | ⟨rfl, hm⟩
  · rw [outW_drop l hk, List.length_append] at hpl
    rw [outW_drop l hk] at ht
    subst ht
    rcases call_back l[k] (hg _ (List.getElem_mem hk)) h4 (hs _ (List.getElem_mem hk)) (outW (l.drop (k + 1))) (m - p) with ⟨g1, g2, g3, g4⟩ | ⟨g1, g2⟩
    · refine ⟨⟨hk, by omega, .inl ⟨g2, p + l[k].more.length, by omega, by omega, ?_⟩⟩, fun _ => g4⟩
      rw [g3]
      congr 1
      omega
    · refine ⟨⟨hk, by omega, .inr ⟨g2, by omega⟩⟩, fun h0 => ?_⟩
      rw [g2] at h0
      cases h0
  · have he : ∀ (n : Int) (s : List UInt8), rdE 6 n s = 6 := fun n s => (rd_bad (by decide)).2.2.1
    have hE : doE l[k].rd 6 t = 6 := by
      have hk2 : l[k].rd.kind = l[k].kind := rfl
      unfold doE
      rw [hk2]
      rcases h4 with h0 | h0 | h0 | h0 <;> simp only [h0, if_true, Int.reduceEq, if_false, he]
    refine ⟨⟨hk, by omega, .inr ⟨hE, hm⟩⟩, fun h0 => ?_⟩
    rw [hE] at h0
    cases h0
theorem back_skip {l : List Call} {m k : Nat} {e : Int} {t : List UInt8} (hI : BackI l m k e t) (hk : k < l.length) (h0 : l[k].kind ≠ 0) (h1 : l[k].kind ≠ 1) (h2 : l[k].kind ≠ 2) (h3 : l[k].kind ≠ 3) : BackI l m (k + 1) e t := by
  obtain ⟨a1, a2, a3⟩ := hI
  have hm : l[k].more = [] := by simp [Call.more, Call.full, h0, h1, h2, h3]
  rw [outW_drop l hk, hm, List.nil_append] at a3
  exact ⟨hk, a2, a3⟩
theorem back_law : Meets Try.prog [] 6 lawCIS := by
  refine meets_of Γok Try.func6 rfl ?_
  intro args H Q h
  unfold lawCIS at h
  split at h
  case h_2 => exact h.elim
  rename_i n cs cut
  obtain ⟨l, rfl, rfl, hok, hlen, h⟩ := h
  (refine sx_sound Γok _ ?_; conv => whnf)
  (repeat (first | (exact Out.same; conv => whnf) | (exact Out1.same; conv => whnf) | (apply QStepH.go; conv => whnf) | (refine Both.lit_true ?_; conv => whnf) | (refine Both.lit_false ?_; conv => whnf) | (apply QStep.go; conv => whnf) | (refine Need.mk (by first | omega | exact ⟨by omega, by omega⟩ | rfl | exact ⟨rfl, rfl⟩ | exact ⟨rfl, by omega, by omega⟩ | exact ⟨by omega, by omega, by omega⟩ | exact ⟨rfl, Nat.le_of_ble_eq_true rfl⟩) ?_; conv => whnf) | (refine ⟨_, rfl, ?_⟩; conv => whnf) | (refine CallVC.auto awake_k ?_; conv => whnf)))
  refine CallVC.auto few_k ⟨l, rfl, rfl, hok, hlen, ?_⟩
  intro b hb
  (conv => whnf)
  refine Both.cases (fun hb2 => ?_) (fun hb2 => ?_)
  · (conv => whnf)
    exact ⟨_, _, WeakV.drop rfl, h⟩
  (conv => whnf)
  obtain ⟨hl, ht⟩ := hb (by simpa using hb2)
  have ho := outW_len l
  refine CallVC.autoW _ (Weak.wr 0 5 rfl) puts_k ?_
  refine ⟨[], l, rfl, rfl, hok, hl, ht, by simp, rfl, rfl, ?_⟩
  (conv => whnf)
  refine CallVC.auto bytes_k ?_
  refine ⟨_, rfl, rfl, by rw [List.nil_append]; omega, ?_⟩
  (conv => whnf)
  refine Both.dec_not (fun he => ?_) (fun he => ?_)
  · (conv => whnf)
    refine ⟨_, _, WeakV.drop (congrArg SV.bool ?_), h⟩
    rw [if_neg he]
    rfl
  (conv => whnf)
  have hgood := errW_zero he
  obtain ⟨s, hs⟩ : ∃ s, s = (if errW 0 l = 0 then [] ++ outW l else []) := ⟨_, rfl⟩
  have hso : s = outW l := by rw [hs, if_pos he]; rfl
  generalize (if errW 0 l = 0 then [] ++ outW l else []) = s1 at hs
  subst hs
  have hss : ∀ c ∈ l, c.s.length < 1000000 := by
    intro c hc
    obtain ⟨i, hi, rfl⟩ := List.mem_iff_getElem.1 hc
    have := total_get l hi
    omega
  have hsl : s.length < 100000 := by rw [hso]; omega
  refine Both.dec (fun hc0 => ?_) (fun hc0 => ?_)
  · (conv => whnf)
    (repeat (first | (exact Out.same; conv => whnf) | (exact Out1.same; conv => whnf) | (apply QStepH.go; conv => whnf) | (refine Both.lit_true ?_; conv => whnf) | (refine Both.lit_false ?_; conv => whnf) | (apply QStep.go; conv => whnf) | (refine Need.mk (by first | omega | exact ⟨by omega, by omega⟩ | rfl | exact ⟨rfl, rfl⟩ | exact ⟨rfl, by omega, by omega⟩ | exact ⟨by omega, by omega, by omega⟩ | exact ⟨rfl, Nat.le_of_ble_eq_true rfl⟩) ?_; conv => whnf) | (refine ⟨_, rfl, ?_⟩; conv => whnf)))

    (conv => whnf)
    (repeat (first | (exact Out.same; conv => whnf) | (exact Out1.same; conv => whnf) | (apply QStepH.go; conv => whnf) | (refine Both.lit_true ?_; conv => whnf) | (refine Both.lit_false ?_; conv => whnf) | (apply QStep.go; conv => whnf) | (refine Need.mk (by first | omega | exact ⟨by omega, by omega⟩ | rfl | exact ⟨rfl, rfl⟩ | exact ⟨rfl, by omega, by omega⟩ | exact ⟨by omega, by omega, by omega⟩ | exact ⟨rfl, Nat.le_of_ble_eq_true rfl⟩) ?_; conv => whnf) | (refine ⟨_, rfl, ?_⟩; conv => whnf) | (refine CallVC.auto rnew_k ?_; conv => whnf)))
    refine loop_rule (fun x : Nat × Int × List UInt8 => match x with
      | (k, e, t) => ⟨[.sl 4 l.length (l.flatMap Call.en) false, .int .i64 (s.length : Int), .any, .any, .any, .any, .str s, .any, .ptr 0 0, .int .i64 (k : Int), .any, .any, .any, .any, .any, .any, .any, .any, .any, .any, .any, .any, .any, .any, .any, .any, .any, .any, .any, .any, .any, .any, .any, .any, .any, .any, .any, .any, .any, .any, .any, .any, .any, .any, .any, .any, .any, .any, .any, .any, .any, .any, .any, .any, .any, .any, .any, .any, .any, .any, .any, .any, .any, .any, .any, .any, .any, .any, .any, .any, .any, .any, .any, .any, .any, .any, .any, .any, .any, .any, .any, .any, .any, .any, .any, .any, .any, .any, .any, .any, .any, .any, .any, .any, .any, .any, .any, .any, .any, .any, .any, .any, .any, .any, .any, .any, .any, .any, .any, .any, .any, .any, .any, .any, .any, .any, .any, .any, .any, .any, .any, .any, .any, .any, .any, .any, .any], rd e t⟩) (fun x => BackI l (s.length) x.1 x.2.1 x.2.2) (fun x => l.length - x.1) (0, 0, List.drop (0 : Int).toNat (List.take (s.length : Int).toNat s)) ⟨by simp, by simp; omega, .inl ⟨rfl, 0, by omega, by simp, by simp [hso]⟩⟩ (Weak.auto ?_) ?_
    · (repeat' ((conv => whnf); first | exact True.intro | (refine And.intro ?_ ?_)))
      all_goals first | rfl | exact .eq rfl | done
    · rintro ⟨k, e, t⟩ hI
      have hI : BackI l (s.length) k e t := hI
      have hk := hI.1
      have htl := hI.2.1
      (refine sx_sound Γok _ ?_; conv => whnf)
      refine Both.dec (fun hlt => ?_) (fun hge => ?_)
      · have hkl : k < l.length := by have : (k : Int) < l.length := hlt; omega
        (conv => whnf)
        refine Need.mk ⟨rfl, by omega, by omega⟩ ?_
        (conv => whnf)
        refine ⟨_, calls_row l k hkl, ?_⟩
        (conv => whnf)
        (refine ⟨_, rfl, ?_⟩; conv => whnf)
        have hst := back_step hI hkl hgood hss
        have hsk := back_skip hI hkl
        have hgk := hgood _ (List.getElem_mem hkl)
        have hok1 := hok _ (List.getElem_mem hkl)
        generalize hcc : l[k] = c at hst hsk hgk hok1 ⊢
        have hr := calls_row l k hkl
        rw [hcc] at hr
        refine Both.dec (fun h0 => ?_) (fun h0 => ?_)
        · (conv => whnf)
          (refine DrawVC.any Γok (by kernel_rfl) (by kernel_rfl) (by kernel_rfl) ?_; conv => whnf)
          (repeat (first | (refine ⟨_, hr, ?_⟩; conv => whnf) | (exact Out.same; conv => whnf) | (exact Out1.same; conv => whnf) | (apply QStepH.go; conv => whnf) | (refine Both.lit_true ?_; conv => whnf) | (refine Both.lit_false ?_; conv => whnf) | (apply QStep.go; conv => whnf) | (refine Need.mk (by first | omega | exact ⟨by omega, by omega⟩ | rfl | exact ⟨rfl, rfl⟩ | exact ⟨rfl, by omega, by omega⟩ | exact ⟨by omega, by omega, by omega⟩ | exact ⟨rfl, Nat.le_of_ble_eq_true rfl⟩) ?_; conv => whnf) | (refine ⟨_, rfl, ?_⟩; conv => whnf) | (refine CallVC.auto rbyte_k ?_; conv => whnf)))
          obtain ⟨q1, q2⟩ := hst (.inl h0)
          rw [show doE c.rd e t = rdE e 1 t by simp [doE, Call.rd, h0], show doS c.rd e t = rdS e 1 t by simp [doS, Call.rd, h0]] at q1
          rw [show doE c.rd e t = rdE e 1 t by simp [doE, Call.rd, h0]] at q2
          refine Both.cases (fun hb3 => ?_) (fun hb3 => ?_)
          · (conv => whnf)
            (repeat (first | (exact Out.same; conv => whnf) | (exact Out1.same; conv => whnf) | (apply QStepH.go; conv => whnf) | (refine Both.lit_true ?_; conv => whnf) | (refine Both.lit_false ?_; conv => whnf) | (apply QStep.go; conv => whnf) | (refine Need.mk (by first | omega | exact ⟨by omega, by omega⟩ | rfl | exact ⟨rfl, rfl⟩ | exact ⟨rfl, by omega, by omega⟩ | exact ⟨by omega, by omega, by omega⟩ | exact ⟨rfl, Nat.le_of_ble_eq_true rfl⟩) ?_; conv => whnf) | (refine ⟨_, rfl, ?_⟩; conv => whnf)))
            refine CallVC.auto err_k ⟨.inr rfl, ?_⟩
            (conv => whnf)
            (repeat (first | (exact Out.same; conv => whnf) | (exact Out1.same; conv => whnf) | (apply QStepH.go; conv => whnf) | (refine Both.lit_true ?_; conv => whnf) | (refine Both.lit_false ?_; conv => whnf) | (apply QStep.go; conv => whnf) | (refine Need.mk (by first | omega | exact ⟨by omega, by omega⟩ | rfl | exact ⟨rfl, rfl⟩ | exact ⟨rfl, by omega, by omega⟩ | exact ⟨by omega, by omega, by omega⟩ | exact ⟨rfl, Nat.le_of_ble_eq_true rfl⟩) ?_; conv => whnf) | (refine ⟨_, rfl, ?_⟩; conv => whnf)))
            refine Both.dec (fun hx => ?_) (fun hx => ?_)
            · exfalso
              have q3 := q2 hx
              simp only [doV, doT, Call.rd, h0, if_true, if_false, reduceCtorEq, Int.reduceEq, forall_const, true_or, or_true] at q3
              simp [q3] at hb3
            (conv => whnf)
            (repeat (first | (exact Out.same; conv => whnf) | (exact Out1.same; conv => whnf) | (apply QStepH.go; conv => whnf) | (refine Both.lit_true ?_; conv => whnf) | (refine Both.lit_false ?_; conv => whnf) | (apply QStep.go; conv => whnf) | (refine Need.mk (by first | omega | exact ⟨by omega, by omega⟩ | rfl | exact ⟨rfl, rfl⟩ | exact ⟨rfl, by omega, by omega⟩ | exact ⟨by omega, by omega, by omega⟩ | exact ⟨rfl, Nat.le_of_ble_eq_true rfl⟩) ?_; conv => whnf) | (refine ⟨_, rfl, ?_⟩; conv => whnf)))
            refine ⟨(k + 1, _, _), q1, by show l.length - (k + 1) < l.length - k; omega, Weak.auto ?_⟩
            (repeat' ((conv => whnf); first | exact True.intro | (refine And.intro ?_ ?_)))
            all_goals first | rfl | exact congrArg (SV.int .i64) (by rw [wrap_i64 (by omega) (by omega)]; rfl) | exact .eq rfl
          · (conv => whnf)
            (repeat (first | (exact Out.same; conv => whnf) | (exact Out1.same; conv => whnf) | (apply QStepH.go; conv => whnf) | (refine Both.lit_true ?_; conv => whnf) | (refine Both.lit_false ?_; conv => whnf) | (apply QStep.go; conv => whnf) | (refine Need.mk (by first | omega | exact ⟨by omega, by omega⟩ | rfl | exact ⟨rfl, rfl⟩ | exact ⟨rfl, by omega, by omega⟩ | exact ⟨by omega, by omega, by omega⟩ | exact ⟨rfl, Nat.le_of_ble_eq_true rfl⟩) ?_; conv => whnf) | (refine ⟨_, rfl, ?_⟩; conv => whnf)))
            refine ⟨(k + 1, _, _), q1, by show l.length - (k + 1) < l.length - k; omega, Weak.auto ?_⟩
            (repeat' ((conv => whnf); first | exact True.intro | (refine And.intro ?_ ?_)))
            all_goals first | rfl | exact congrArg (SV.int .i64) (by rw [wrap_i64 (by omega) (by omega)]; rfl) | exact .eq rfl
        (conv => whnf)
        refine Both.dec (fun h1 => ?_) (fun h1 => ?_)
        · (conv => whnf)
          (refine DrawVC.any Γok (by kernel_rfl) (by kernel_rfl) (by kernel_rfl) ?_; conv => whnf)
          (repeat (first | (refine ⟨_, hr, ?_⟩; conv => whnf) | (exact Out.same; conv => whnf) | (exact Out1.same; conv => whnf) | (apply QStepH.go; conv => whnf) | (refine Both.lit_true ?_; conv => whnf) | (refine Both.lit_false ?_; conv => whnf) | (apply QStep.go; conv => whnf) | (refine Need.mk (by first | omega | exact ⟨by omega, by omega⟩ | rfl | exact ⟨rfl, rfl⟩ | exact ⟨rfl, by omega, by omega⟩ | exact ⟨by omega, by omega, by omega⟩ | exact ⟨rfl, Nat.le_of_ble_eq_true rfl⟩) ?_; conv => whnf) | (refine ⟨_, rfl, ?_⟩; conv => whnf) | (refine CallVC.auto rnum_k ?_; conv => whnf)))
          obtain ⟨q1, q2⟩ := hst (.inr (.inl h1))
          rw [show doE c.rd e t = rdE e 8 t by simp [doE, Call.rd, h1], show doS c.rd e t = rdS e 8 t by simp [doS, Call.rd, h1]] at q1
          rw [show doE c.rd e t = rdE e 8 t by simp [doE, Call.rd, h1]] at q2
          refine Both.cases (fun hb3 => ?_) (fun hb3 => ?_)
          · (conv => whnf)
            (repeat (first | (exact Out.same; conv => whnf) | (exact Out1.same; conv => whnf) | (apply QStepH.go; conv => whnf) | (refine Both.lit_true ?_; conv => whnf) | (refine Both.lit_false ?_; conv => whnf) | (apply QStep.go; conv => whnf) | (refine Need.mk (by first | omega | exact ⟨by omega, by omega⟩ | rfl | exact ⟨rfl, rfl⟩ | exact ⟨rfl, by omega, by omega⟩ | exact ⟨by omega, by omega, by omega⟩ | exact ⟨rfl, Nat.le_of_ble_eq_true rfl⟩) ?_; conv => whnf) | (refine ⟨_, rfl, ?_⟩; conv => whnf)))
            refine CallVC.auto err_k ⟨.inr rfl, ?_⟩
            (conv => whnf)
            (repeat (first | (exact Out.same; conv => whnf) | (exact Out1.same; conv => whnf) | (apply QStepH.go; conv => whnf) | (refine Both.lit_true ?_; conv => whnf) | (refine Both.lit_false ?_; conv => whnf) | (apply QStep.go; conv => whnf) | (refine Need.mk (by first | omega | exact ⟨by omega, by omega⟩ | rfl | exact ⟨rfl, rfl⟩ | exact ⟨rfl, by omega, by omega⟩ | exact ⟨by omega, by omega, by omega⟩ | exact ⟨rfl, Nat.le_of_ble_eq_true rfl⟩) ?_; conv => whnf) | (refine ⟨_, rfl, ?_⟩; conv => whnf)))
            refine Both.dec (fun hx => ?_) (fun hx => ?_)
            · exfalso
              have q3 := q2 hx
              simp only [doV, doT, Call.rd, h1, if_true, if_false, reduceCtorEq, Int.reduceEq, forall_const, true_or, or_true] at q3
              simp [q3] at hb3
            (conv => whnf)
            (repeat (first | (exact Out.same; conv => whnf) | (exact Out1.same; conv => whnf) | (apply QStepH.go; conv => whnf) | (refine Both.lit_true ?_; conv => whnf) | (refine Both.lit_false ?_; conv => whnf) | (apply QStep.go; conv => whnf) | (refine Need.mk (by first | omega | exact ⟨by omega, by omega⟩ | rfl | exact ⟨rfl, rfl⟩ | exact ⟨rfl, by omega, by omega⟩ | exact ⟨by omega, by omega, by omega⟩ | exact ⟨rfl, Nat.le_of_ble_eq_true rfl⟩) ?_; conv => whnf) | (refine ⟨_, rfl, ?_⟩; conv => whnf)))
            refine ⟨(k + 1, _, _), q1, by show l.length - (k + 1) < l.length - k; omega, Weak.auto ?_⟩
            (repeat' ((conv => whnf); first | exact True.intro | (refine And.intro ?_ ?_)))
            all_goals first | rfl | exact congrArg (SV.int .i64) (by rw [wrap_i64 (by omega) (by omega)]; rfl) | exact .eq rfl
          · (conv => whnf)
            (repeat (first | (exact Out.same; conv => whnf) | (exact Out1.same; conv => whnf) | (apply QStepH.go; conv => whnf) | (refine Both.lit_true ?_; conv => whnf) | (refine Both.lit_false ?_; conv => whnf) | (apply QStep.go; conv => whnf) | (refine Need.mk (by first | omega | exact ⟨by omega, by omega⟩ | rfl | exact ⟨rfl, rfl⟩ | exact ⟨rfl, by omega, by omega⟩ | exact ⟨by omega, by omega, by omega⟩ | exact ⟨rfl, Nat.le_of_ble_eq_true rfl⟩) ?_; conv => whnf) | (refine ⟨_, rfl, ?_⟩; conv => whnf)))
            refine ⟨(k + 1, _, _), q1, by show l.length - (k + 1) < l.length - k; omega, Weak.auto ?_⟩
            (repeat' ((conv => whnf); first | exact True.intro | (refine And.intro ?_ ?_)))
            all_goals first | rfl | exact congrArg (SV.int .i64) (by rw [wrap_i64 (by omega) (by omega)]; rfl) | exact .eq rfl
        (conv => whnf)
        refine Both.dec (fun h2 => ?_) (fun h2 => ?_)
        · (conv => whnf)
          (refine DrawVC.any Γok (by kernel_rfl) (by kernel_rfl) (by kernel_rfl) ?_; conv => whnf)
          (repeat (first | (refine ⟨_, hr, ?_⟩; conv => whnf) | (exact Out.same; conv => whnf) | (exact Out1.same; conv => whnf) | (apply QStepH.go; conv => whnf) | (refine Both.lit_true ?_; conv => whnf) | (refine Both.lit_false ?_; conv => whnf) | (apply QStep.go; conv => whnf) | (refine Need.mk (by first | omega | exact ⟨by omega, by omega⟩ | rfl | exact ⟨rfl, rfl⟩ | exact ⟨rfl, by omega, by omega⟩ | exact ⟨by omega, by omega, by omega⟩ | exact ⟨rfl, Nat.le_of_ble_eq_true rfl⟩) ?_; conv => whnf) | (refine ⟨_, rfl, ?_⟩; conv => whnf) | (refine CallVC.auto rtext_k ?_; conv => whnf)))
          obtain ⟨q1, q2⟩ := hst (.inr (.inr (.inl h2)))
          rw [show doE c.rd e t = rdE (rdE e 2 t) (rdV e 2 t) (rdS e 2 t) by simp [doE, Call.rd, h2], show doS c.rd e t = rdS (rdE e 2 t) (rdV e 2 t) (rdS e 2 t) by simp [doS, Call.rd, h2]] at q1
          rw [show doE c.rd e t = rdE (rdE e 2 t) (rdV e 2 t) (rdS e 2 t) by simp [doE, Call.rd, h2]] at q2
          refine Both.cases (fun hb3 => ?_) (fun hb3 => ?_)
          · (conv => whnf)
            (repeat (first | (exact Out.same; conv => whnf) | (exact Out1.same; conv => whnf) | (apply QStepH.go; conv => whnf) | (refine Both.lit_true ?_; conv => whnf) | (refine Both.lit_false ?_; conv => whnf) | (apply QStep.go; conv => whnf) | (refine Need.mk (by first | omega | exact ⟨by omega, by omega⟩ | rfl | exact ⟨rfl, rfl⟩ | exact ⟨rfl, by omega, by omega⟩ | exact ⟨by omega, by omega, by omega⟩ | exact ⟨rfl, Nat.le_of_ble_eq_true rfl⟩) ?_; conv => whnf) | (refine ⟨_, rfl, ?_⟩; conv => whnf)))
            refine CallVC.auto err_k ⟨.inr rfl, ?_⟩
            (conv => whnf)
            (repeat (first | (exact Out.same; conv => whnf) | (exact Out1.same; conv => whnf) | (apply QStepH.go; conv => whnf) | (refine Both.lit_true ?_; conv => whnf) | (refine Both.lit_false ?_; conv => whnf) | (apply QStep.go; conv => whnf) | (refine Need.mk (by first | omega | exact ⟨by omega, by omega⟩ | rfl | exact ⟨rfl, rfl⟩ | exact ⟨rfl, by omega, by omega⟩ | exact ⟨by omega, by omega, by omega⟩ | exact ⟨rfl, Nat.le_of_ble_eq_true rfl⟩) ?_; conv => whnf) | (refine ⟨_, rfl, ?_⟩; conv => whnf)))
            refine Both.dec (fun hx => ?_) (fun hx => ?_)
            · exfalso
              have q3 := q2 hx
              simp only [doV, doT, Call.rd, h2, if_true, if_false, reduceCtorEq, Int.reduceEq, forall_const, true_or, or_true] at q3
              simp [q3] at hb3
            (conv => whnf)
            (repeat (first | (exact Out.same; conv => whnf) | (exact Out1.same; conv => whnf) | (apply QStepH.go; conv => whnf) | (refine Both.lit_true ?_; conv => whnf) | (refine Both.lit_false ?_; conv => whnf) | (apply QStep.go; conv => whnf) | (refine Need.mk (by first | omega | exact ⟨by omega, by omega⟩ | rfl | exact ⟨rfl, rfl⟩ | exact ⟨rfl, by omega, by omega⟩ | exact ⟨by omega, by omega, by omega⟩ | exact ⟨rfl, Nat.le_of_ble_eq_true rfl⟩) ?_; conv => whnf) | (refine ⟨_, rfl, ?_⟩; conv => whnf)))
            refine ⟨(k + 1, _, _), q1, by show l.length - (k + 1) < l.length - k; omega, Weak.auto ?_⟩
            (repeat' ((conv => whnf); first | exact True.intro | (refine And.intro ?_ ?_)))
            all_goals first | rfl | exact congrArg (SV.int .i64) (by rw [wrap_i64 (by omega) (by omega)]; rfl) | exact .eq rfl
          · (conv => whnf)
            (repeat (first | (exact Out.same; conv => whnf) | (exact Out1.same; conv => whnf) | (apply QStepH.go; conv => whnf) | (refine Both.lit_true ?_; conv => whnf) | (refine Both.lit_false ?_; conv => whnf) | (apply QStep.go; conv => whnf) | (refine Need.mk (by first | omega | exact ⟨by omega, by omega⟩ | rfl | exact ⟨rfl, rfl⟩ | exact ⟨rfl, by omega, by omega⟩ | exact ⟨by omega, by omega, by omega⟩ | exact ⟨rfl, Nat.le_of_ble_eq_true rfl⟩) ?_; conv => whnf) | (refine ⟨_, rfl, ?_⟩; conv => whnf)))
            refine ⟨(k + 1, _, _), q1, by show l.length - (k + 1) < l.length - k; omega, Weak.auto ?_⟩
            (repeat' ((conv => whnf); first | exact True.intro | (refine And.intro ?_ ?_)))
            all_goals first | rfl | exact congrArg (SV.int .i64) (by rw [wrap_i64 (by omega) (by omega)]; rfl) | exact .eq rfl
        (conv => whnf)
        refine Both.dec (fun h3 => ?_) (fun h3 => ?_)
        · (conv => whnf)
          (refine DrawVC.any Γok (by kernel_rfl) (by kernel_rfl) (by kernel_rfl) ?_; conv => whnf)
          (repeat (first | (refine CallVC.auto rraw_k ⟨by omega, ?_⟩; conv => whnf) | (refine ⟨_, hr, ?_⟩; conv => whnf) | (exact Out.same; conv => whnf) | (exact Out1.same; conv => whnf) | (apply QStepH.go; conv => whnf) | (refine Both.lit_true ?_; conv => whnf) | (refine Both.lit_false ?_; conv => whnf) | (apply QStep.go; conv => whnf) | (refine Need.mk (by first | omega | exact ⟨by omega, by omega⟩ | rfl | exact ⟨rfl, rfl⟩ | exact ⟨rfl, by omega, by omega⟩ | exact ⟨by omega, by omega, by omega⟩ | exact ⟨rfl, Nat.le_of_ble_eq_true rfl⟩) ?_; conv => whnf) | (refine ⟨_, rfl, ?_⟩; conv => whnf)))
          obtain ⟨q1, q2⟩ := hst (.inr (.inr (.inr h3)))
          rw [show doE c.rd e t = rdE e c.s.length t by simp [doE, Call.rd, h3], show doS c.rd e t = rdS e c.s.length t by simp [doS, Call.rd, h3]] at q1
          rw [show doE c.rd e t = rdE e c.s.length t by simp [doE, Call.rd, h3]] at q2
          refine Both.cases (fun hb3 => ?_) (fun hb3 => ?_)
          · (conv => whnf)
            (repeat (first | (exact Out.same; conv => whnf) | (exact Out1.same; conv => whnf) | (apply QStepH.go; conv => whnf) | (refine Both.lit_true ?_; conv => whnf) | (refine Both.lit_false ?_; conv => whnf) | (apply QStep.go; conv => whnf) | (refine Need.mk (by first | omega | exact ⟨by omega, by omega⟩ | rfl | exact ⟨rfl, rfl⟩ | exact ⟨rfl, by omega, by omega⟩ | exact ⟨by omega, by omega, by omega⟩ | exact ⟨rfl, Nat.le_of_ble_eq_true rfl⟩) ?_; conv => whnf) | (refine ⟨_, rfl, ?_⟩; conv => whnf)))
            refine CallVC.auto err_k ⟨.inr rfl, ?_⟩
            (conv => whnf)
            (repeat (first | (exact Out.same; conv => whnf) | (exact Out1.same; conv => whnf) | (apply QStepH.go; conv => whnf) | (refine Both.lit_true ?_; conv => whnf) | (refine Both.lit_false ?_; conv => whnf) | (apply QStep.go; conv => whnf) | (refine Need.mk (by first | omega | exact ⟨by omega, by omega⟩ | rfl | exact ⟨rfl, rfl⟩ | exact ⟨rfl, by omega, by omega⟩ | exact ⟨by omega, by omega, by omega⟩ | exact ⟨rfl, Nat.le_of_ble_eq_true rfl⟩) ?_; conv => whnf) | (refine ⟨_, rfl, ?_⟩; conv => whnf)))
            refine Both.dec (fun hx => ?_) (fun hx => ?_)
            · exfalso
              have q3 := q2 hx
              simp only [doV, doT, Call.rd, h3, if_true, if_false, reduceCtorEq, Int.reduceEq, forall_const, true_or, or_true] at q3
              simp [q3] at hb3
            (conv => whnf)
            (repeat (first | (exact Out.same; conv => whnf) | (exact Out1.same; conv => whnf) | (apply QStepH.go; conv => whnf) | (refine Both.lit_true ?_; conv => whnf) | (refine Both.lit_false ?_; conv => whnf) | (apply QStep.go; conv => whnf) | (refine Need.mk (by first | omega | exact ⟨by omega, by omega⟩ | rfl | exact ⟨rfl, rfl⟩ | exact ⟨rfl, by omega, by omega⟩ | exact ⟨by omega, by omega, by omega⟩ | exact ⟨rfl, Nat.le_of_ble_eq_true rfl⟩) ?_; conv => whnf) | (refine ⟨_, rfl, ?_⟩; conv => whnf)))
            refine ⟨(k + 1, _, _), q1, by show l.length - (k + 1) < l.length - k; omega, Weak.auto ?_⟩
            (repeat' ((conv => whnf); first | exact True.intro | (refine And.intro ?_ ?_)))
            all_goals first | rfl | exact congrArg (SV.int .i64) (by rw [wrap_i64 (by omega) (by omega)]; rfl) | exact .eq rfl
          · (conv => whnf)
            (repeat (first | (exact Out.same; conv => whnf) | (exact Out1.same; conv => whnf) | (apply QStepH.go; conv => whnf) | (refine Both.lit_true ?_; conv => whnf) | (refine Both.lit_false ?_; conv => whnf) | (apply QStep.go; conv => whnf) | (refine Need.mk (by first | omega | exact ⟨by omega, by omega⟩ | rfl | exact ⟨rfl, rfl⟩ | exact ⟨rfl, by omega, by omega⟩ | exact ⟨by omega, by omega, by omega⟩ | exact ⟨rfl, Nat.le_of_ble_eq_true rfl⟩) ?_; conv => whnf) | (refine ⟨_, rfl, ?_⟩; conv => whnf)))
            refine ⟨(k + 1, _, _), q1, by show l.length - (k + 1) < l.length - k; omega, Weak.auto ?_⟩
            (repeat' ((conv => whnf); first | exact True.intro | (refine And.intro ?_ ?_)))
            all_goals first | rfl | exact congrArg (SV.int .i64) (by rw [wrap_i64 (by omega) (by omega)]; rfl) | exact .eq rfl
        (conv => whnf)
        (repeat (first | (exact Out.same; conv => whnf) | (exact Out1.same; conv => whnf) | (apply QStepH.go; conv => whnf) | (refine Both.lit_true ?_; conv => whnf) | (refine Both.lit_false ?_; conv => whnf) | (apply QStep.go; conv => whnf) | (refine Need.mk (by first | omega | exact ⟨by omega, by omega⟩ | rfl | exact ⟨rfl, rfl⟩ | exact ⟨rfl, by omega, by omega⟩ | exact ⟨by omega, by omega, by omega⟩ | exact ⟨rfl, Nat.le_of_ble_eq_true rfl⟩) ?_; conv => whnf) | (refine ⟨_, rfl, ?_⟩; conv => whnf)))
        refine ⟨(k + 1, e, t), hsk h0 h1 h2 h3, by show l.length - (k + 1) < l.length - k; omega, Weak.auto ?_⟩
        (repeat' ((conv => whnf); first | exact True.intro | (refine And.intro ?_ ?_)))
        all_goals first | rfl | exact congrArg (SV.int .i64) (by rw [wrap_i64 (by omega) (by omega)]; rfl) | exact .eq rfl

      · obtain rfl : k = l.length := by have : ¬ (k : Int) < l.length := hge; omega
        (conv => whnf)
        have hfin : (e = 0 ∧ t = [] ∧ s.length = s.length) ∨ (e = 6 ∧ s.length < s.length) := by
          obtain ⟨_, _, h3⟩ := hI
          rw [← hso] at h3
          rcases h3 with ⟨h4, p, h5, h6, h7⟩ | h3
          · refine .inl ⟨h4, by rw [h7]; simp [outW], ?_⟩
            simp [outW] at h6
            omega
          · exact .inr h3
        rcases hfin with ⟨rfl, rfl, hM⟩ | ⟨rfl, hM⟩
        · have hN : rdEnd 0 [] = 0 := rfl
          try subst hM
          (repeat (first | (exact Out.same; conv => whnf) | (exact Out1.same; conv => whnf) | (apply QStepH.go; conv => whnf) | (refine Both.lit_true ?_; conv => whnf) | (refine Both.lit_false ?_; conv => whnf) | (apply QStep.go; conv => whnf) | (refine Need.mk (by first | omega | exact ⟨by omega, by omega⟩ | rfl | exact ⟨rfl, rfl⟩ | exact ⟨rfl, by omega, by omega⟩ | exact ⟨by omega, by omega, by omega⟩ | exact ⟨rfl, Nat.le_of_ble_eq_true rfl⟩) ?_; conv => whnf) | (refine ⟨_, rfl, ?_⟩; conv => whnf) | (refine CallVC.auto end_k ?_; conv => whnf) | (refine Both.of_false ?_ ?_; (focus (first | rfl | (simp [hN] <;> fail))); conv => whnf) | (refine Both.of_true ?_ ?_; (focus (first | rfl | (simp [hN] <;> fail))); conv => whnf)))
          refine ⟨_, _, WeakV.drop (congrArg SV.bool ?_), h⟩
          simp [hN]
        · first
            | exact absurd hM (Nat.lt_irrefl _)
            | (have hN : rdEnd 6 t = 6 := rfl
               have hM2 : ¬ ((s.length : Nat) : Int) = (s.length : Int) := by omega
               (repeat (first | (exact Out.same; conv => whnf) | (exact Out1.same; conv => whnf) | (apply QStepH.go; conv => whnf) | (refine Both.lit_true ?_; conv => whnf) | (refine Both.lit_false ?_; conv => whnf) | (apply QStep.go; conv => whnf) | (refine Need.mk (by first | omega | exact ⟨by omega, by omega⟩ | rfl | exact ⟨rfl, rfl⟩ | exact ⟨rfl, by omega, by omega⟩ | exact ⟨by omega, by omega, by omega⟩ | exact ⟨rfl, Nat.le_of_ble_eq_true rfl⟩) ?_; conv => whnf) | (refine ⟨_, rfl, ?_⟩; conv => whnf) | (refine CallVC.auto end_k ?_; conv => whnf) | (refine Both.of_false ?_ ?_; (focus (first | rfl | (simp [hM2, hN] <;> fail))); conv => whnf) | (refine Both.of_true ?_ ?_; (focus (first | rfl | (simp [hM2, hN] <;> fail))); conv => whnf)))
               refine ⟨_, _, WeakV.drop (congrArg SV.bool ?_), h⟩
               simp [hM2, hN])
  · (conv => whnf)
    (repeat (first | (exact Out.same; conv => whnf) | (exact Out1.same; conv => whnf) | (apply QStepH.go; conv => whnf) | (refine Both.lit_true ?_; conv => whnf) | (refine Both.lit_false ?_; conv => whnf) | (apply QStep.go; conv => whnf) | (refine Need.mk (by first | omega | exact ⟨by omega, by omega⟩ | rfl | exact ⟨rfl, rfl⟩ | exact ⟨rfl, by omega, by omega⟩ | exact ⟨by omega, by omega, by omega⟩ | exact ⟨rfl, Nat.le_of_ble_eq_true rfl⟩) ?_; conv => whnf) | (refine ⟨_, rfl, ?_⟩; conv => whnf)))
    refine Both.dec (fun hc1 => ?_) (fun hc1 => ?_)
    · (conv => whnf)
      (repeat (first | (exact Out.same; conv => whnf) | (exact Out1.same; conv => whnf) | (apply QStepH.go; conv => whnf) | (refine Both.lit_true ?_; conv => whnf) | (refine Both.lit_false ?_; conv => whnf) | (apply QStep.go; conv => whnf) | (refine Need.mk (by first | omega | exact ⟨by omega, by omega⟩ | rfl | exact ⟨rfl, rfl⟩ | exact ⟨rfl, by omega, by omega⟩ | exact ⟨by omega, by omega, by omega⟩ | exact ⟨rfl, Nat.le_of_ble_eq_true rfl⟩) ?_; conv => whnf) | (refine ⟨_, rfl, ?_⟩; conv => whnf)))

      (conv => whnf)
      (repeat (first | (exact Out.same; conv => whnf) | (exact Out1.same; conv => whnf) | (apply QStepH.go; conv => whnf) | (refine Both.lit_true ?_; conv => whnf) | (refine Both.lit_false ?_; conv => whnf) | (apply QStep.go; conv => whnf) | (refine Need.mk (by first | omega | exact ⟨by omega, by omega⟩ | rfl | exact ⟨rfl, rfl⟩ | exact ⟨rfl, by omega, by omega⟩ | exact ⟨by omega, by omega, by omega⟩ | exact ⟨rfl, Nat.le_of_ble_eq_true rfl⟩) ?_; conv => whnf) | (refine ⟨_, rfl, ?_⟩; conv => whnf) | (refine CallVC.auto rnew_k ?_; conv => whnf)))
      refine loop_rule (fun x : Nat × Int × List UInt8 => match x with
        | (k, e, t) => ⟨[.sl 4 l.length (l.flatMap Call.en) false, .int .i64 (s.length : Int), .any, .any, .any, .any, .str s, .any, .ptr 0 0, .int .i64 (k : Int), .any, .any, .any, .any, .any, .any, .any, .any, .any, .any, .any, .any, .any, .any, .any, .any, .any, .any, .any, .any, .any, .any, .any, .any, .any, .any, .any, .any, .any, .any, .any, .any, .any, .any, .any, .any, .any, .any, .any, .any, .any, .any, .any, .any, .any, .any, .any, .any, .any, .any, .any, .any, .any, .any, .any, .any, .any, .any, .any, .any, .any, .any, .any, .any, .any, .any, .any, .any, .any, .any, .any, .any, .any, .any, .any, .any, .any, .any, .any, .any, .any, .any, .any, .any, .any, .any, .any, .any, .any, .any, .any, .any, .any, .any, .any, .any, .any, .any, .any, .any, .any, .any, .any, .any, .any, .any, .any, .any, .any, .any, .any, .any, .any, .any, .any, .any, .any], rd e t⟩) (fun x => BackI l (s.length) x.1 x.2.1 x.2.2) (fun x => l.length - x.1) (0, 0, List.drop (0 : Int).toNat (List.take (s.length : Int).toNat s)) ⟨by simp, by simp; omega, .inl ⟨rfl, 0, by omega, by simp, by simp [hso]⟩⟩ (Weak.auto ?_) ?_
      · (repeat' ((conv => whnf); first | exact True.intro | (refine And.intro ?_ ?_)))
        all_goals first | rfl | exact .eq rfl | done
      · rintro ⟨k, e, t⟩ hI
        have hI : BackI l (s.length) k e t := hI
        have hk := hI.1
        have htl := hI.2.1
        (refine sx_sound Γok _ ?_; conv => whnf)
        refine Both.dec (fun hlt => ?_) (fun hge => ?_)
        · have hkl : k < l.length := by have : (k : Int) < l.length := hlt; omega
          (conv => whnf)
          refine Need.mk ⟨rfl, by omega, by omega⟩ ?_
          (conv => whnf)
          refine ⟨_, calls_row l k hkl, ?_⟩
          (conv => whnf)
          (refine ⟨_, rfl, ?_⟩; conv => whnf)
          have hst := back_step hI hkl hgood hss
          have hsk := back_skip hI hkl
          have hgk := hgood _ (List.getElem_mem hkl)
          have hok1 := hok _ (List.getElem_mem hkl)
          generalize hcc : l[k] = c at hst hsk hgk hok1 ⊢
          have hr := calls_row l k hkl
          rw [hcc] at hr
          refine Both.dec (fun h0 => ?_) (fun h0 => ?_)
          · (conv => whnf)
            (refine DrawVC.any Γok (by kernel_rfl) (by kernel_rfl) (by kernel_rfl) ?_; conv => whnf)
            (repeat (first | (refine ⟨_, hr, ?_⟩; conv => whnf) | (exact Out.same; conv => whnf) | (exact Out1.same; conv => whnf) | (apply QStepH.go; conv => whnf) | (refine Both.lit_true ?_; conv => whnf) | (refine Both.lit_false ?_; conv => whnf) | (apply QStep.go; conv => whnf) | (refine Need.mk (by first | omega | exact ⟨by omega, by omega⟩ | rfl | exact ⟨rfl, rfl⟩ | exact ⟨rfl, by omega, by omega⟩ | exact ⟨by omega, by omega, by omega⟩ | exact ⟨rfl, Nat.le_of_ble_eq_true rfl⟩) ?_; conv => whnf) | (refine ⟨_, rfl, ?_⟩; conv => whnf) | (refine CallVC.auto rbyte_k ?_; conv => whnf)))
            obtain ⟨q1, q2⟩ := hst (.inl h0)
            rw [show doE c.rd e t = rdE e 1 t by simp [doE, Call.rd, h0], show doS c.rd e t = rdS e 1 t by simp [doS, Call.rd, h0]] at q1
            rw [show doE c.rd e t = rdE e 1 t by simp [doE, Call.rd, h0]] at q2
            refine Both.cases (fun hb3 => ?_) (fun hb3 => ?_)
            · (conv => whnf)
              (repeat (first | (exact Out.same; conv => whnf) | (exact Out1.same; conv => whnf) | (apply QStepH.go; conv => whnf) | (refine Both.lit_true ?_; conv => whnf) | (refine Both.lit_false ?_; conv => whnf) | (apply QStep.go; conv => whnf) | (refine Need.mk (by first | omega | exact ⟨by omega, by omega⟩ | rfl | exact ⟨rfl, rfl⟩ | exact ⟨rfl, by omega, by omega⟩ | exact ⟨by omega, by omega, by omega⟩ | exact ⟨rfl, Nat.le_of_ble_eq_true rfl⟩) ?_; conv => whnf) | (refine ⟨_, rfl, ?_⟩; conv => whnf)))
              refine CallVC.auto err_k ⟨.inr rfl, ?_⟩
              (conv => whnf)
              (repeat (first | (exact Out.same; conv => whnf) | (exact Out1.same; conv => whnf) | (apply QStepH.go; conv => whnf) | (refine Both.lit_true ?_; conv => whnf) | (refine Both.lit_false ?_; conv => whnf) | (apply QStep.go; conv => whnf) | (refine Need.mk (by first | omega | exact ⟨by omega, by omega⟩ | rfl | exact ⟨rfl, rfl⟩ | exact ⟨rfl, by omega, by omega⟩ | exact ⟨by omega, by omega, by omega⟩ | exact ⟨rfl, Nat.le_of_ble_eq_true rfl⟩) ?_; conv => whnf) | (refine ⟨_, rfl, ?_⟩; conv => whnf)))
              refine Both.dec (fun hx => ?_) (fun hx => ?_)
              · exfalso
                have q3 := q2 hx
                simp only [doV, doT, Call.rd, h0, if_true, if_false, reduceCtorEq, Int.reduceEq, forall_const, true_or, or_true] at q3
                simp [q3] at hb3
              (conv => whnf)
              (repeat (first | (exact Out.same; conv => whnf) | (exact Out1.same; conv => whnf) | (apply QStepH.go; conv => whnf) | (refine Both.lit_true ?_; conv => whnf) | (refine Both.lit_false ?_; conv => whnf) | (apply QStep.go; conv => whnf) | (refine Need.mk (by first | omega | exact ⟨by omega, by omega⟩ | rfl | exact ⟨rfl, rfl⟩ | exact ⟨rfl, by omega, by omega⟩ | exact ⟨by omega, by omega, by omega⟩ | exact ⟨rfl, Nat.le_of_ble_eq_true rfl⟩) ?_; conv => whnf) | (refine ⟨_, rfl, ?_⟩; conv => whnf)))
              refine ⟨(k + 1, _, _), q1, by show l.length - (k + 1) < l.length - k; omega, Weak.auto ?_⟩
              (repeat' ((conv => whnf); first | exact True.intro | (refine And.intro ?_ ?_)))
              all_goals first | rfl | exact congrArg (SV.int .i64) (by rw [wrap_i64 (by omega) (by omega)]; rfl) | exact .eq rfl
            · (conv => whnf)
              (repeat (first | (exact Out.same; conv => whnf) | (exact Out1.same; conv => whnf) | (apply QStepH.go; conv => whnf) | (refine Both.lit_true ?_; conv => whnf) | (refine Both.lit_false ?_; conv => whnf) | (apply QStep.go; conv => whnf) | (refine Need.mk (by first | omega | exact ⟨by omega, by omega⟩ | rfl | exact ⟨rfl, rfl⟩ | exact ⟨rfl, by omega, by omega⟩ | exact ⟨by omega, by omega, by omega⟩ | exact ⟨rfl, Nat.le_of_ble_eq_true rfl⟩) ?_; conv => whnf) | (refine ⟨_, rfl, ?_⟩; conv => whnf)))
              refine ⟨(k + 1, _, _), q1, by show l.length - (k + 1) < l.length - k; omega, Weak.auto ?_⟩
              (repeat' ((conv => whnf); first | exact True.intro | (refine And.intro ?_ ?_)))
              all_goals first | rfl | exact congrArg (SV.int .i64) (by rw [wrap_i64 (by omega) (by omega)]; rfl) | exact .eq rfl
          (conv => whnf)
          refine Both.dec (fun h1 => ?_) (fun h1 => ?_)
          · (conv => whnf)
            (refine DrawVC.any Γok (by kernel_rfl) (by kernel_rfl) (by kernel_rfl) ?_; conv => whnf)
            (repeat (first | (refine ⟨_, hr, ?_⟩; conv => whnf) | (exact Out.same; conv => whnf) | (exact Out1.same; conv => whnf) | (apply QStepH.go; conv => whnf) | (refine Both.lit_true ?_; conv => whnf) | (refine Both.lit_false ?_; conv => whnf) | (apply QStep.go; conv => whnf) | (refine Need.mk (by first | omega | exact ⟨by omega, by omega⟩ | rfl | exact ⟨rfl, rfl⟩ | exact ⟨rfl, by omega, by omega⟩ | exact ⟨by omega, by omega, by omega⟩ | exact ⟨rfl, Nat.le_of_ble_eq_true rfl⟩) ?_; conv => whnf) | (refine ⟨_, rfl, ?_⟩; conv => whnf) | (refine CallVC.auto rnum_k ?_; conv => whnf)))
            obtain ⟨q1, q2⟩ := hst (.inr (.inl h1))
            rw [show doE c.rd e t = rdE e 8 t by simp [doE, Call.rd, h1], show doS c.rd e t = rdS e 8 t by simp [doS, Call.rd, h1]] at q1
            rw [show doE c.rd e t = rdE e 8 t by simp [doE, Call.rd, h1]] at q2
            refine Both.cases (fun hb3 => ?_) (fun hb3 => ?_)
            · (conv => whnf)
              (repeat (first | (exact Out.same; conv => whnf) | (exact Out1.same; conv => whnf) | (apply QStepH.go; conv => whnf) | (refine Both.lit_true ?_; conv => whnf) | (refine Both.lit_false ?_; conv => whnf) | (apply QStep.go; conv => whnf) | (refine Need.mk (by first | omega | exact ⟨by omega, by omega⟩ | rfl | exact ⟨rfl, rfl⟩ | exact ⟨rfl, by omega, by omega⟩ | exact ⟨by omega, by omega, by omega⟩ | exact ⟨rfl, Nat.le_of_ble_eq_true rfl⟩) ?_; conv => whnf) | (refine ⟨_, rfl, ?_⟩; conv => whnf)))
              refine CallVC.auto err_k ⟨.inr rfl, ?_⟩
              (conv => whnf)
              (repeat (first | (exact Out.same; conv => whnf) | (exact Out1.same; conv => whnf) | (apply QStepH.go; conv => whnf) | (refine Both.lit_true ?_; conv => whnf) | (refine Both.lit_false ?_; conv => whnf) | (apply QStep.go; conv => whnf) | (refine Need.mk (by first | omega | exact ⟨by omega, by omega⟩ | rfl | exact ⟨rfl, rfl⟩ | exact ⟨rfl, by omega, by omega⟩ | exact ⟨by omega, by omega, by omega⟩ | exact ⟨rfl, Nat.le_of_ble_eq_true rfl⟩) ?_; conv => whnf) | (refine ⟨_, rfl, ?_⟩; conv => whnf)))
              refine Both.dec (fun hx => ?_) (fun hx => ?_)
              · exfalso
                have q3 := q2 hx
                simp only [doV, doT, Call.rd, h1, if_true, if_false, reduceCtorEq, Int.reduceEq, forall_const, true_or, or_true] at q3
                simp [q3] at hb3
              (conv => whnf)
              (repeat (first | (exact Out.same; conv => whnf) | (exact Out1.same; conv => whnf) | (apply QStepH.go; conv => whnf) | (refine Both.lit_true ?_; conv => whnf) | (refine Both.lit_false ?_; conv => whnf) | (apply QStep.go; conv => whnf) | (refine Need.mk (by first | omega | exact ⟨by omega, by omega⟩ | rfl | exact ⟨rfl, rfl⟩ | exact ⟨rfl, by omega, by omega⟩ | exact ⟨by omega, by omega, by omega⟩ | exact ⟨rfl, Nat.le_of_ble_eq_true rfl⟩) ?_; conv => whnf) | (refine ⟨_, rfl, ?_⟩; conv => whnf)))
              refine ⟨(k + 1, _, _), q1, by show l.length - (k + 1) < l.length - k; omega, Weak.auto ?_⟩
              (repeat' ((conv => whnf); first | exact True.intro | (refine And.intro ?_ ?_)))
              all_goals first | rfl | exact congrArg (SV.int .i64) (by rw [wrap_i64 (by omega) (by omega)]; rfl) | exact .eq rfl
            · (conv => whnf)
              (repeat (first | (exact Out.same; conv => whnf) | (exact Out1.same; conv => whnf) | (apply QStepH.go; conv => whnf) | (refine Both.lit_true ?_; conv => whnf) | (refine Both.lit_false ?_; conv => whnf) | (apply QStep.go; conv => whnf) | (refine Need.mk (by first | omega | exact ⟨by omega, by omega⟩ | rfl | exact ⟨rfl, rfl⟩ | exact ⟨rfl, by omega, by omega⟩ | exact ⟨by omega, by omega, by omega⟩ | exact ⟨rfl, Nat.le_of_ble_eq_true rfl⟩) ?_; conv => whnf) | (refine ⟨_, rfl, ?_⟩; conv => whnf)))
              refine ⟨(k + 1, _, _), q1, by show l.length - (k + 1) < l.length - k; omega, Weak.auto ?_⟩
              (repeat' ((conv => whnf); first | exact True.intro | (refine And.intro ?_ ?_)))
              all_goals first | rfl | exact congrArg (SV.int .i64) (by rw [wrap_i64 (by omega) (by omega)]; rfl) | exact .eq rfl
          (conv => whnf)
          refine Both.dec (fun h2 => ?_) (fun h2 => ?_)
          · (conv => whnf)
            (refine DrawVC.any Γok (by kernel_rfl) (by kernel_rfl) (by kernel_rfl) ?_; conv => whnf)
            (repeat (first | (refine ⟨_, hr, ?_⟩; conv => whnf) | (exact Out.same; conv => whnf) | (exact Out1.same; conv => whnf) | (apply QStepH.go; conv => whnf) | (refine Both.lit_true ?_; conv => whnf) | (refine Both.lit_false ?_; conv => whnf) | (apply QStep.go; conv => whnf) | (refine Need.mk (by first | omega | exact ⟨by omega, by omega⟩ | rfl | exact ⟨rfl, rfl⟩ | exact ⟨rfl, by omega, by omega⟩ | exact ⟨by omega, by omega, by omega⟩ | exact ⟨rfl, Nat.le_of_ble_eq_true rfl⟩) ?_; conv => whnf) | (refine ⟨_, rfl, ?_⟩; conv => whnf) | (refine CallVC.auto rtext_k ?_; conv => whnf)))
            obtain ⟨q1, q2⟩ := hst (.inr (.inr (.inl h2)))
            rw [show doE c.rd e t = rdE (rdE e 2 t) (rdV e 2 t) (rdS e 2 t) by simp [doE, Call.rd, h2], show doS c.rd e t = rdS (rdE e 2 t) (rdV e 2 t) (rdS e 2 t) by simp [doS, Call.rd, h2]] at q1
            rw [show doE c.rd e t = rdE (rdE e 2 t) (rdV e 2 t) (rdS e 2 t) by simp [doE, Call.rd, h2]] at q2
            refine Both.cases (fun hb3 => ?_) (fun hb3 => ?_)
            · (conv => whnf)
              (repeat (first | (exact Out.same; conv => whnf) | (exact Out1.same; conv => whnf) | (apply QStepH.go; conv => whnf) | (refine Both.lit_true ?_; conv => whnf) | (refine Both.lit_false ?_; conv => whnf) | (apply QStep.go; conv => whnf) | (refine Need.mk (by first | omega | exact ⟨by omega, by omega⟩ | rfl | exact ⟨rfl, rfl⟩ | exact ⟨rfl, by omega, by omega⟩ | exact ⟨by omega, by omega, by omega⟩ | exact ⟨rfl, Nat.le_of_ble_eq_true rfl⟩) ?_; conv => whnf) | (refine ⟨_, rfl, ?_⟩; conv => whnf)))
              refine CallVC.auto err_k ⟨.inr rfl, ?_⟩
              (conv => whnf)
              (repeat (first | (exact Out.same; conv => whnf) | (exact Out1.same; conv => whnf) | (apply QStepH.go; conv => whnf) | (refine Both.lit_true ?_; conv => whnf) | (refine Both.lit_false ?_; conv => whnf) | (apply QStep.go; conv => whnf) | (refine Need.mk (by first | omega | exact ⟨by omega, by omega⟩ | rfl | exact ⟨rfl, rfl⟩ | exact ⟨rfl, by omega, by omega⟩ | exact ⟨by omega, by omega, by omega⟩ | exact ⟨rfl, Nat.le_of_ble_eq_true rfl⟩) ?_; conv => whnf) | (refine ⟨_, rfl, ?_⟩; conv => whnf)))
              refine Both.dec (fun hx => ?_) (fun hx => ?_)
              · exfalso
                have q3 := q2 hx
                simp only [doV, doT, Call.rd, h2, if_true, if_false, reduceCtorEq, Int.reduceEq, forall_const, true_or, or_true] at q3
                simp [q3] at hb3
              (conv => whnf)
              (repeat (first | (exact Out.same; conv => whnf) | (exact Out1.same; conv => whnf) | (apply QStepH.go; conv => whnf) | (refine Both.lit_true ?_; conv => whnf) | (refine Both.lit_false ?_; conv => whnf) | (apply QStep.go; conv => whnf) | (refine Need.mk (by first | omega | exact ⟨by omega, by omega⟩ | rfl | exact ⟨rfl, rfl⟩ | exact ⟨rfl, by omega, by omega⟩ | exact ⟨by omega, by omega, by omega⟩ | exact ⟨rfl, Nat.le_of_ble_eq_true rfl⟩) ?_; conv => whnf) | (refine ⟨_, rfl, ?_⟩; conv => whnf)))
              refine ⟨(k + 1, _, _), q1, by show l.length - (k + 1) < l.length - k; omega, Weak.auto ?_⟩
              (repeat' ((conv => whnf); first | exact True.intro | (refine And.intro ?_ ?_)))
              all_goals first | rfl | exact congrArg (SV.int .i64) (by rw [wrap_i64 (by omega) (by omega)]; rfl) | exact .eq rfl
            · (conv => whnf)
              (repeat (first | (exact Out.same; conv => whnf) | (exact Out1.same; conv => whnf) | (apply QStepH.go; conv => whnf) | (refine Both.lit_true ?_; conv => whnf) | (refine Both.lit_false ?_; conv => whnf) | (apply QStep.go; conv => whnf) | (refine Need.mk (by first | omega | exact ⟨by omega, by omega⟩ | rfl | exact ⟨rfl, rfl⟩ | exact ⟨rfl, by omega, by omega⟩ | exact ⟨by omega, by omega, by omega⟩ | exact ⟨rfl, Nat.le_of_ble_eq_true rfl⟩) ?_; conv => whnf) | (refine ⟨_, rfl, ?_⟩; conv => whnf)))
              refine ⟨(k + 1, _, _), q1, by show l.length - (k + 1) < l.length - k; omega, Weak.auto ?_⟩
              (repeat' ((conv => whnf); first | exact True.intro | (refine And.intro ?_ ?_)))
              all_goals first | rfl | exact congrArg (SV.int .i64) (by rw [wrap_i64 (by omega) (by omega)]; rfl) | exact .eq rfl
          (conv => whnf)
          refine Both.dec (fun h3 => ?_) (fun h3 => ?_)
          · (conv => whnf)
            (refine DrawVC.any Γok (by kernel_rfl) (by kernel_rfl) (by kernel_rfl) ?_; conv => whnf)
            (repeat (first | (refine CallVC.auto rraw_k ⟨by omega, ?_⟩; conv => whnf) | (refine ⟨_, hr, ?_⟩; conv => whnf) | (exact Out.same; conv => whnf) | (exact Out1.same; conv => whnf) | (apply QStepH.go; conv => whnf) | (refine Both.lit_true ?_; conv => whnf) | (refine Both.lit_false ?_; conv => whnf) | (apply QStep.go; conv => whnf) | (refine Need.mk (by first | omega | exact ⟨by omega, by omega⟩ | rfl | exact ⟨rfl, rfl⟩ | exact ⟨rfl, by omega, by omega⟩ | exact ⟨by omega, by omega, by omega⟩ | exact ⟨rfl, Nat.le_of_ble_eq_true rfl⟩) ?_; conv => whnf) | (refine ⟨_, rfl, ?_⟩; conv => whnf)))
            obtain ⟨q1, q2⟩ := hst (.inr (.inr (.inr h3)))
            rw [show doE c.rd e t = rdE e c.s.length t by simp [doE, Call.rd, h3], show doS c.rd e t = rdS e c.s.length t by simp [doS, Call.rd, h3]] at q1
            rw [show doE c.rd e t = rdE e c.s.length t by simp [doE, Call.rd, h3]] at q2
            refine Both.cases (fun hb3 => ?_) (fun hb3 => ?_)
            · (conv => whnf)
              (repeat (first | (exact Out.same; conv => whnf) | (exact Out1.same; conv => whnf) | (apply QStepH.go; conv => whnf) | (refine Both.lit_true ?_; conv => whnf) | (refine Both.lit_false ?_; conv => whnf) | (apply QStep.go; conv => whnf) | (refine Need.mk (by first | omega | exact ⟨by omega, by omega⟩ | rfl | exact ⟨rfl, rfl⟩ | exact ⟨rfl, by omega, by omega⟩ | exact ⟨by omega, by omega, by omega⟩ | exact ⟨rfl, Nat.le_of_ble_eq_true rfl⟩) ?_; conv => whnf) | (refine ⟨_, rfl, ?_⟩; conv => whnf)))
              refine CallVC.auto err_k ⟨.inr rfl, ?_⟩
              (conv => whnf)
              (repeat (first | (exact Out.same; conv => whnf) | (exact Out1.same; conv => whnf) | (apply QStepH.go; conv => whnf) | (refine Both.lit_true ?_; conv => whnf) | (refine Both.lit_false ?_; conv => whnf) | (apply QStep.go; conv => whnf) | (refine Need.mk (by first | omega | exact ⟨by omega, by omega⟩ | rfl | exact ⟨rfl, rfl⟩ | exact ⟨rfl, by omega, by omega⟩ | exact ⟨by omega, by omega, by omega⟩ | exact ⟨rfl, Nat.le_of_ble_eq_true rfl⟩) ?_; conv => whnf) | (refine ⟨_, rfl, ?_⟩; conv => whnf)))
              refine Both.dec (fun hx => ?_) (fun hx => ?_)
              · exfalso
                have q3 := q2 hx
                simp only [doV, doT, Call.rd, h3, if_true, if_false, reduceCtorEq, Int.reduceEq, forall_const, true_or, or_true] at q3
                simp [q3] at hb3
              (conv => whnf)
              (repeat (first | (exact Out.same; conv => whnf) | (exact Out1.same; conv => whnf) | (apply QStepH.go; conv => whnf) | (refine Both.lit_true ?_; conv => whnf) | (refine Both.lit_false ?_; conv => whnf) | (apply QStep.go; conv => whnf) | (refine Need.mk (by first | omega | exact ⟨by omega, by omega⟩ | rfl | exact ⟨rfl, rfl⟩ | exact ⟨rfl, by omega, by omega⟩ | exact ⟨by omega, by omega, by omega⟩ | exact ⟨rfl, Nat.le_of_ble_eq_true rfl⟩) ?_; conv => whnf) | (refine ⟨_, rfl, ?_⟩; conv => whnf)))
              refine ⟨(k + 1, _, _), q1, by show l.length - (k + 1) < l.length - k; omega, Weak.auto ?_⟩
              (repeat' ((conv => whnf); first | exact True.intro | (refine And.intro ?_ ?_)))
              all_goals first | rfl | exact congrArg (SV.int .i64) (by rw [wrap_i64 (by omega) (by omega)]; rfl) | exact .eq rfl
            · (conv => whnf)
              (repeat (first | (exact Out.same; conv => whnf) | (exact Out1.same; conv => whnf) | (apply QStepH.go; conv => whnf) | (refine Both.lit_true ?_; conv => whnf) | (refine Both.lit_false ?_; conv => whnf) | (apply QStep.go; conv => whnf) | (refine Need.mk (by first | omega | exact ⟨by omega, by omega⟩ | rfl | exact ⟨rfl, rfl⟩ | exact ⟨rfl, by omega, by omega⟩ | exact ⟨by omega, by omega, by omega⟩ | exact ⟨rfl, Nat.le_of_ble_eq_true rfl⟩) ?_; conv => whnf) | (refine ⟨_, rfl, ?_⟩; conv => whnf)))
              refine ⟨(k + 1, _, _), q1, by show l.length - (k + 1) < l.length - k; omega, Weak.auto ?_⟩
              (repeat' ((conv => whnf); first | exact True.intro | (refine And.intro ?_ ?_)))
              all_goals first | rfl | exact congrArg (SV.int .i64) (by rw [wrap_i64 (by omega) (by omega)]; rfl) | exact .eq rfl
          (conv => whnf)
          (repeat (first | (exact Out.same; conv => whnf) | (exact Out1.same; conv => whnf) | (apply QStepH.go; conv => whnf) | (refine Both.lit_true ?_; conv => whnf) | (refine Both.lit_false ?_; conv => whnf) | (apply QStep.go; conv => whnf) | (refine Need.mk (by first | omega | exact ⟨by omega, by omega⟩ | rfl | exact ⟨rfl, rfl⟩ | exact ⟨rfl, by omega, by omega⟩ | exact ⟨by omega, by omega, by omega⟩ | exact ⟨rfl, Nat.le_of_ble_eq_true rfl⟩) ?_; conv => whnf) | (refine ⟨_, rfl, ?_⟩; conv => whnf)))
          refine ⟨(k + 1, e, t), hsk h0 h1 h2 h3, by show l.length - (k + 1) < l.length - k; omega, Weak.auto ?_⟩
          (repeat' ((conv => whnf); first | exact True.intro | (refine And.intro ?_ ?_)))
          all_goals first | rfl | exact congrArg (SV.int .i64) (by rw [wrap_i64 (by omega) (by omega)]; rfl) | exact .eq rfl

        · obtain rfl : k = l.length := by have : ¬ (k : Int) < l.length := hge; omega
          (conv => whnf)
          have hfin : (e = 0 ∧ t = [] ∧ s.length = s.length) ∨ (e = 6 ∧ s.length < s.length) := by
            obtain ⟨_, _, h3⟩ := hI
            rw [← hso] at h3
            rcases h3 with ⟨h4, p, h5, h6, h7⟩ | h3
            · refine .inl ⟨h4, by rw [h7]; simp [outW], ?_⟩
              simp [outW] at h6
              omega
            · exact .inr h3
          rcases hfin with ⟨rfl, rfl, hM⟩ | ⟨rfl, hM⟩
          · have hN : rdEnd 0 [] = 0 := rfl
            try subst hM
            (repeat (first | (exact Out.same; conv => whnf) | (exact Out1.same; conv => whnf) | (apply QStepH.go; conv => whnf) | (refine Both.lit_true ?_; conv => whnf) | (refine Both.lit_false ?_; conv => whnf) | (apply QStep.go; conv => whnf) | (refine Need.mk (by first | omega | exact ⟨by omega, by omega⟩ | rfl | exact ⟨rfl, rfl⟩ | exact ⟨rfl, by omega, by omega⟩ | exact ⟨by omega, by omega, by omega⟩ | exact ⟨rfl, Nat.le_of_ble_eq_true rfl⟩) ?_; conv => whnf) | (refine ⟨_, rfl, ?_⟩; conv => whnf) | (refine CallVC.auto end_k ?_; conv => whnf) | (refine Both.of_false ?_ ?_; (focus (first | rfl | (simp [hN] <;> fail))); conv => whnf) | (refine Both.of_true ?_ ?_; (focus (first | rfl | (simp [hN] <;> fail))); conv => whnf)))
            refine ⟨_, _, WeakV.drop (congrArg SV.bool ?_), h⟩
            simp [hN]
          · first
              | exact absurd hM (Nat.lt_irrefl _)
              | (have hN : rdEnd 6 t = 6 := rfl
                 have hM2 : ¬ ((s.length : Nat) : Int) = (s.length : Int) := by omega
                 (repeat (first | (exact Out.same; conv => whnf) | (exact Out1.same; conv => whnf) | (apply QStepH.go; conv => whnf) | (refine Both.lit_true ?_; conv => whnf) | (refine Both.lit_false ?_; conv => whnf) | (apply QStep.go; conv => whnf) | (refine Need.mk (by first | omega | exact ⟨by omega, by omega⟩ | rfl | exact ⟨rfl, rfl⟩ | exact ⟨rfl, by omega, by omega⟩ | exact ⟨by omega, by omega, by omega⟩ | exact ⟨rfl, Nat.le_of_ble_eq_true rfl⟩) ?_; conv => whnf) | (refine ⟨_, rfl, ?_⟩; conv => whnf) | (refine CallVC.auto end_k ?_; conv => whnf) | (refine Both.of_false ?_ ?_; (focus (first | rfl | (simp [hM2, hN] <;> fail))); conv => whnf) | (refine Both.of_true ?_ ?_; (focus (first | rfl | (simp [hM2, hN] <;> fail))); conv => whnf)))
                 refine ⟨_, _, WeakV.drop (congrArg SV.bool ?_), h⟩
                 simp [hM2, hN])
    · (conv => whnf)
      obtain ⟨m, rfl⟩ : ∃ m : Nat, cut = m := ⟨cut.toNat, by omega⟩
      (repeat (first | (exact Out.same; conv => whnf) | (exact Out1.same; conv => whnf) | (apply QStepH.go; conv => whnf) | (refine Both.lit_true ?_; conv => whnf) | (refine Both.lit_false ?_; conv => whnf) | (apply QStep.go; conv => whnf) | (refine Need.mk (by first | omega | exact ⟨by omega, by omega⟩ | rfl | exact ⟨rfl, rfl⟩ | exact ⟨rfl, by omega, by omega⟩ | exact ⟨by omega, by omega, by omega⟩ | exact ⟨rfl, Nat.le_of_ble_eq_true rfl⟩) ?_; conv => whnf) | (refine ⟨_, rfl, ?_⟩; conv => whnf)))

      (conv => whnf)
      (repeat (first | (exact Out.same; conv => whnf) | (exact Out1.same; conv => whnf) | (apply QStepH.go; conv => whnf) | (refine Both.lit_true ?_; conv => whnf) | (refine Both.lit_false ?_; conv => whnf) | (apply QStep.go; conv => whnf) | (refine Need.mk (by first | omega | exact ⟨by omega, by omega⟩ | rfl | exact ⟨rfl, rfl⟩ | exact ⟨rfl, by omega, by omega⟩ | exact ⟨by omega, by omega, by omega⟩ | exact ⟨rfl, Nat.le_of_ble_eq_true rfl⟩) ?_; conv => whnf) | (refine ⟨_, rfl, ?_⟩; conv => whnf) | (refine CallVC.auto rnew_k ?_; conv => whnf)))
      refine loop_rule (fun x : Nat × Int × List UInt8 => match x with
        | (k, e, t) => ⟨[.sl 4 l.length (l.flatMap Call.en) false, .int .i64 (m : Int), .any, .any, .any, .any, .str s, .any, .ptr 0 0, .int .i64 (k : Int), .any, .any, .any, .any, .any, .any, .any, .any, .any, .any, .any, .any, .any, .any, .any, .any, .any, .any, .any, .any, .any, .any, .any, .any, .any, .any, .any, .any, .any, .any, .any, .any, .any, .any, .any, .any, .any, .any, .any, .any, .any, .any, .any, .any, .any, .any, .any, .any, .any, .any, .any, .any, .any, .any, .any, .any, .any, .any, .any, .any, .any, .any, .any, .any, .any, .any, .any, .any, .any, .any, .any, .any, .any, .any, .any, .any, .any, .any, .any, .any, .any, .any, .any, .any, .any, .any, .any, .any, .any, .any, .any, .any, .any, .any, .any, .any, .any, .any, .any, .any, .any, .any, .any, .any, .any, .any, .any, .any, .any, .any, .any, .any, .any, .any, .any, .any, .any], rd e t⟩) (fun x => BackI l (m) x.1 x.2.1 x.2.2) (fun x => l.length - x.1) (0, 0, List.drop (0 : Int).toNat (List.take (m : Int).toNat s)) ⟨by simp, by simp; omega, .inl ⟨rfl, 0, by omega, by simp, by simp [hso]⟩⟩ (Weak.auto ?_) ?_
      · (repeat' ((conv => whnf); first | exact True.intro | (refine And.intro ?_ ?_)))
        all_goals first | rfl | exact .eq rfl | done
      · rintro ⟨k, e, t⟩ hI
        have hI : BackI l (m) k e t := hI
        have hk := hI.1
        have htl := hI.2.1
        (refine sx_sound Γok _ ?_; conv => whnf)
        refine Both.dec (fun hlt => ?_) (fun hge => ?_)
        · have hkl : k < l.length := by have : (k : Int) < l.length := hlt; omega
          (conv => whnf)
          refine Need.mk ⟨rfl, by omega, by omega⟩ ?_
          (conv => whnf)
          refine ⟨_, calls_row l k hkl, ?_⟩
          (conv => whnf)
          (refine ⟨_, rfl, ?_⟩; conv => whnf)
          have hst := back_step hI hkl hgood hss
          have hsk := back_skip hI hkl
          have hgk := hgood _ (List.getElem_mem hkl)
          have hok1 := hok _ (List.getElem_mem hkl)
          generalize hcc : l[k] = c at hst hsk hgk hok1 ⊢
          have hr := calls_row l k hkl
          rw [hcc] at hr
          refine Both.dec (fun h0 => ?_) (fun h0 => ?_)
          · (conv => whnf)
            (refine DrawVC.any Γok (by kernel_rfl) (by kernel_rfl) (by kernel_rfl) ?_; conv => whnf)
            (repeat (first | (refine ⟨_, hr, ?_⟩; conv => whnf) | (exact Out.same; conv => whnf) | (exact Out1.same; conv => whnf) | (apply QStepH.go; conv => whnf) | (refine Both.lit_true ?_; conv => whnf) | (refine Both.lit_false ?_; conv => whnf) | (apply QStep.go; conv => whnf) | (refine Need.mk (by first | omega | exact ⟨by omega, by omega⟩ | rfl | exact ⟨rfl, rfl⟩ | exact ⟨rfl, by omega, by omega⟩ | exact ⟨by omega, by omega, by omega⟩ | exact ⟨rfl, Nat.le_of_ble_eq_true rfl⟩) ?_; conv => whnf) | (refine ⟨_, rfl, ?_⟩; conv => whnf) | (refine CallVC.auto rbyte_k ?_; conv => whnf)))
            obtain ⟨q1, q2⟩ := hst (.inl h0)
            rw [show doE c.rd e t = rdE e 1 t by simp [doE, Call.rd, h0], show doS c.rd e t = rdS e 1 t by simp [doS, Call.rd, h0]] at q1
            rw [show doE c.rd e t = rdE e 1 t by simp [doE, Call.rd, h0]] at q2
            refine Both.cases (fun hb3 => ?_) (fun hb3 => ?_)
            · (conv => whnf)
              (repeat (first | (exact Out.same; conv => whnf) | (exact Out1.same; conv => whnf) | (apply QStepH.go; conv => whnf) | (refine Both.lit_true ?_; conv => whnf) | (refine Both.lit_false ?_; conv => whnf) | (apply QStep.go; conv => whnf) | (refine Need.mk (by first | omega | exact ⟨by omega, by omega⟩ | rfl | exact ⟨rfl, rfl⟩ | exact ⟨rfl, by omega, by omega⟩ | exact ⟨by omega, by omega, by omega⟩ | exact ⟨rfl, Nat.le_of_ble_eq_true rfl⟩) ?_; conv => whnf) | (refine ⟨_, rfl, ?_⟩; conv => whnf)))
              refine CallVC.auto err_k ⟨.inr rfl, ?_⟩
              (conv => whnf)
              (repeat (first | (exact Out.same; conv => whnf) | (exact Out1.same; conv => whnf) | (apply QStepH.go; conv => whnf) | (refine Both.lit_true ?_; conv => whnf) | (refine Both.lit_false ?_; conv => whnf) | (apply QStep.go; conv => whnf) | (refine Need.mk (by first | omega | exact ⟨by omega, by omega⟩ | rfl | exact ⟨rfl, rfl⟩ | exact ⟨rfl, by omega, by omega⟩ | exact ⟨by omega, by omega, by omega⟩ | exact ⟨rfl, Nat.le_of_ble_eq_true rfl⟩) ?_; conv => whnf) | (refine ⟨_, rfl, ?_⟩; conv => whnf)))
              refine Both.dec (fun hx => ?_) (fun hx => ?_)
              · exfalso
                have q3 := q2 hx
                simp only [doV, doT, Call.rd, h0, if_true, if_false, reduceCtorEq, Int.reduceEq, forall_const, true_or, or_true] at q3
                simp [q3] at hb3
              (conv => whnf)
              (repeat (first | (exact Out.same; conv => whnf) | (exact Out1.same; conv => whnf) | (apply QStepH.go; conv => whnf) | (refine Both.lit_true ?_; conv => whnf) | (refine Both.lit_false ?_; conv => whnf) | (apply QStep.go; conv => whnf) | (refine Need.mk (by first | omega | exact ⟨by omega, by omega⟩ | rfl | exact ⟨rfl, rfl⟩ | exact ⟨rfl, by omega, by omega⟩ | exact ⟨by omega, by omega, by omega⟩ | exact ⟨rfl, Nat.le_of_ble_eq_true rfl⟩) ?_; conv => whnf) | (refine ⟨_, rfl, ?_⟩; conv => whnf)))
              refine ⟨(k + 1, _, _), q1, by show l.length - (k + 1) < l.length - k; omega, Weak.auto ?_⟩
              (repeat' ((conv => whnf); first | exact True.intro | (refine And.intro ?_ ?_)))
              all_goals first | rfl | exact congrArg (SV.int .i64) (by rw [wrap_i64 (by omega) (by omega)]; rfl) | exact .eq rfl
            · (conv => whnf)
              (repeat (first | (exact Out.same; conv => whnf) | (exact Out1.same; conv => whnf) | (apply QStepH.go; conv => whnf) | (refine Both.lit_true ?_; conv => whnf) | (refine Both.lit_false ?_; conv => whnf) | (apply QStep.go; conv => whnf) | (refine Need.mk (by first | omega | exact ⟨by omega, by omega⟩ | rfl | exact ⟨rfl, rfl⟩ | exact ⟨rfl, by omega, by omega⟩ | exact ⟨by omega, by omega, by omega⟩ | exact ⟨rfl, Nat.le_of_ble_eq_true rfl⟩) ?_; conv => whnf) | (refine ⟨_, rfl, ?_⟩; conv => whnf)))
              refine ⟨(k + 1, _, _), q1, by show l.length - (k + 1) < l.length - k; omega, Weak.auto ?_⟩
              (repeat' ((conv => whnf); first | exact True.intro | (refine And.intro ?_ ?_)))
              all_goals first | rfl | exact congrArg (SV.int .i64) (by rw [wrap_i64 (by omega) (by omega)]; rfl) | exact .eq rfl
          (conv => whnf)
          refine Both.dec (fun h1 => ?_) (fun h1 => ?_)
          · (conv => whnf)
            (refine DrawVC.any Γok (by kernel_rfl) (by kernel_rfl) (by kernel_rfl) ?_; conv => whnf)
            (repeat (first | (refine ⟨_, hr, ?_⟩; conv => whnf) | (exact Out.same; conv => whnf) | (exact Out1.same; conv => whnf) | (apply QStepH.go; conv => whnf) | (refine Both.lit_true ?_; conv => whnf) | (refine Both.lit_false ?_; conv => whnf) | (apply QStep.go; conv => whnf) | (refine Need.mk (by first | omega | exact ⟨by omega, by omega⟩ | rfl | exact ⟨rfl, rfl⟩ | exact ⟨rfl, by omega, by omega⟩ | exact ⟨by omega, by omega, by omega⟩ | exact ⟨rfl, Nat.le_of_ble_eq_true rfl⟩) ?_; conv => whnf) | (refine ⟨_, rfl, ?_⟩; conv => whnf) | (refine CallVC.auto rnum_k ?_; conv => whnf)))
            obtain ⟨q1, q2⟩ := hst (.inr (.inl h1))
            rw [show doE c.rd e t = rdE e 8 t by simp [doE, Call.rd, h1], show doS c.rd e t = rdS e 8 t by simp [doS, Call.rd, h1]] at q1
            rw [show doE c.rd e t = rdE e 8 t by simp [doE, Call.rd, h1]] at q2
            refine Both.cases (fun hb3 => ?_) (fun hb3 => ?_)
            · (conv => whnf)
              (repeat (first | (exact Out.same; conv => whnf) | (exact Out1.same; conv => whnf) | (apply QStepH.go; conv => whnf) | (refine Both.lit_true ?_; conv => whnf) | (refine Both.lit_false ?_; conv => whnf) | (apply QStep.go; conv => whnf) | (refine Need.mk (by first | omega | exact ⟨by omega, by omega⟩ | rfl | exact ⟨rfl, rfl⟩ | exact ⟨rfl, by omega, by omega⟩ | exact ⟨by omega, by omega, by omega⟩ | exact ⟨rfl, Nat.le_of_ble_eq_true rfl⟩) ?_; conv => whnf) | (refine ⟨_, rfl, ?_⟩; conv => whnf)))
              refine CallVC.auto err_k ⟨.inr rfl, ?_⟩
              (conv => whnf)
              (repeat (first | (exact Out.same; conv => whnf) | (exact Out1.same; conv => whnf) | (apply QStepH.go; conv => whnf) | (refine Both.lit_true ?_; conv => whnf) | (refine Both.lit_false ?_; conv => whnf) | (apply QStep.go; conv => whnf) | (refine Need.mk (by first | omega | exact ⟨by omega, by omega⟩ | rfl | exact ⟨rfl, rfl⟩ | exact ⟨rfl, by omega, by omega⟩ | exact ⟨by omega, by omega, by omega⟩ | exact ⟨rfl, Nat.le_of_ble_eq_true rfl⟩) ?_; conv => whnf) | (refine ⟨_, rfl, ?_⟩; conv => whnf)))
              refine Both.dec (fun hx => ?_) (fun hx => ?_)
              · exfalso
                have q3 := q2 hx
                simp only [doV, doT, Call.rd, h1, if_true, if_false, reduceCtorEq, Int.reduceEq, forall_const, true_or, or_true] at q3
                simp [q3] at hb3
              (conv => whnf)
              (repeat (first | (exact Out.same; conv => whnf) | (exact Out1.same; conv => whnf) | (apply QStepH.go; conv => whnf) | (refine Both.lit_true ?_; conv => whnf) | (refine Both.lit_false ?_; conv => whnf) | (apply QStep.go; conv => whnf) | (refine Need.mk (by first | omega | exact ⟨by omega, by omega⟩ | rfl | exact ⟨rfl, rfl⟩ | exact ⟨rfl, by omega, by omega⟩ | exact ⟨by omega, by omega, by omega⟩ | exact ⟨rfl, Nat.le_of_ble_eq_true rfl⟩) ?_; conv => whnf) | (refine ⟨_, rfl, ?_⟩; conv => whnf)))
              refine ⟨(k + 1, _, _), q1, by show l.length - (k + 1) < l.length - k; omega, Weak.auto ?_⟩
              (repeat' ((conv => whnf); first | exact True.intro | (refine And.intro ?_ ?_)))
              all_goals first | rfl | exact congrArg (SV.int .i64) (by rw [wrap_i64 (by omega) (by omega)]; rfl) | exact .eq rfl
            · (conv => whnf)
              (repeat (first | (exact Out.same; conv => whnf) | (exact Out1.same; conv => whnf) | (apply QStepH.go; conv => whnf) | (refine Both.lit_true ?_; conv => whnf) | (refine Both.lit_false ?_; conv => whnf) | (apply QStep.go; conv => whnf) | (refine Need.mk (by first | omega | exact ⟨by omega, by omega⟩ | rfl | exact ⟨rfl, rfl⟩ | exact ⟨rfl, by omega, by omega⟩ | exact ⟨by omega, by omega, by omega⟩ | exact ⟨rfl, Nat.le_of_ble_eq_true rfl⟩) ?_; conv => whnf) | (refine ⟨_, rfl, ?_⟩; conv => whnf)))
              refine ⟨(k + 1, _, _), q1, by show l.length - (k + 1) < l.length - k; omega, Weak.auto ?_⟩
              (repeat' ((conv => whnf); first | exact True.intro | (refine And.intro ?_ ?_)))
              all_goals first | rfl | exact congrArg (SV.int .i64) (by rw [wrap_i64 (by omega) (by omega)]; rfl) | exact .eq rfl
          (conv => whnf)
          refine Both.dec (fun h2 => ?_) (fun h2 => ?_)
          · (conv => whnf)
            (refine DrawVC.any Γok (by kernel_rfl) (by kernel_rfl) (by kernel_rfl) ?_; conv => whnf)
            (repeat (first | (refine ⟨_, hr, ?_⟩; conv => whnf) | (exact Out.same; conv => whnf) | (exact Out1.same; conv => whnf) | (apply QStepH.go; conv => whnf) | (refine Both.lit_true ?_; conv => whnf) | (refine Both.lit_false ?_; conv => whnf) | (apply QStep.go; conv => whnf) | (refine Need.mk (by first | omega | exact ⟨by omega, by omega⟩ | rfl | exact ⟨rfl, rfl⟩ | exact ⟨rfl, by omega, by omega⟩ | exact ⟨by omega, by omega, by omega⟩ | exact ⟨rfl, Nat.le_of_ble_eq_true rfl⟩) ?_; conv => whnf) | (refine ⟨_, rfl, ?_⟩; conv => whnf) | (refine CallVC.auto rtext_k ?_; conv => whnf)))
            obtain ⟨q1, q2⟩ := hst (.inr (.inr (.inl h2)))
            rw [show doE c.rd e t = rdE (rdE e 2 t) (rdV e 2 t) (rdS e 2 t) by simp [doE, Call.rd, h2], show doS c.rd e t = rdS (rdE e 2 t) (rdV e 2 t) (rdS e 2 t) by simp [doS, Call.rd, h2]] at q1
            rw [show doE c.rd e t = rdE (rdE e 2 t) (rdV e 2 t) (rdS e 2 t) by simp [doE, Call.rd, h2]] at q2
            refine Both.cases (fun hb3 => ?_) (fun hb3 => ?_)
            · (conv => whnf)
              (repeat (first | (exact Out.same; conv => whnf) | (exact Out1.same; conv => whnf) | (apply QStepH.go; conv => whnf) | (refine Both.lit_true ?_; conv => whnf) | (refine Both.lit_false ?_; conv => whnf) | (apply QStep.go; conv => whnf) | (refine Need.mk (by first | omega | exact ⟨by omega, by omega⟩ | rfl | exact ⟨rfl, rfl⟩ | exact ⟨rfl, by omega, by omega⟩ | exact ⟨by omega, by omega, by omega⟩ | exact ⟨rfl, Nat.le_of_ble_eq_true rfl⟩) ?_; conv => whnf) | (refine ⟨_, rfl, ?_⟩; conv => whnf)))
              refine CallVC.auto err_k ⟨.inr rfl, ?_⟩
              (conv => whnf)
              (repeat (first | (exact Out.same; conv => whnf) | (exact Out1.same; conv => whnf) | (apply QStepH.go; conv => whnf) | (refine Both.lit_true ?_; conv => whnf) | (refine Both.lit_false ?_; conv => whnf) | (apply QStep.go; conv => whnf) | (refine Need.mk (by first | omega | exact ⟨by omega, by omega⟩ | rfl | exact ⟨rfl, rfl⟩ | exact ⟨rfl, by omega, by omega⟩ | exact ⟨by omega, by omega, by omega⟩ | exact ⟨rfl, Nat.le_of_ble_eq_true rfl⟩) ?_; conv => whnf) | (refine ⟨_, rfl, ?_⟩; conv => whnf)))
              refine Both.dec (fun hx => ?_) (fun hx => ?_)
              · exfalso
                have q3 := q2 hx
                simp only [doV, doT, Call.rd, h2, if_true, if_false, reduceCtorEq, Int.reduceEq, forall_const, true_or, or_true] at q3
                simp [q3] at hb3
              (conv => whnf)
              (repeat (first | (exact Out.same; conv => whnf) | (exact Out1.same; conv => whnf) | (apply QStepH.go; conv => whnf) | (refine Both.lit_true ?_; conv => whnf) | (refine Both.lit_false ?_; conv => whnf) | (apply QStep.go; conv => whnf) | (refine Need.mk (by first | omega | exact ⟨by omega, by omega⟩ | rfl | exact ⟨rfl, rfl⟩ | exact ⟨rfl, by omega, by omega⟩ | exact ⟨by omega, by omega, by omega⟩ | exact ⟨rfl, Nat.le_of_ble_eq_true rfl⟩) ?_; conv => whnf) | (refine ⟨_, rfl, ?_⟩; conv => whnf)))
              refine ⟨(k + 1, _, _), q1, by show l.length - (k + 1) < l.length - k; omega, Weak.auto ?_⟩
              (repeat' ((conv => whnf); first | exact True.intro | (refine And.intro ?_ ?_)))
              all_goals first | rfl | exact congrArg (SV.int .i64) (by rw [wrap_i64 (by omega) (by omega)]; rfl) | exact .eq rfl
            · (conv => whnf)
              (repeat (first | (exact Out.same; conv => whnf) | (exact Out1.same; conv => whnf) | (apply QStepH.go; conv => whnf) | (refine Both.lit_true ?_; conv => whnf) | (refine Both.lit_false ?_; conv => whnf) | (apply QStep.go; conv => whnf) | (refine Need.mk (by first | omega | exact ⟨by omega, by omega⟩ | rfl | exact ⟨rfl, rfl⟩ | exact ⟨rfl, by omega, by omega⟩ | exact ⟨by omega, by omega, by omega⟩ | exact ⟨rfl, Nat.le_of_ble_eq_true rfl⟩) ?_; conv => whnf) | (refine ⟨_, rfl, ?_⟩; conv => whnf)))
              refine ⟨(k + 1, _, _), q1, by show l.length - (k + 1) < l.length - k; omega, Weak.auto ?_⟩
              (repeat' ((conv => whnf); first | exact True.intro | (refine And.intro ?_ ?_)))
              all_goals first | rfl | exact congrArg (SV.int .i64) (by rw [wrap_i64 (by omega) (by omega)]; rfl) | exact .eq rfl
          (conv => whnf)
          refine Both.dec (fun h3 => ?_) (fun h3 => ?_)
          · (conv => whnf)
            (refine DrawVC.any Γok (by kernel_rfl) (by kernel_rfl) (by kernel_rfl) ?_; conv => whnf)
            (repeat (first | (refine CallVC.auto rraw_k ⟨by omega, ?_⟩; conv => whnf) | (refine ⟨_, hr, ?_⟩; conv => whnf) | (exact Out.same; conv => whnf) | (exact Out1.same; conv => whnf) | (apply QStepH.go; conv => whnf) | (refine Both.lit_true ?_; conv => whnf) | (refine Both.lit_false ?_; conv => whnf) | (apply QStep.go; conv => whnf) | (refine Need.mk (by first | omega | exact ⟨by omega, by omega⟩ | rfl | exact ⟨rfl, rfl⟩ | exact ⟨rfl, by omega, by omega⟩ | exact ⟨by omega, by omega, by omega⟩ | exact ⟨rfl, Nat.le_of_ble_eq_true rfl⟩) ?_; conv => whnf) | (refine ⟨_, rfl, ?_⟩; conv => whnf)))
            obtain ⟨q1, q2⟩ := hst (.inr (.inr (.inr h3)))
            rw [show doE c.rd e t = rdE e c.s.length t by simp [doE, Call.rd, h3], show doS c.rd e t = rdS e c.s.length t by simp [doS, Call.rd, h3]] at q1
            rw [show doE c.rd e t = rdE e c.s.length t by simp [doE, Call.rd, h3]] at q2
            refine Both.cases (fun hb3 => ?_) (fun hb3 => ?_)
            · (conv => whnf)
              (repeat (first | (exact Out.same; conv => whnf) | (exact Out1.same; conv => whnf) | (apply QStepH.go; conv => whnf) | (refine Both.lit_true ?_; conv => whnf) | (refine Both.lit_false ?_; conv => whnf) | (apply QStep.go; conv => whnf) | (refine Need.mk (by first | omega | exact ⟨by omega, by omega⟩ | rfl | exact ⟨rfl, rfl⟩ | exact ⟨rfl, by omega, by omega⟩ | exact ⟨by omega, by omega, by omega⟩ | exact ⟨rfl, Nat.le_of_ble_eq_true rfl⟩) ?_; conv => whnf) | (refine ⟨_, rfl, ?_⟩; conv => whnf)))
              refine CallVC.auto err_k ⟨.inr rfl, ?_⟩
              (conv => whnf)
              (repeat (first | (exact Out.same; conv => whnf) | (exact Out1.same; conv => whnf) | (apply QStepH.go; conv => whnf) | (refine Both.lit_true ?_; conv => whnf) | (refine Both.lit_false ?_; conv => whnf) | (apply QStep.go; conv => whnf) | (refine Need.mk (by first | omega | exact ⟨by omega, by omega⟩ | rfl | exact ⟨rfl, rfl⟩ | exact ⟨rfl, by omega, by omega⟩ | exact ⟨by omega, by omega, by omega⟩ | exact ⟨rfl, Nat.le_of_ble_eq_true rfl⟩) ?_; conv => whnf) | (refine ⟨_, rfl, ?_⟩; conv => whnf)))
              refine Both.dec (fun hx => ?_) (fun hx => ?_)
              · exfalso
                have q3 := q2 hx
                simp only [doV, doT, Call.rd, h3, if_true, if_false, reduceCtorEq, Int.reduceEq, forall_const, true_or, or_true] at q3
                simp [q3] at hb3
              (conv => whnf)
              (repeat (first | (exact Out.same; conv => whnf) | (exact Out1.same; conv => whnf) | (apply QStepH.go; conv => whnf) | (refine Both.lit_true ?_; conv => whnf) | (refine Both.lit_false ?_; conv => whnf) | (apply QStep.go; conv => whnf) | (refine Need.mk (by first | omega | exact ⟨by omega, by omega⟩ | rfl | exact ⟨rfl, rfl⟩ | exact ⟨rfl, by omega, by omega⟩ | exact ⟨by omega, by omega, by omega⟩ | exact ⟨rfl, Nat.le_of_ble_eq_true rfl⟩) ?_; conv => whnf) | (refine ⟨_, rfl, ?_⟩; conv => whnf)))
              refine ⟨(k + 1, _, _), q1, by show l.length - (k + 1) < l.length - k; omega, Weak.auto ?_⟩
              (repeat' ((conv => whnf); first | exact True.intro | (refine And.intro ?_ ?_)))
              all_goals first | rfl | exact congrArg (SV.int .i64) (by rw [wrap_i64 (by omega) (by omega)]; rfl) | exact .eq rfl
            · (conv => whnf)
              (repeat (first | (exact Out.same; conv => whnf) | (exact Out1.same; conv => whnf) | (apply QStepH.go; conv => whnf) | (refine Both.lit_true ?_; conv => whnf) | (refine Both.lit_false ?_; conv => whnf) | (apply QStep.go; conv => whnf) | (refine Need.mk (by first | omega | exact ⟨by omega, by omega⟩ | rfl | exact ⟨rfl, rfl⟩ | exact ⟨rfl, by omega, by omega⟩ | exact ⟨by omega, by omega, by omega⟩ | exact ⟨rfl, Nat.le_of_ble_eq_true rfl⟩) ?_; conv => whnf) | (refine ⟨_, rfl, ?_⟩; conv => whnf)))
              refine ⟨(k + 1, _, _), q1, by show l.length - (k + 1) < l.length - k; omega, Weak.auto ?_⟩
              (repeat' ((conv => whnf); first | exact True.intro | (refine And.intro ?_ ?_)))
              all_goals first | rfl | exact congrArg (SV.int .i64) (by rw [wrap_i64 (by omega) (by omega)]; rfl) | exact .eq rfl
          (conv => whnf)
          (repeat (first | (exact Out.same; conv => whnf) | (exact Out1.same; conv => whnf) | (apply QStepH.go; conv => whnf) | (refine Both.lit_true ?_; conv => whnf) | (refine Both.lit_false ?_; conv => whnf) | (apply QStep.go; conv => whnf) | (refine Need.mk (by first | omega | exact ⟨by omega, by omega⟩ | rfl | exact ⟨rfl, rfl⟩ | exact ⟨rfl, by omega, by omega⟩ | exact ⟨by omega, by omega, by omega⟩ | exact ⟨rfl, Nat.le_of_ble_eq_true rfl⟩) ?_; conv => whnf) | (refine ⟨_, rfl, ?_⟩; conv => whnf)))
          refine ⟨(k + 1, e, t), hsk h0 h1 h2 h3, by show l.length - (k + 1) < l.length - k; omega, Weak.auto ?_⟩
          (repeat' ((conv => whnf); first | exact True.intro | (refine And.intro ?_ ?_)))
          all_goals first | rfl | exact congrArg (SV.int .i64) (by rw [wrap_i64 (by omega) (by omega)]; rfl) | exact .eq rfl

        · obtain rfl : k = l.length := by have : ¬ (k : Int) < l.length := hge; omega
          (conv => whnf)
          have hfin : (e = 0 ∧ t = [] ∧ m = s.length) ∨ (e = 6 ∧ m < s.length) := by
            obtain ⟨_, _, h3⟩ := hI
            rw [← hso] at h3
            rcases h3 with ⟨h4, p, h5, h6, h7⟩ | h3
            · refine .inl ⟨h4, by rw [h7]; simp [outW], ?_⟩
              simp [outW] at h6
              omega
            · exact .inr h3
          rcases hfin with ⟨rfl, rfl, hM⟩ | ⟨rfl, hM⟩
          · have hN : rdEnd 0 [] = 0 := rfl
            try subst hM
            (repeat (first | (exact Out.same; conv => whnf) | (exact Out1.same; conv => whnf) | (apply QStepH.go; conv => whnf) | (refine Both.lit_true ?_; conv => whnf) | (refine Both.lit_false ?_; conv => whnf) | (apply QStep.go; conv => whnf) | (refine Need.mk (by first | omega | exact ⟨by omega, by omega⟩ | rfl | exact ⟨rfl, rfl⟩ | exact ⟨rfl, by omega, by omega⟩ | exact ⟨by omega, by omega, by omega⟩ | exact ⟨rfl, Nat.le_of_ble_eq_true rfl⟩) ?_; conv => whnf) | (refine ⟨_, rfl, ?_⟩; conv => whnf) | (refine CallVC.auto end_k ?_; conv => whnf) | (refine Both.of_false ?_ ?_; (focus (first | rfl | (simp [hN] <;> fail))); conv => whnf) | (refine Both.of_true ?_ ?_; (focus (first | rfl | (simp [hN] <;> fail))); conv => whnf)))
            refine ⟨_, _, WeakV.drop (congrArg SV.bool ?_), h⟩
            simp [hN]
          · first
              | exact absurd hM (Nat.lt_irrefl _)
              | (have hN : rdEnd 6 t = 6 := rfl
                 have hM2 : ¬ ((m : Nat) : Int) = (s.length : Int) := by omega
                 (repeat (first | (exact Out.same; conv => whnf) | (exact Out1.same; conv => whnf) | (apply QStepH.go; conv => whnf) | (refine Both.lit_true ?_; conv => whnf) | (refine Both.lit_false ?_; conv => whnf) | (apply QStep.go; conv => whnf) | (refine Need.mk (by first | omega | exact ⟨by omega, by omega⟩ | rfl | exact ⟨rfl, rfl⟩ | exact ⟨rfl, by omega, by omega⟩ | exact ⟨by omega, by omega, by omega⟩ | exact ⟨rfl, Nat.le_of_ble_eq_true rfl⟩) ?_; conv => whnf) | (refine ⟨_, rfl, ?_⟩; conv => whnf) | (refine CallVC.auto end_k ?_; conv => whnf) | (refine Both.of_false ?_ ?_; (focus (first | rfl | (simp [hM2, hN] <;> fail))); conv => whnf) | (refine Both.of_true ?_ ?_; (focus (first | rfl | (simp [hM2, hN] <;> fail))); conv => whnf)))
                 refine ⟨_, _, WeakV.drop (congrArg SV.bool ?_), h⟩
                 simp [hM2, hN])
end Go.LX
