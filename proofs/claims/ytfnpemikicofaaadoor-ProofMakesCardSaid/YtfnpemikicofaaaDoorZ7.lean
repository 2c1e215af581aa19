/- Own texts of this claim, in build order: Ls, Qe, Qf, Rk. -/
import Derived.Test.YtfnpemikicofaaaDoorZ6
import Derived.Test.YtfnpemikicofaaaDoorRows
import Derived.Lib.LaidTab
import Derived.MakeChecks
import Derived.LaidMore
section
set_option maxRecDepth 100000
set_option maxHeartbeats 1000000
set_option autoImplicit false
set_option linter.unusedVariables false
set_option linter.unusedSimpArgs false
namespace Go.LX
open Go.Proofs

/-! ## A drawn region in which two writers, one behind the other in the text, stand in no order: both orders are shown -/
/-- Neither a call nor a row: one step. -/
def oneB (o : Oper) : Bool :=
  match o.op with
  | .move _ => true
  | .assign _ => true
  | .alloc _ => true
  | .load _ _ => true
  | .store _ _ _ => true
  | .fieldAddr _ _ _ => true
  | .indexAddr _ _ _ => true
  | .extract _ _ => true
  | _ => false
theorem run_v {P : Program} {w : World} {s : Sem Value} {n : Next} {w' : World} (h : (Bind.bind s fun x => (pure (Next.value x) : Sem Next)).run P w = .ok n w') : (∃ x, n = .value x) ∨ n = .skip := by
  rw [Sem.run_bind] at h
  generalize s.run P w = r at h
  cases r with
  | ok x w1 => cases h; exact .inl ⟨x, rfl⟩
  | halt e w1 => cases h
theorem run_u {P : Program} {w : World} {s : Sem Unit} {n : Next} {w' : World} (h : (Bind.bind s fun _ => (pure Next.skip : Sem Next)).run P w = .ok n w') : (∃ x, n = .value x) ∨ n = .skip := by
  rw [Sem.run_bind] at h
  generalize s.run P w = r at h
  cases r with
  | ok x w1 => cases h; exact .inr rfl
  | halt e w1 => cases h
theorem one_step {P : Program} {ρ : Operand → Value} {o : Oper} {w : World} {n : Next} {w' : World} (ho : oneB o = true) (h : (execOp ρ o).run P w = .ok n w') : (∃ x, n = .value x) ∨ n = .skip := by
  unfold oneB at ho
  unfold execOp at h
  split at ho
  · rename_i x he
    rw [he] at h
    cases h
    exact .inl ⟨_, rfl⟩
  · rename_i x he
    rw [he] at h
    cases h
    exact .inl ⟨_, rfl⟩
  · rename_i x he
    rw [he] at h
    exact run_v h
  · rename_i x y he
    rw [he] at h
    exact run_v h
  · rename_i x y z he
    rw [he] at h
    exact run_u h
  · rename_i x y z he
    rw [he] at h
    exact run_v h
  · rename_i x y z he
    rw [he] at h
    exact run_v h
  · rename_i x y he
    rw [he] at h
    exact run_v h
  · cases ho
theorem wp_and {P : Program} {o : Oper} {a : Act} {w : World} {K1 K2 : Act → World → Prop} {Q : Exit → Act → World → Prop} (ho : oneB o = true) (h1 : o.wp P a w K1 Q) (h2 : o.wp P a w K2 Q) : o.wp P a w (fun a w => K1 a w ∧ K2 a w) Q := by
  unfold Oper.wp at *
  have hs := fun n w' => one_step (P := P) (ρ := a.eval) (w := w) (n := n) (w' := w') ho
  generalize (execOp a.eval o).run P w = r at *
  cases r with
  | ok n w' =>
    rcases hs n w' rfl with ⟨x, rfl⟩ | rfl
    · exact ⟨h1, h2⟩
    · exact ⟨h1, h2⟩
  | halt x w' => cases x <;> exact h1
theorem wpOp_one {P : Program} {ops : Array Oper} {Q : Exit → Act → World → Prop} {i : Nat} {o : Oper} {K : Act → World → Prop} {a : Act} {w : World} (hQ : ¬ LetsOut Q) (ho : ops[i]? = some o) (hg : o.guard = none) : wpOp P ops Q i K a w ↔ o.wp P a w K Q := by
  have hw : Region.wanted o (yielded ops a.tmps) = true := by simp [Region.wanted, hg]
  unfold wpOp
  rw [ho]
  simp only [hw, if_true]
  exact ⟨fun h => h.elim id fun h => absurd h.2 hQ, .inl⟩
theorem mem_ready {ops : Array Oper} {listed : Array Bool} {k : Nat} (hs : listed.size = ops.size) : k ∈ Region.ready .any ops listed ↔ ∃ o, ops[k]? = some o ∧ listed.getD k false = false ∧ ∀ e ∈ o.after, Region.binds .any e = true → listed.getD e.on false = true := by
  unfold Region.ready
  rw [List.mem_filter, List.mem_range]
  by_cases hk : k < ops.size
  · have hgt : listed.getD k true = listed.getD k false := by
      rw [Array.getD_eq_getD_getElem?, Array.getD_eq_getD_getElem?, Array.getElem?_eq_getElem (by omega)]
      rfl
    rw [Array.getElem?_eq_getElem hk, hgt]
    simp only [hk, true_and, Option.map_some, Option.getD_some, Bool.and_eq_true, Bool.not_eq_true', Array.all_eq_true']
    constructor
    · rintro ⟨h1, h2⟩
      refine ⟨_, rfl, h1, fun e he hb => ?_⟩
      have := h2 e he
      rw [hb] at this
      simpa using this
    · rintro ⟨o, ho, h1, h2⟩
      obtain rfl := Option.some.inj ho
      refine ⟨h1, fun e he => ?_⟩
      cases hb : Region.binds .any e with
      | false => rfl
      | true => simpa using h2 e he hb
  · rw [Array.getElem?_eq_none (by omega)]
    constructor
    · rintro ⟨h, _⟩
      exact absurd h hk
    · rintro ⟨o, h, _⟩
      cases h
/-- The same operations, in other places, with at most one edge more. -/
structure Sim (ops ops' : Array Oper) (π : Nat → Nat) (x y : Nat) : Prop where
  size : ops'.size = ops.size
  inv : ∀ k, π (π k) = k
  get : ∀ (k : Nat) (o : Oper), ops[k]? = some o → ∃ af : Array Edge, ops'[π k]? = some { o with after := af } ∧
    ∀ (f f' : Nat → Bool), (∀ m, f' (π m) = f m) → ((∀ e ∈ af, Region.binds .any e = true → f' e.on = true) ↔ (∀ e ∈ o.after, Region.binds .any e = true → f e.on = true) ∧ (k = x → f y = true))
def Same (π : Nat → Nat) (l l' : Array Bool) : Prop := l'.size = l.size ∧ ∀ m, l'.getD (π m) false = l.getD m false
theorem getD_set {l : Array Bool} {k m : Nat} (hk : k < l.size) : (l.setIfInBounds k true).getD m false = if k = m then true else l.getD m false := by
  rw [Array.getD_eq_getD_getElem?, Array.getElem?_setIfInBounds, Array.getD_eq_getD_getElem?]
  by_cases h : k = m
  · subst h
    rw [if_pos rfl, if_pos hk, if_pos rfl]
    rfl
  · rw [if_neg h, if_neg h]
theorem Same.set {π : Nat → Nat} {l l' : Array Bool} (h : Same π l l') (hi : ∀ k, π (π k) = k) {k : Nat} (hk : k < l.size) (hk' : π k < l'.size) : Same π (l.setIfInBounds k true) (l'.setIfInBounds (π k) true) := by
  refine ⟨by rw [Array.size_setIfInBounds, Array.size_setIfInBounds, h.1], fun m => ?_⟩
  rw [getD_set hk, getD_set hk', h.2 m]
  by_cases hm : k = m
  · rw [if_pos hm, if_pos (by rw [hm])]
  · rw [if_neg hm, if_neg (fun q => hm (by rw [← hi k, q, hi m]))]
theorem Sim.ready {ops ops' : Array Oper} {π : Nat → Nat} {x y : Nat} (h : Sim ops ops' π x y) {l l' : Array Bool} (hs : l.size = ops.size) (hl : Same π l l') (k : Nat) : π k ∈ Region.ready .any ops' l' ↔ k ∈ Region.ready .any ops l ∧ (k = x → l.getD y false = true) := by
  rw [mem_ready (by rw [hl.1, hs, h.size]), mem_ready hs]
  constructor
  · rintro ⟨o', ho', h1, h2⟩
    have hk : k < ops.size := by
      rcases Nat.lt_or_ge k ops.size with q | q
      · exact q
      · exfalso
        have hlt : π k < ops'.size := by
          rcases Nat.lt_or_ge (π k) ops'.size with u | u
          · exact u
          · rw [Array.getElem?_eq_none u] at ho'; cases ho'
        have hlt2 : π k < ops.size := by rw [← h.size]; exact hlt
        obtain ⟨af, ha, _⟩ := h.get (π k) (ops[π k]'hlt2) (Array.getElem?_eq_getElem hlt2)
        rw [h.inv k, Array.getElem?_eq_none (by rw [h.size]; exact q)] at ha
        cases ha
    obtain ⟨af, ha, hf⟩ := h.get k ops[k] (by rw [Array.getElem?_eq_getElem hk])
    obtain rfl := Option.some.inj (ho'.symm.trans ha)
    have := (hf (fun m => l.getD m false) (fun m => l'.getD m false) hl.2).1 h2
    exact ⟨⟨_, by rw [Array.getElem?_eq_getElem hk], by rw [← hl.2 k]; exact h1, this.1⟩, this.2⟩
  · rintro ⟨⟨o, ho, h1, h2⟩, hx⟩
    obtain ⟨af, ha, hf⟩ := h.get k o ho
    exact ⟨_, ha, by rw [hl.2 k]; exact h1, (hf (fun m => l.getD m false) (fun m => l'.getD m false) hl.2).2 ⟨h2, hx⟩⟩
theorem ready_lt {ops : Array Oper} {l : Array Bool} {k : Nat} (hs : l.size = ops.size) (h : k ∈ Region.ready .any ops l) : ∃ o, ops[k]? = some o ∧ k < ops.size := by
  obtain ⟨o, ho, _⟩ := (mem_ready hs).1 h
  refine ⟨o, ho, ?_⟩
  rcases Nat.lt_or_ge k ops.size with q | q
  · exact q
  · rw [Array.getElem?_eq_none q] at ho; cases ho
/-- Once the edge's end is done, both go the same way. -/
theorem Sim.past {P : Program} {Q : Exit → Act → World → Prop} (hQ : ¬ LetsOut Q) {ops ops' : Array Oper} {π : Nat → Nat} {x y : Nat} (h : Sim ops ops' π x y) (hg : ∀ (k : Nat) (o : Oper), ops[k]? = some o → o.guard = none) :
    ∀ (fuel : Nat) (l l' : Array Bool) (a : Act) (w : World), l.size = ops.size → Same π l l' → l.getD y false = true → wpAny P .any ops' Q fuel l' a w → wpAny P .any ops Q fuel l a w
  | 0, l, l', a, w, hs, hl, hy, h0 => by
    refine ⟨?_, h0.2⟩
    refine List.eq_nil_iff_forall_not_mem.2 fun k hk => ?_
    have := (h.ready hs hl k).2 ⟨hk, fun _ => hy⟩
    rw [h0.1] at this
    cases this
  | fuel + 1, l, l', a, w, hs, hl, hy, h0 => by
    refine ⟨fun hr => h0.1 ?_, fun k hk => ?_⟩
    · refine List.eq_nil_iff_forall_not_mem.2 fun k hk => ?_
      have := (h.ready hs hl (π k)).1 (by rw [h.inv]; exact hk)
      rw [hr] at this
      cases this.1
    · obtain ⟨o, ho, hlt⟩ := ready_lt hs hk
      obtain ⟨af, ha, _⟩ := h.get k o ho
      have hlt' : π k < ops'.size := by
        rcases Nat.lt_or_ge (π k) ops'.size with u | u
        · exact u
        · rw [Array.getElem?_eq_none u] at ha; cases ha
      have h1 := h0.2 (π k) ((h.ready hs hl k).2 ⟨hk, fun _ => hy⟩)
      rw [wpOp_one hQ ha (hg k o ho)] at h1
      rw [wpOp_one hQ ho (hg k o ho)]
      refine Oper.wp_mono (o := o) (fun a w hw => ?_) h1
      exact Sim.past hQ h hg fuel _ _ a w (by rw [Array.size_setIfInBounds, hs]) (hl.set h.inv (by rw [hs]; exact hlt) (by rw [hl.1, hs, ← h.size]; exact hlt')) (by rw [getD_set (by rw [hs]; exact hlt)]; split <;> first | rfl | exact hy) hw
/-- Of two that stand in no order either one is first. -/
theorem both_orders {P : Program} {Q : Exit → Act → World → Prop} (hQ : ¬ LetsOut Q) {ops ops1 ops2 : Array Oper} {π1 π2 : Nat → Nat} {i j : Nat} (s1 : Sim ops ops1 π1 j i) (s2 : Sim ops ops2 π2 i j) (hij : i ≠ j) (hg : ∀ (k : Nat) (o : Oper), ops[k]? = some o → o.guard = none ∧ oneB o = true)
    (hfree : ∃ o, ops[i]? = some o ∧ o.after = #[]) :
    ∀ (fuel : Nat) (l l1 l2 : Array Bool) (a : Act) (w : World), l.size = ops.size → Same π1 l l1 → Same π2 l l2 → l.getD i false = false → l.getD j false = false → wpAny P .any ops1 Q fuel l1 a w → wpAny P .any ops2 Q fuel l2 a w → wpAny P .any ops Q fuel l a w := by
  have hr0 : ∀ l : Array Bool, l.size = ops.size → l.getD i false = false → i ∈ Region.ready .any ops l := by
    intro l hs hi
    obtain ⟨o, ho, ha⟩ := hfree
    exact (mem_ready hs).2 ⟨o, ho, hi, fun e he => by rw [ha] at he; simp at he⟩
  have hgg : ∀ (k : Nat) (o : Oper), ops[k]? = some o → o.guard = none := fun k o ho => (hg k o ho).1
  intro fuel
  induction fuel with
  | zero =>
    intro l l1 l2 a w hs h1 h2 hi hj w1 w2
    exfalso
    have := (s1.ready hs h1 i).2 ⟨hr0 l hs hi, fun q => absurd q hij⟩
    rw [w1.1] at this
    cases this
  | succ fuel ih =>
    intro l l1 l2 a w hs h1 h2 hi hj w1 w2
    refine ⟨fun hr => ?_, fun k hk => ?_⟩
    · exfalso
      have := hr0 l hs hi
      rw [hr] at this
      cases this
    · obtain ⟨o, ho, hlt⟩ := ready_lt hs hk
      have side : ∀ {ops' : Array Oper} {π : Nat → Nat} {x y : Nat} (s : Sim ops ops' π x y) {l' : Array Bool} (hl : Same π l l'), π k < l'.size ∧ ∃ af : Array Edge, ops'[π k]? = some { o with after := af } := by
        intro ops' π x y s l' hl
        obtain ⟨af, ha, _⟩ := s.get k o ho
        refine ⟨?_, af, ha⟩
        rw [hl.1, hs, ← s.size]
        rcases Nat.lt_or_ge (π k) ops'.size with u | u
        · exact u
        · rw [Array.getElem?_eq_none u] at ha; cases ha
      have hkl : k < l.size := by rw [hs]; exact hlt
      have hsz : (l.setIfInBounds k true).size = ops.size := by rw [Array.size_setIfInBounds, hs]
      rw [wpOp_one hQ ho (hgg k o ho)]
      by_cases hki : k = i
      · obtain ⟨q1, af, q2⟩ := side s1 h1
        have := w1.2 (π1 k) ((s1.ready hs h1 k).2 ⟨hk, fun q => absurd (hki.symm.trans q) hij⟩)
        rw [wpOp_one hQ q2 (hgg k o ho)] at this
        refine Oper.wp_mono (o := o) (fun a w hw => ?_) this
        exact s1.past hQ hgg fuel _ _ a w hsz (h1.set s1.inv hkl q1) (by rw [getD_set hkl, if_pos hki]) hw
      by_cases hkj : k = j
      · obtain ⟨q1, af, q2⟩ := side s2 h2
        have := w2.2 (π2 k) ((s2.ready hs h2 k).2 ⟨hk, fun q => absurd q hki⟩)
        rw [wpOp_one hQ q2 (hgg k o ho)] at this
        refine Oper.wp_mono (o := o) (fun a w hw => ?_) this
        exact s2.past hQ hgg fuel _ _ a w hsz (h2.set s2.inv hkl q1) (by rw [getD_set hkl, if_pos hkj]) hw
      · obtain ⟨q1, af1, q2⟩ := side s1 h1
        obtain ⟨p1, af2, p2⟩ := side s2 h2
        have t1 := w1.2 (π1 k) ((s1.ready hs h1 k).2 ⟨hk, fun q => absurd q hkj⟩)
        have t2 := w2.2 (π2 k) ((s2.ready hs h2 k).2 ⟨hk, fun q => absurd q hki⟩)
        rw [wpOp_one hQ q2 (hgg k o ho)] at t1
        rw [wpOp_one hQ p2 (hgg k o ho)] at t2
        refine Oper.wp_mono (o := o) (fun a w hw => ?_) (wp_and (o := o) (hg k o ho).2 t1 t2)
        exact ih _ _ _ a w hsz (h1.set s1.inv hkl q1) (h2.set s2.inv hkl p1) (by rw [getD_set hkl, if_neg hki, hi]) (by rw [getD_set hkl, if_neg hkj, hj]) hw.1 hw.2
/-! ### The two texts -/
def addE (i : Nat) (o : Oper) : Oper := { o with after := (o.after.toList ++ [({ on := i, ground := .data } : Edge)]).toArray }
def edgeL : Nat → Nat → List Oper → List Oper
  | _, _, [] => []
  | 0, i, o :: r => addE i o :: r
  | n + 1, i, o :: r => o :: edgeL n i r
theorem edgeL_get : ∀ (j i : Nat) (l : List Oper) (k : Nat), (edgeL j i l)[k]? = if k = j then (l[k]?).map (addE i) else l[k]?
  | _, _, [], k => by simp [edgeL]
  | 0, i, o :: r, 0 => rfl
  | 0, i, o :: r, k + 1 => by rw [edgeL, if_neg (by omega)]; rfl
  | n + 1, i, o :: r, 0 => by rw [edgeL, if_neg (by omega)]; rfl
  | n + 1, i, o :: r, k + 1 => by
    rw [edgeL, List.getElem?_cons_succ, edgeL_get n i r k, List.getElem?_cons_succ]
    by_cases h : k = n
    · rw [if_pos h, if_pos (by omega)]
    · rw [if_neg h, if_neg (by omega)]
theorem edgeL_len : ∀ (j i : Nat) (l : List Oper), (edgeL j i l).length = l.length
  | _, _, [] => by simp [edgeL]
  | 0, i, o :: r => rfl
  | n + 1, i, o :: r => by rw [edgeL, List.length_cons, edgeL_len n i r, List.length_cons]
def tau (i k : Nat) : Nat := match Nat.beq k i with
  | true => i + 1
  | false => match Nat.beq k (i + 1) with
    | true => i
    | false => k
theorem beq_ne {k i : Nat} (h : ¬ k = i) : Nat.beq k i = false := by
  cases hb : Nat.beq k i with
  | false => rfl
  | true => exact absurd (Nat.eq_of_beq_eq_true hb) h
theorem tau_eq (i k : Nat) : tau i k = if k = i then i + 1 else if k = i + 1 then i else k := by
  unfold tau
  by_cases h : k = i
  · subst h
    rw [Nat.beq_refl, if_pos rfl]
  · rw [if_neg h, beq_ne h]
    dsimp only
    by_cases h2 : k = i + 1
    · subst h2
      rw [Nat.beq_refl, if_pos rfl]
    · rw [if_neg h2, beq_ne h2]
theorem tau_inv (i k : Nat) : tau i (tau i k) = k := by
  rw [tau_eq, tau_eq]
  by_cases h : k = i
  · rw [if_pos h, if_neg (by omega), if_pos rfl, h]
  · rw [if_neg h]
    by_cases h2 : k = i + 1
    · rw [if_pos h2, if_pos rfl, h2]
    · rw [if_neg h2, if_neg h, if_neg h2]
def renE (i : Nat) (e : Edge) : Edge := { e with on := tau i e.on }
def renO (i : Nat) (o : Oper) : Oper := { o with after := (o.after.toList.map (renE i)).toArray }
def swapL : Nat → List Oper → List Oper
  | 0, a :: b :: r => b :: a :: r
  | n + 1, a :: r => a :: swapL n r
  | _, l => l
theorem swapL_get : ∀ (i : Nat) (l : List Oper) (k : Nat), i + 1 < l.length → (swapL i l)[tau i k]? = l[k]?
  | 0, a :: b :: r, k, h => by
    rw [tau_eq]
    match k with
    | 0 => rfl
    | 1 => rfl
    | k + 2 => rw [if_neg (by omega), if_neg (by omega)]; rfl
  | 0, [_], k, h => by simp at h
  | 0, [], k, h => by simp at h
  | n + 1, [], k, h => by simp at h
  | n + 1, a :: r, 0, h => by
    rw [tau_eq, if_neg (by omega), if_neg (by omega)]
    rfl
  | n + 1, a :: r, k + 1, h => by
    have ih := swapL_get n r k (by simpa using h)
    have e : tau (n + 1) (k + 1) = tau n k + 1 := by
      rw [tau_eq, tau_eq]
      by_cases h1 : k = n
      · rw [if_pos h1, if_pos (by omega)]
      · rw [if_neg h1, if_neg (by omega)]
        by_cases h2 : k = n + 1
        · rw [if_pos h2, if_pos (by omega)]
        · rw [if_neg h2, if_neg (by omega)]
    rw [e, swapL, List.getElem?_cons_succ, ih, List.getElem?_cons_succ]
theorem swapL_len : ∀ (i : Nat) (l : List Oper), (swapL i l).length = l.length
  | 0, a :: b :: r => rfl
  | 0, [_] => rfl
  | 0, [] => rfl
  | n + 1, [] => rfl
  | n + 1, a :: r => by rw [swapL, List.length_cons, swapL_len n r, List.length_cons]
def opsE (j i : Nat) (ops : Array Oper) : Array Oper := (edgeL j i ops.toList).toArray
def opsS (i : Nat) (ops : Array Oper) : Array Oper := (swapL i ((edgeL i (i + 1) ops.toList).map (renO i))).toArray
theorem sim_edge (ops : Array Oper) (j i : Nat) : Sim ops (opsE j i ops) (fun k => k) j i where
  size := by unfold opsE; rw [List.size_toArray, edgeL_len, Array.length_toList]
  inv _ := rfl
  get k o ho := by
    have h1 : (opsE j i ops)[k]? = if k = j then (ops[k]?).map (addE i) else ops[k]? := by
      unfold opsE
      rw [List.getElem?_toArray, edgeL_get, Array.getElem?_toList]
    rw [h1, ho]
    by_cases hk : k = j
    · refine ⟨_, by rw [if_pos hk]; rfl, fun f f' hf => ?_⟩
      constructor
      · intro q
        refine ⟨fun e he hb => by rw [← hf]; exact q e (by simp [he]) hb, fun _ => by rw [← hf]; exact q ⟨i, .data⟩ (by simp) rfl⟩
      · rintro ⟨q1, q2⟩ e he hb
        rw [List.mem_toArray, List.mem_append] at he
        rcases he with he | he
        · rw [hf]; exact q1 e (by simpa using he) hb
        · rw [List.mem_singleton.1 he, hf]; exact q2 hk
    · refine ⟨o.after, by rw [if_neg hk], fun f f' hf => ?_⟩
      constructor
      · intro q
        exact ⟨fun e he hb => by rw [← hf]; exact q e he hb, fun u => absurd u hk⟩
      · rintro ⟨q1, _⟩ e he hb
        rw [hf]; exact q1 e he hb
theorem sim_swap (ops : Array Oper) (i : Nat) (hi : i + 1 < ops.size) : Sim ops (opsS i ops) (tau i) i (i + 1) where
  size := by unfold opsS; rw [List.size_toArray, swapL_len, List.length_map, edgeL_len, Array.length_toList]
  inv := tau_inv i
  get k o ho := by
    have h1 : (opsS i ops)[tau i k]? = (if k = i then (ops[k]?).map (addE (i + 1)) else ops[k]?).map (renO i) := by
      unfold opsS
      rw [List.getElem?_toArray, swapL_get _ _ _ (by rw [List.length_map, edgeL_len, Array.length_toList]; exact hi), List.getElem?_map, edgeL_get, Array.getElem?_toList]
    have hb0 : ∀ e : Edge, Region.binds .any (renE i e) = Region.binds .any e := fun e => rfl
    rw [h1, ho]
    by_cases hk : k = i
    · refine ⟨_, by rw [if_pos hk]; rfl, fun f f' hf => ?_⟩
      constructor
      · intro q
        refine ⟨fun e he hb => by rw [← hf]; exact q (renE i e) (by simp [addE]; exact .inl ⟨e, he, rfl⟩) hb, fun _ => by rw [← hf]; exact q (renE i ⟨i + 1, .data⟩) (by simp [addE]) rfl⟩
      · rintro ⟨q1, q2⟩ e he hb
        rw [List.mem_toArray, List.mem_map] at he
        obtain ⟨e', he', rfl⟩ := he
        show f' (tau i e'.on) = true
        rw [hf]
        simp only [addE, List.mem_append, List.mem_singleton] at he'
        rcases he' with he' | rfl
        · exact q1 e' (by simpa using he') hb
        · exact q2 hk
    · refine ⟨_, by rw [if_neg hk]; rfl, fun f f' hf => ?_⟩
      constructor
      · intro q
        exact ⟨fun e he hb => by rw [← hf]; exact q (renE i e) (by simp; exact ⟨e, he, rfl⟩) hb, fun u => absurd u hk⟩
      · rintro ⟨q1, _⟩ e he hb
        rw [List.mem_toArray, List.mem_map] at he
        obtain ⟨e', he', rfl⟩ := he
        show f' (tau i e'.on) = true
        rw [hf]
        exact q1 e' (by simpa using he') hb
/-! ### Shown for both -/
def AnyVC (P : Program) (G : Gl) (N : Nat) (ops : Array Oper) (s : LS) (K : Exit → LS → Prop) : Prop :=
  ∀ A E w a, A.n = N → SR G A E s a w → wpAny P .any ops (onlyN fun a' w' => Then G A E s w (K .normal) a' w') ops.size (Array.replicate ops.size false) a { w with drawn := w.drawn + 1 }
theorem no_listed (n i : Nat) : (Array.replicate n false).getD i false = false := by
  simp only [Array.getD_eq_getD_getElem?, Array.getElem?_replicate]
  split <;> rfl
theorem AnyVC.quiet (qs : List Nat) {P : Program} {Γ : Ty} (hΓ : TyOk P Γ) {G : Gl} {N : Nat} {ops : Array Oper} {s : LS} {K : Exit → LS → Prop}
    (hB : okI ops = true) (hW : wChain qs ops.toList 0 none = true) (hT : Nat.ble s.t.length 10000 = true) (h : drawK3 P Γ G qs ops.toList (K .normal) 0 ops.toList s.t s.h [] []) : AnyVC P G N ops s K := by
  intro A E w a hA hs
  obtain ⟨xs, f, h1, h0, h2, _, h3⟩ := drawK3_out (fun j o hj => by rw [Nat.zero_add]; exact hj) (fun p hp => by cases hp) h
  have hst : Step E s.h w E s.h { w with drawn := w.drawn + 1 } := ⟨Nat.le_refl _, fun _ _ _ => rfl, rfl, rfl, rfl, fun b h => .inr h, fun b h => h, fun b h => .inl h⟩
  have hc0 : ∀ (t : List SV) (ds : List Nat) (xs : List SV) (n : Nat), curF t ds xs (List.replicate n false) = t := by
    intro t ds
    induction ds generalizing t with
    | nil => intro xs n; simp [curF]
    | cons d ds ih =>
      intro xs n
      cases xs with
      | nil => simp [curF]
      | cons x xs =>
        cases n with
        | zero => simp [curF]
        | succ n => rw [List.replicate_succ, curF]; exact ih t xs n
  have hno := fun i => no_listed ops.size i
  refine any_order2 (A := A) (E0 := E) (w0 := w) (t0 := s.t) (hs := f) (xs := xs) hΓ (Nat.le_of_ble_eq_true hT) hB hW h1 (fun m o x hm hx => by
      have := h3 m o x hm hx
      simp only [Nat.zero_add] at this
      rcases this with h | ⟨h6, h | ⟨h7, h8, d, h9, h10 | h10⟩⟩
      · exact .inl h
      · exact .inr ⟨h6, .inl h⟩
      · exact .inr ⟨h6, .inr ⟨h7, h8, d, h9, .inl fun j hj hfr hah => h10.2 j (by simpa using hj) hfr hah⟩⟩
      · exact .inr ⟨h6, .inr ⟨h7, h8, d, h9, .inr fun j hj hfr hah => h10.2 j (by simpa using hj) hfr hah⟩⟩) (fun E' a' w' hs' hst' => ⟨rfl, _, E', h2, hs', by rw [h0] at hst'; exact hst'⟩) ops.size _ E a _ 0 (Nat.zero_le _) (fun i o _ _ => by rw [hno]; simp) (by simp) (by simp) (fun j oj hoj hlj => by
    exfalso
    rw [hno] at hlj
    cases hlj) ?_ (by rw [h0]; exact hst)
  rw [Array.toList_replicate, hc0, h0]
  exact ⟨hs.anc, VRs.kept (w := w) (w' := { w with drawn := w.drawn + 1 }) (Env.Le.refl E) (fun _ h => h) (fun _ _ => rfl) hs.vals,
    ⟨hs.rel.len, fun i o hi => ObjR.kept (w := w) (w' := { w with drawn := w.drawn + 1 }) (Env.Le.refl E) (fun _ h => h) (fun _ _ => rfl) (hs.rel.lt hi) (fun _ _ => rfl) (hs.rel.obj i o hi), hs.rel.sep, hs.rel.imm, hs.rel.ltI⟩,
    hs.gl.kept (w := w) (w' := { w with drawn := w.drawn + 1 }) (fun _ h => h) (fun _ _ => rfl), hs.nod⟩
/-- The operations: one step each, no guard; the i-th and the next stand behind nothing. -/
def twoB (i : Nat) (l : List Oper) : Bool :=
  (l.all fun o => o.guard.isNone && oneB o) && Nat.blt (i + 1) l.length && (match l[i]? with
    | some o => o.after.toList.isEmpty
    | none => false)
theorem DrawVC.two (i : Nat) {P : Program} {Γ : Ty} {G : Gl} {N id : Nat} {ops : Array Oper} {s : LS} {K : Exit → LS → Prop} (hm : P.follows .mixedOrders = true) (hB : twoB i ops.toList = true)
    (h1 : AnyVC P G N (opsE (i + 1) i ops) s K) (h2 : AnyVC P G N (opsS i ops) s K) : DrawVC P Γ G N id ops s K := by
  refine ⟨fun X hX A E w a hA hs hJ => ?_⟩
  unfold twoB at hB
  rw [Bool.and_eq_true, Bool.and_eq_true] at hB
  obtain ⟨⟨b1, b2⟩, b3⟩ := hB
  have b2' : i + 1 + 1 ≤ ops.size := by simpa [Nat.blt] using b2
  have b2 : i + 1 < ops.size := by omega
  have hfree : ∃ o, ops[i]? = some o ∧ o.after = #[] := by
    rw [Array.getElem?_toList] at b3
    cases ho : ops[i]? with
    | none => rw [ho] at b3; cases b3
    | some o =>
      rw [ho] at b3
      refine ⟨o, rfl, ?_⟩
      have : o.after.toList = [] := by simpa using b3
      exact Array.toList_inj.1 this
  have hg : ∀ (k : Nat) (o : Oper), ops[k]? = some o → o.guard = none ∧ oneB o = true := by
    intro k o ho
    have hmem : o ∈ ops.toList := List.mem_of_getElem? (by rw [Array.getElem?_toList]; exact ho)
    have := List.all_eq_true.1 b1 o hmem
    rw [Bool.and_eq_true] at this
    exact ⟨by simpa using this.1, this.2⟩
  have s1 := sim_edge ops (i + 1) i
  have s2 := sim_swap ops i b2
  have w1 := h1 A E w a hA hs
  have w2 := h2 A E w a hA hs
  rw [s1.size] at w1
  rw [s2.size] at w2
  have same : ∀ π : Nat → Nat, Same π (Array.replicate ops.size false) (Array.replicate ops.size false) := fun π => ⟨rfl, fun m => by rw [no_listed, no_listed]⟩
  have hw := both_orders (onlyN_out _) s1 s2 (by omega : i ≠ i + 1) hg hfree ops.size _ _ _ a { w with drawn := w.drawn + 1 } (by simp) (same _) (same _) (no_listed _ _) (no_listed _ _) w1 w2
  exact wpIn_mono (wpIn_region_any hm (wpAny_lift (onlyN_out _) hX _ hw)) (liftQ_only fun a w h => h)
end Go.LX
end
section
set_option maxRecDepth 100000
set_option maxHeartbeats 2000000
set_option autoImplicit false
set_option linter.unusedVariables false
set_option linter.unusedSimpArgs false
namespace Go.LX
open Go.Proofs

/-! ## The same proofs -/
theorem flL_at (l : List Lf) {k : Nat} (h : k < l.length) (d : Lf) : ((flL l).drop (((k : Nat) : Int).toNat * 5)).take 5 = enL (l.getD k d) := by
  rw [Int.toNat_natCast]
  induction l generalizing k with
  | nil => simp at h
  | cons a r ih =>
    match k with
    | 0 =>
      rw [Nat.zero_mul, List.drop_zero, flL, List.flatMap_cons]
      exact List.take_left' rfl
    | k + 1 =>
      rw [show (k + 1) * 5 = 5 + k * 5 by omega, ← List.drop_drop, flL, List.flatMap_cons, List.drop_left' (show (enL a).length = 5 from rfl), List.getD_cons_succ]
      exact ih (by simpa using h)
def lf0 : Lf := ⟨0, 0, [], [], []⟩
def same9S : Spec := fun args H Q => match args, H with
  | [.agg [.bool a, .sl 5 n cs f], .agg [.bool b, .sl 5 n' cs' f']], [] => ∃ L : List Lf, a = b ∧ cs = flL L ∧ cs' = flL L ∧ n = L.length ∧ n' = L.length ∧ L.length < 1000000 ∧ (∀ x ∈ L, x.p.length ≤ 9223372036854775807) ∧ Q (.bool true) []
  | _, _ => False
theorem same9_c : Meets Tryd.prog [] 13 same9S := by
  refine meets_of Γok Tryd.func13 rfl ?_
  intro args H Q h
  unfold same9S at h
  split at h
  case h_2 => exact h.elim
  rename_i a n cs f b n' cs' f'
  obtain ⟨L, rfl, rfl, rfl, rfl, rfl, hL, hp, h⟩ := h
  have c1 : (!decide (a = a)) = false := by simp
  have c2 : (!decide (((L.length : Nat) : Int) = ((L.length : Nat) : Int))) = false := by simp
  (refine sx_sound Γok _ ?_; conv => whnf)
  (repeat (first | (refine Both.of_false c1 ?_; conv => whnf) | (refine Both.of_false c2 ?_; conv => whnf) | (exact Out.same; conv => whnf) | (exact Out1.same; conv => whnf) | (refine QAnd.mk ?_ ?_; conv => whnf) | (apply QStepH.go; conv => whnf) | (refine Both.lit_true ?_; conv => whnf) | (refine Both.lit_false ?_; conv => whnf) | (apply QStep.go; conv => whnf) | (refine Need.mk ?_ ?_; (focus (first | omega | exact ⟨by omega, by omega⟩ | rfl | exact ⟨rfl, rfl⟩ | exact ⟨rfl, by omega, by omega⟩ | exact ⟨by omega, by omega, by omega⟩ | exact ⟨rfl, Nat.le_of_ble_eq_true rfl⟩ | exact Nat.le_of_ble_eq_true rfl | (refine ⟨rfl, rfl, ?_⟩; simp [isFar, ofV0, CV.up, SV.renL, SV.ren] <;> fail) | (refine ⟨rfl, Nat.le_of_ble_eq_true rfl, ?_⟩; simp [isFar, ofV0, CV.up, SV.renL, SV.ren] <;> fail) | (simp only [List.length_append, List.length_drop, List.length_take, List.length_replicate, List.length_map]; omega) | (simp <;> fail))); conv => whnf) | (refine ⟨_, rfl, ?_⟩; conv => whnf)))
  refine loop_rule (fun k : Nat => ⟨[.any, .any, .ptr 0 0, .ptr 1 0, .any, .int .i64 (k : Int), .any, .any, .any, .any, .any, .any, .any, .any, .any, .any, .any, .any, .any, .any, .any, .any, .any, .any, .any, .any, .any, .any, .any, .any, .any, .any, .any, .any, .any, .any, .any, .any, .any, .any, .any, .any, .any, .any, .any, .any, .any, .any, .any, .any, .any, .any, .any, .any, .any, .any, .any, .any, .any, .any, .any, .any, .any, .any, .any, .any], [.cells [.bool a, .sl 5 L.length (flL L) f] 29, .cells [.bool a, .sl 5 L.length (flL L) f'] 29]⟩) (fun k => k ≤ L.length) (fun k => L.length - k) 0 (Nat.zero_le _) (Weak.auto ?_) ?_
  · (repeat' ((conv => whnf); first | exact True.intro | (refine And.intro ?_ ?_)))
    all_goals first | rfl | exact .eq rfl
  intro k hk
  (refine sx_sound Γok _ ?_; conv => whnf)
  (repeat (first | (exact Out.same; conv => whnf) | (exact Out1.same; conv => whnf) | (refine QAnd.mk ?_ ?_; conv => whnf) | (apply QStepH.go; conv => whnf) | (refine Both.lit_true ?_; conv => whnf) | (refine Both.lit_false ?_; conv => whnf) | (apply QStep.go; conv => whnf) | (refine Need.mk ?_ ?_; (focus (first | omega | exact ⟨by omega, by omega⟩ | rfl | exact ⟨rfl, rfl⟩ | exact ⟨rfl, by omega, by omega⟩ | exact ⟨by omega, by omega, by omega⟩ | exact ⟨rfl, Nat.le_of_ble_eq_true rfl⟩ | exact Nat.le_of_ble_eq_true rfl | (refine ⟨rfl, rfl, ?_⟩; simp [isFar, ofV0, CV.up, SV.renL, SV.ren] <;> fail) | (refine ⟨rfl, Nat.le_of_ble_eq_true rfl, ?_⟩; simp [isFar, ofV0, CV.up, SV.renL, SV.ren] <;> fail) | (simp only [List.length_append, List.length_drop, List.length_take, List.length_replicate, List.length_map]; omega) | (simp <;> fail))); conv => whnf) | (refine ⟨_, rfl, ?_⟩; conv => whnf)))
  refine Both.dec (fun hlt => ?_) (fun hge => ?_)
  · have hkl : k < L.length := by omega
    have hat := flL_at L hkl lf0
    obtain ⟨x, hx⟩ : ∃ x, L.getD k lf0 = x := ⟨_, rfl⟩
    have hxp : x.p.length ≤ 9223372036854775807 := by
      refine hp x ?_
      rw [← hx, List.getD_eq_getElem?_getD, List.getElem?_eq_getElem hkl]
      exact List.getElem_mem _
    rw [hx] at hat
    have hat : ((flL L).drop (((k : Nat) : Int).toNat * 5)).take 5 = [CV.int .i64 x.i, .int .i64 x.c, .str x.k, .str x.v, .sl 1 x.p.length (strs x.p) false] := hat
    have hix : ti41.size = 5 ∧ (0 : Int) ≤ (k : Int) ∧ (k : Int) < ((L.length : Nat) : Int) := ⟨rfl, by omega, by omega⟩
    have hk1 : IntKind.i64.wrap ((k : Int) + 1) = ((k + 1 : Nat) : Int) := by rw [wrap_i64 (by omega) (by omega)]; rfl
    have d1 : (!decide (x.i = x.i)) = false := by simp
    have d2 : (!decide (x.c = x.c)) = false := by simp
    have d3 : (!(decide (x.k = x.k) && (decide (x.v = x.v) && true))) = false := by simp
    (conv => whnf)
    refine DrawVC.two 10 (by kernel_rfl) (by kernel_rfl) (AnyVC.quiet [] Γok (by kernel_rfl) (by kernel_rfl) (by rfl) ?_) (AnyVC.quiet [] Γok (by kernel_rfl) (by kernel_rfl) (by rfl) ?_)
    all_goals
      (conv => whnf)
      (repeat (first | (refine Need.mk hix ?_; conv => whnf) | (refine ⟨_, hat, ?_⟩; conv => whnf) | (exact Out.same; conv => whnf) | (exact Out1.same; conv => whnf) | (refine QAnd.mk ?_ ?_; conv => whnf) | (apply QStepH.go; conv => whnf) | (refine Both.lit_true ?_; conv => whnf) | (refine Both.lit_false ?_; conv => whnf) | (apply QStep.go; conv => whnf) | (refine Need.mk ?_ ?_; (focus (first | omega | exact ⟨by omega, by omega⟩ | rfl | exact ⟨rfl, rfl⟩ | exact ⟨rfl, by omega, by omega⟩ | exact ⟨by omega, by omega, by omega⟩ | exact ⟨rfl, Nat.le_of_ble_eq_true rfl⟩ | exact Nat.le_of_ble_eq_true rfl | (refine ⟨rfl, rfl, ?_⟩; simp [isFar, ofV0, CV.up, SV.renL, SV.ren] <;> fail) | (refine ⟨rfl, Nat.le_of_ble_eq_true rfl, ?_⟩; simp [isFar, ofV0, CV.up, SV.renL, SV.ren] <;> fail) | (simp only [List.length_append, List.length_drop, List.length_take, List.length_replicate, List.length_map]; omega) | (simp <;> fail))); conv => whnf) | (refine ⟨_, rfl, ?_⟩; conv => whnf)))
      (repeat (first | (refine Both.of_false d1 ?_; conv => whnf) | (refine Both.of_false d2 ?_; conv => whnf) | (refine Both.of_false d3 ?_; conv => whnf) | (refine CallVC.auto texts_k ⟨x.p, rfl, rfl, rfl, rfl, hxp, ?_⟩; conv => whnf) | (exact Out.same; conv => whnf) | (exact Out1.same; conv => whnf) | (refine QAnd.mk ?_ ?_; conv => whnf) | (apply QStepH.go; conv => whnf) | (refine Both.lit_true ?_; conv => whnf) | (refine Both.lit_false ?_; conv => whnf) | (apply QStep.go; conv => whnf) | (refine Need.mk ?_ ?_; (focus (first | omega | exact ⟨by omega, by omega⟩ | rfl | exact ⟨rfl, rfl⟩ | exact ⟨rfl, by omega, by omega⟩ | exact ⟨by omega, by omega, by omega⟩ | exact ⟨rfl, Nat.le_of_ble_eq_true rfl⟩ | exact Nat.le_of_ble_eq_true rfl | (refine ⟨rfl, rfl, ?_⟩; simp [isFar, ofV0, CV.up, SV.renL, SV.ren] <;> fail) | (refine ⟨rfl, Nat.le_of_ble_eq_true rfl, ?_⟩; simp [isFar, ofV0, CV.up, SV.renL, SV.ren] <;> fail) | (simp only [List.length_append, List.length_drop, List.length_take, List.length_replicate, List.length_map]; omega) | (simp <;> fail))); conv => whnf) | (refine ⟨_, rfl, ?_⟩; conv => whnf)))
      refine ⟨k + 1, by omega, by omega, Weak.auto ?_⟩
      (repeat' ((conv => whnf); first | exact True.intro | (refine And.intro ?_ ?_)))
      all_goals first | rfl | exact .eq rfl | exact congrArg (SV.int .i64) hk1
  (conv => whnf)
  (repeat (first | (exact Out.same; conv => whnf) | (exact Out1.same; conv => whnf) | (refine QAnd.mk ?_ ?_; conv => whnf) | (apply QStepH.go; conv => whnf) | (refine Both.lit_true ?_; conv => whnf) | (refine Both.lit_false ?_; conv => whnf) | (apply QStep.go; conv => whnf) | (refine Need.mk ?_ ?_; (focus (first | omega | exact ⟨by omega, by omega⟩ | rfl | exact ⟨rfl, rfl⟩ | exact ⟨rfl, by omega, by omega⟩ | exact ⟨by omega, by omega, by omega⟩ | exact ⟨rfl, Nat.le_of_ble_eq_true rfl⟩ | exact Nat.le_of_ble_eq_true rfl | (refine ⟨rfl, rfl, ?_⟩; simp [isFar, ofV0, CV.up, SV.renL, SV.ren] <;> fail) | (refine ⟨rfl, Nat.le_of_ble_eq_true rfl, ?_⟩; simp [isFar, ofV0, CV.up, SV.renL, SV.ren] <;> fail) | (simp only [List.length_append, List.length_drop, List.length_take, List.length_replicate, List.length_map]; omega) | (simp <;> fail))); conv => whnf) | (refine ⟨_, rfl, ?_⟩; conv => whnf)))
  exact ⟨_, _, WeakV.drop rfl, h⟩
theorem same9_k : Contract Tryd.prog [] 13 same9S := ⟨⟨⟨_, rfl, rfl, rfl⟩⟩, same9_c⟩
end Go.LX
end
section
set_option maxRecDepth 100000
set_option maxHeartbeats 2000000
set_option autoImplicit false
set_option linter.unusedVariables false
set_option linter.unusedSimpArgs false
namespace Go.LX
open Go.Proofs

/-! ## awake, few; ProofMakes -/
def few9S : Spec := fun args H Q => match args, H with
  | [.sl 2 n cs f], [] => ∃ l : List Pr, n = l.length ∧ cs = flP l ∧ l.length ≤ 9223372036854775807 ∧ Q (.bool (decide (l.length ≤ 40 ∧ chkV l = 0))) []
  | _, _ => False
theorem few9_c : Meets Tryd.prog [] 7 few9S := by
  refine meets_of Γok Tryd.func7 rfl ?_
  intro args H Q h
  unfold few9S at h
  split at h
  case h_2 => exact h.elim
  rename_i n cs f
  obtain ⟨l, rfl, rfl, hl, h⟩ := h
  (refine sx_sound Γok _ ?_; conv => whnf)
  (repeat (first | (exact Out.same; conv => whnf) | (exact Out1.same; conv => whnf) | (refine QAnd.mk ?_ ?_; conv => whnf) | (apply QStepH.go; conv => whnf) | (refine Both.lit_true ?_; conv => whnf) | (refine Both.lit_false ?_; conv => whnf) | (apply QStep.go; conv => whnf) | (refine Need.mk ?_ ?_; (focus (first | omega | exact ⟨by omega, by omega⟩ | rfl | exact ⟨rfl, rfl⟩ | exact ⟨rfl, by omega, by omega⟩ | exact ⟨by omega, by omega, by omega⟩ | exact ⟨rfl, Nat.le_of_ble_eq_true rfl⟩ | exact Nat.le_of_ble_eq_true rfl | (refine ⟨rfl, rfl, ?_⟩; simp [isFar, ofV0, CV.up, SV.renL, SV.ren] <;> fail) | (refine ⟨rfl, Nat.le_of_ble_eq_true rfl, ?_⟩; simp [isFar, ofV0, CV.up, SV.renL, SV.ren] <;> fail) | (simp only [List.length_append, List.length_drop, List.length_take, List.length_replicate, List.length_map]; omega) | (simp <;> fail))); conv => whnf) | (refine ⟨_, rfl, ?_⟩; conv => whnf)))
  refine Both.dec (fun h1 => ?_) (fun h1 => ?_)
  · have e : decide (chkV l = 0) = decide (l.length ≤ 40 ∧ chkV l = 0) := decide_eq_decide.2 ⟨fun q => ⟨by omega, q⟩, fun q => q.2⟩
    (conv => whnf)
    (repeat (first | (refine CallVC.auto rchk_k ⟨l, rfl, rfl, hl, ?_⟩; conv => whnf) | (exact Out.same; conv => whnf) | (exact Out1.same; conv => whnf) | (refine QAnd.mk ?_ ?_; conv => whnf) | (apply QStepH.go; conv => whnf) | (refine Both.lit_true ?_; conv => whnf) | (refine Both.lit_false ?_; conv => whnf) | (apply QStep.go; conv => whnf) | (refine Need.mk ?_ ?_; (focus (first | omega | exact ⟨by omega, by omega⟩ | rfl | exact ⟨rfl, rfl⟩ | exact ⟨rfl, by omega, by omega⟩ | exact ⟨by omega, by omega, by omega⟩ | exact ⟨rfl, Nat.le_of_ble_eq_true rfl⟩ | exact Nat.le_of_ble_eq_true rfl | (refine ⟨rfl, rfl, ?_⟩; simp [isFar, ofV0, CV.up, SV.renL, SV.ren] <;> fail) | (refine ⟨rfl, Nat.le_of_ble_eq_true rfl, ?_⟩; simp [isFar, ofV0, CV.up, SV.renL, SV.ren] <;> fail) | (simp only [List.length_append, List.length_drop, List.length_take, List.length_replicate, List.length_map]; omega) | (simp <;> fail))); conv => whnf) | (refine ⟨_, rfl, ?_⟩; conv => whnf)))
    refine ⟨_, _, WeakV.drop rfl, ?_⟩
    exact (congrArg (fun b => Q (SV.bool b) []) e).mpr h
  · have e : false = decide (l.length ≤ 40 ∧ chkV l = 0) := (decide_eq_false (fun q => by omega)).symm
    (conv => whnf)
    (repeat (first | (exact Out.same; conv => whnf) | (exact Out1.same; conv => whnf) | (refine QAnd.mk ?_ ?_; conv => whnf) | (apply QStepH.go; conv => whnf) | (refine Both.lit_true ?_; conv => whnf) | (refine Both.lit_false ?_; conv => whnf) | (apply QStep.go; conv => whnf) | (refine Need.mk ?_ ?_; (focus (first | omega | exact ⟨by omega, by omega⟩ | rfl | exact ⟨rfl, rfl⟩ | exact ⟨rfl, by omega, by omega⟩ | exact ⟨by omega, by omega, by omega⟩ | exact ⟨rfl, Nat.le_of_ble_eq_true rfl⟩ | exact Nat.le_of_ble_eq_true rfl | (refine ⟨rfl, rfl, ?_⟩; simp [isFar, ofV0, CV.up, SV.renL, SV.ren] <;> fail) | (refine ⟨rfl, Nat.le_of_ble_eq_true rfl, ?_⟩; simp [isFar, ofV0, CV.up, SV.renL, SV.ren] <;> fail) | (simp only [List.length_append, List.length_drop, List.length_take, List.length_replicate, List.length_map]; omega) | (simp <;> fail))); conv => whnf) | (refine ⟨_, rfl, ?_⟩; conv => whnf)))
    refine ⟨_, _, WeakV.drop rfl, ?_⟩
    exact (congrArg (fun b => Q (SV.bool b) []) e).mpr h
theorem few9_k : Contract Tryd.prog [] 7 few9S := ⟨⟨⟨_, rfl, rfl, rfl⟩⟩, few9_c⟩
theorem chk_sort {l : List Pr} (h : chkV l = 0) : sortB l := by
  unfold chkV at h
  split at h
  · cases h
  · split at h
    · cases h
    · split at h
      · rename_i h3
        exact ordB_sort l h3
      · cases h
def ac : List Pr := [([97], []), ([99], [])]
theorem ac_sort : sortB ac := ordB_sort ac rfl
theorem ac_b : IsPlace ac [98] 1 := ⟨by decide, fun j hj => by
  obtain rfl : j = 0 := by omega
  rfl, fun j h1 h2 => by
  obtain rfl : j = 1 := by simp [ac] at h2; omega
  rfl⟩
theorem ac_d : IsPlace ac [100] 2 := ⟨by decide, fun j hj => by
  match j with
  | 0 => rfl
  | 1 => rfl
  | j + 2 => omega, fun j h1 h2 => by simp [ac] at h2; omega⟩
theorem ac_ok : ∀ p ∈ ac, okP p := fun p hp => by
  rcases List.mem_cons.1 hp with rfl | hp
  · exact ⟨by decide, by decide⟩
  · rw [List.mem_singleton.1 hp]
    exact ⟨by decide, by decide⟩
theorem awake9_c {y0 : CV} {cs0 : List CV} (hK : KAt y0 cs0) : Meets Tryd.prog [(0, y0 :: cs0)] 6 yesS := by
  refine meets_of Γok Tryd.func6 rfl ?_
  intro args H Q h
  unfold yesS at h
  split at h
  case h_2 => exact h.elim
  have e1 : absV ac [98] 1 = (true, [madeL ac 0, madeL ac 1], 0) := by
    rw [abs_yes (by decide) (by decide)]
    rfl
  have e2 : absV ac [100] 2 = (true, [madeL ac 1], 0) := by
    rw [abs_yes (by decide) (by decide)]
    rfl
  have c0 : decide ((0 : Int) = 0) = true := rfl
  have c2 : decide (((([madeL ac 0, madeL ac 1] : List Lf).length : Nat) : Int) = 2) = true := rfl
  have c1 : decide (((([madeL ac 1] : List Lf).length : Nat) : Int) = 1) = true := rfl
  have hat : ((flL [madeL ac 1]).drop ((0 : Int).toNat * 5)).take 5 = [CV.int .i64 1, .int .i64 2, .str [99], .str [], .sl 1 (pathP ac 1).length (strs (pathP ac 1)) false] := rfl
  have hix : ti41.size = 5 ∧ (0 : Int) ≤ 0 ∧ (0 : Int) < ((([madeL ac 1] : List Lf).length : Nat) : Int) := ⟨rfl, by omega, by decide⟩
  (refine sx_sound Γok _ ?_; conv => whnf)
  (repeat (first | (exact Out.same; conv => whnf) | (exact Out1.same; conv => whnf) | (refine QAnd.mk ?_ ?_; conv => whnf) | (apply QStepH.go; conv => whnf) | (refine Both.lit_true ?_; conv => whnf) | (refine Both.lit_false ?_; conv => whnf) | (apply QStep.go; conv => whnf) | (refine Need.mk ?_ ?_; (focus (first | omega | exact ⟨by omega, by omega⟩ | rfl | exact ⟨rfl, rfl⟩ | exact ⟨rfl, by omega, by omega⟩ | exact ⟨by omega, by omega, by omega⟩ | exact ⟨rfl, Nat.le_of_ble_eq_true rfl⟩ | exact Nat.le_of_ble_eq_true rfl | (refine ⟨rfl, rfl, ?_⟩; simp [isFar, ofV0, CV.up, SV.renL, SV.ren] <;> fail) | (refine ⟨rfl, Nat.le_of_ble_eq_true rfl, ?_⟩; simp [isFar, ofV0, CV.up, SV.renL, SV.ren] <;> fail) | (simp only [List.length_append, List.length_drop, List.length_take, List.length_replicate, List.length_map]; omega) | (simp <;> fail))); conv => whnf) | (refine ⟨_, rfl, ?_⟩; conv => whnf)))
  refine CallVC.auto (mabs_k hK) ⟨ac, rfl, rfl, by decide, ac_ok, ac_sort, fun k a L e hk he => ?_⟩
  obtain rfl : k = 1 := hk.eq ac_b
  obtain ⟨ra, he2⟩ := Prod.mk.inj (he.trans e1)
  obtain ⟨rL, re⟩ := Prod.mk.inj he2
  clear he he2
  subst ra rL re
  (conv => whnf)
  (repeat (first | (exact Out.same; conv => whnf) | (exact Out1.same; conv => whnf) | (refine QAnd.mk ?_ ?_; conv => whnf) | (apply QStepH.go; conv => whnf) | (refine Both.lit_true ?_; conv => whnf) | (refine Both.lit_false ?_; conv => whnf) | (apply QStep.go; conv => whnf) | (refine Need.mk ?_ ?_; (focus (first | omega | exact ⟨by omega, by omega⟩ | rfl | exact ⟨rfl, rfl⟩ | exact ⟨rfl, by omega, by omega⟩ | exact ⟨by omega, by omega, by omega⟩ | exact ⟨rfl, Nat.le_of_ble_eq_true rfl⟩ | exact Nat.le_of_ble_eq_true rfl | (refine ⟨rfl, rfl, ?_⟩; simp [isFar, ofV0, CV.up, SV.renL, SV.ren] <;> fail) | (refine ⟨rfl, Nat.le_of_ble_eq_true rfl, ?_⟩; simp [isFar, ofV0, CV.up, SV.renL, SV.ren] <;> fail) | (simp only [List.length_append, List.length_drop, List.length_take, List.length_replicate, List.length_map]; omega) | (simp <;> fail))); conv => whnf) | (refine ⟨_, rfl, ?_⟩; conv => whnf)))
  refine CallVC.auto (mabs_k hK) ⟨ac, rfl, rfl, by decide, ac_ok, ac_sort, fun k a L e hk he => ?_⟩
  obtain rfl : k = 2 := hk.eq ac_d
  obtain ⟨ra, he2⟩ := Prod.mk.inj (he.trans e2)
  obtain ⟨rL, re⟩ := Prod.mk.inj he2
  clear he he2
  subst ra rL re
  (conv => whnf)
  (repeat (first | (refine Both.of_true c0 ?_; conv => whnf) | (refine Both.of_true c2 ?_; conv => whnf) | (refine Both.of_true c1 ?_; conv => whnf) | (refine Need.mk hix ?_; conv => whnf) | (refine ⟨_, hat, ?_⟩; conv => whnf) | (exact Out.same; conv => whnf) | (exact Out1.same; conv => whnf) | (refine QAnd.mk ?_ ?_; conv => whnf) | (apply QStepH.go; conv => whnf) | (refine Both.lit_true ?_; conv => whnf) | (refine Both.lit_false ?_; conv => whnf) | (apply QStep.go; conv => whnf) | (refine Need.mk ?_ ?_; (focus (first | omega | exact ⟨by omega, by omega⟩ | rfl | exact ⟨rfl, rfl⟩ | exact ⟨rfl, by omega, by omega⟩ | exact ⟨by omega, by omega, by omega⟩ | exact ⟨rfl, Nat.le_of_ble_eq_true rfl⟩ | exact Nat.le_of_ble_eq_true rfl | (refine ⟨rfl, rfl, ?_⟩; simp [isFar, ofV0, CV.up, SV.renL, SV.ren] <;> fail) | (refine ⟨rfl, Nat.le_of_ble_eq_true rfl, ?_⟩; simp [isFar, ofV0, CV.up, SV.renL, SV.ren] <;> fail) | (simp only [List.length_append, List.length_drop, List.length_take, List.length_replicate, List.length_map]; omega) | (simp <;> fail))); conv => whnf) | (refine ⟨_, rfl, ?_⟩; conv => whnf)))
  exact ⟨_, _, WeakV.drop rfl, h⟩
theorem awake9_k {y0 : CV} {cs0 : List CV} (hK : KAt y0 cs0) : Contract Tryd.prog [(0, y0 :: cs0)] 6 yesS := ⟨⟨⟨_, rfl, rfl, rfl⟩⟩, awake9_c hK⟩
def lawMakesS : Spec := fun args H Q => match args, H with
  | [.sl 2 n cs f, .str t], [] => ∃ l : List Pr, n = l.length ∧ cs = flP l ∧ l.length ≤ 9223372036854775807 ∧ Q (.bool true) []
  | _, _ => False
theorem made_dep {l : List Pr} (h : l.length ≤ 40) (k : Nat) : (pathP l k).length ≤ 9223372036854775807 := by
  rcases Nat.eq_zero_or_pos l.length with h0 | h0
  · rw [pathP_one (by omega)]
    exact Nat.zero_le _
  · have := path_lt l k h0
    omega
theorem makes_law {y0 : CV} {cs0 : List CV} (hK : KAt y0 cs0) : Meets Tryd.prog [(0, y0 :: cs0)] 3 lawMakesS := by
  refine meets_of Γok Tryd.func3 rfl ?_
  intro args H Q h
  unfold lawMakesS at h
  split at h
  case h_2 => exact h.elim
  rename_i n cs f t
  obtain ⟨l, rfl, rfl, hl, h⟩ := h
  by_cases hf : l.length ≤ 40 ∧ chkV l = 0
  case neg =>
    have c1 : (!decide (l.length ≤ 40 ∧ chkV l = 0)) = true := by rw [decide_eq_false hf]; rfl
    (refine sx_sound Γok _ ?_; conv => whnf)
    (repeat (first | (exact Out.same; conv => whnf) | (exact Out1.same; conv => whnf) | (refine QAnd.mk ?_ ?_; conv => whnf) | (apply QStepH.go; conv => whnf) | (refine Both.lit_true ?_; conv => whnf) | (refine Both.lit_false ?_; conv => whnf) | (apply QStep.go; conv => whnf) | (refine Need.mk ?_ ?_; (focus (first | omega | exact ⟨by omega, by omega⟩ | rfl | exact ⟨rfl, rfl⟩ | exact ⟨rfl, by omega, by omega⟩ | exact ⟨by omega, by omega, by omega⟩ | exact ⟨rfl, Nat.le_of_ble_eq_true rfl⟩ | exact Nat.le_of_ble_eq_true rfl | (refine ⟨rfl, rfl, ?_⟩; simp [isFar, ofV0, CV.up, SV.renL, SV.ren] <;> fail) | (refine ⟨rfl, Nat.le_of_ble_eq_true rfl, ?_⟩; simp [isFar, ofV0, CV.up, SV.renL, SV.ren] <;> fail) | (simp only [List.length_append, List.length_drop, List.length_take, List.length_replicate, List.length_map]; omega) | (simp <;> fail))); conv => whnf) | (refine ⟨_, rfl, ?_⟩; conv => whnf) | (refine CallVC.auto (awake9_k hK) ?_; conv => whnf)))
    refine CallVC.auto few9_k.gl ⟨l, rfl, rfl, hl, ?_⟩
    (conv => whnf)
    (repeat (first | (refine Both.of_true c1 ?_; conv => whnf) | (exact Out.same; conv => whnf) | (exact Out1.same; conv => whnf) | (refine QAnd.mk ?_ ?_; conv => whnf) | (apply QStepH.go; conv => whnf) | (refine Both.lit_true ?_; conv => whnf) | (refine Both.lit_false ?_; conv => whnf) | (apply QStep.go; conv => whnf) | (refine Need.mk ?_ ?_; (focus (first | omega | exact ⟨by omega, by omega⟩ | rfl | exact ⟨rfl, rfl⟩ | exact ⟨rfl, by omega, by omega⟩ | exact ⟨by omega, by omega, by omega⟩ | exact ⟨rfl, Nat.le_of_ble_eq_true rfl⟩ | exact Nat.le_of_ble_eq_true rfl | (refine ⟨rfl, rfl, ?_⟩; simp [isFar, ofV0, CV.up, SV.renL, SV.ren] <;> fail) | (refine ⟨rfl, Nat.le_of_ble_eq_true rfl, ?_⟩; simp [isFar, ofV0, CV.up, SV.renL, SV.ren] <;> fail) | (simp only [List.length_append, List.length_drop, List.length_take, List.length_replicate, List.length_map]; omega) | (simp <;> fail))); conv => whnf) | (refine ⟨_, rfl, ?_⟩; conv => whnf)))
    exact ⟨_, _, WeakV.drop rfl, h⟩
  have c1 : (!decide (l.length ≤ 40 ∧ chkV l = 0)) = false := by rw [decide_eq_true hf]; rfl
  have hsort := chk_sort hf.2
  have h60 : l.length < 60000 := by omega
  have hok : ∀ p ∈ l, okP p := fun p hp => by
    have := (chk_short hf.2).2 p hp
    exact ⟨by omega, by omega⟩
  (refine sx_sound Γok _ ?_; conv => whnf)
  (repeat (first | (exact Out.same; conv => whnf) | (exact Out1.same; conv => whnf) | (refine QAnd.mk ?_ ?_; conv => whnf) | (apply QStepH.go; conv => whnf) | (refine Both.lit_true ?_; conv => whnf) | (refine Both.lit_false ?_; conv => whnf) | (apply QStep.go; conv => whnf) | (refine Need.mk ?_ ?_; (focus (first | omega | exact ⟨by omega, by omega⟩ | rfl | exact ⟨rfl, rfl⟩ | exact ⟨rfl, by omega, by omega⟩ | exact ⟨by omega, by omega, by omega⟩ | exact ⟨rfl, Nat.le_of_ble_eq_true rfl⟩ | exact Nat.le_of_ble_eq_true rfl | (refine ⟨rfl, rfl, ?_⟩; simp [isFar, ofV0, CV.up, SV.renL, SV.ren] <;> fail) | (refine ⟨rfl, Nat.le_of_ble_eq_true rfl, ?_⟩; simp [isFar, ofV0, CV.up, SV.renL, SV.ren] <;> fail) | (simp only [List.length_append, List.length_drop, List.length_take, List.length_replicate, List.length_map]; omega) | (simp <;> fail))); conv => whnf) | (refine ⟨_, rfl, ?_⟩; conv => whnf) | (refine CallVC.auto (awake9_k hK) ?_; conv => whnf)))
  refine CallVC.auto few9_k.gl ⟨l, rfl, rfl, hl, ?_⟩
  (conv => whnf)
  (repeat (first | (refine Both.of_false c1 ?_; conv => whnf) | (exact Out.same; conv => whnf) | (exact Out1.same; conv => whnf) | (refine QAnd.mk ?_ ?_; conv => whnf) | (apply QStepH.go; conv => whnf) | (refine Both.lit_true ?_; conv => whnf) | (refine Both.lit_false ?_; conv => whnf) | (apply QStep.go; conv => whnf) | (refine Need.mk ?_ ?_; (focus (first | omega | exact ⟨by omega, by omega⟩ | rfl | exact ⟨rfl, rfl⟩ | exact ⟨rfl, by omega, by omega⟩ | exact ⟨by omega, by omega, by omega⟩ | exact ⟨rfl, Nat.le_of_ble_eq_true rfl⟩ | exact Nat.le_of_ble_eq_true rfl | (refine ⟨rfl, rfl, ?_⟩; simp [isFar, ofV0, CV.up, SV.renL, SV.ren] <;> fail) | (refine ⟨rfl, Nat.le_of_ble_eq_true rfl, ?_⟩; simp [isFar, ofV0, CV.up, SV.renL, SV.ren] <;> fail) | (simp only [List.length_append, List.length_drop, List.length_take, List.length_replicate, List.length_map]; omega) | (simp <;> fail))); conv => whnf) | (refine ⟨_, rfl, ?_⟩; conv => whnf)))
  refine Both.dec (fun h3 => ?_) (fun h3 => ?_)
  · (conv => whnf)
    (repeat (first | (exact Out.same; conv => whnf) | (exact Out1.same; conv => whnf) | (refine QAnd.mk ?_ ?_; conv => whnf) | (apply QStepH.go; conv => whnf) | (refine Both.lit_true ?_; conv => whnf) | (refine Both.lit_false ?_; conv => whnf) | (apply QStep.go; conv => whnf) | (refine Need.mk ?_ ?_; (focus (first | omega | exact ⟨by omega, by omega⟩ | rfl | exact ⟨rfl, rfl⟩ | exact ⟨rfl, by omega, by omega⟩ | exact ⟨by omega, by omega, by omega⟩ | exact ⟨rfl, Nat.le_of_ble_eq_true rfl⟩ | exact Nat.le_of_ble_eq_true rfl | (refine ⟨rfl, rfl, ?_⟩; simp [isFar, ofV0, CV.up, SV.renL, SV.ren] <;> fail) | (refine ⟨rfl, Nat.le_of_ble_eq_true rfl, ?_⟩; simp [isFar, ofV0, CV.up, SV.renL, SV.ren] <;> fail) | (simp only [List.length_append, List.length_drop, List.length_take, List.length_replicate, List.length_map]; omega) | (simp <;> fail))); conv => whnf) | (refine ⟨_, rfl, ?_⟩; conv => whnf)))
    exact ⟨_, _, WeakV.drop rfl, h⟩
  obtain ⟨k0, hk0⟩ := place_ex hsort t
  obtain ⟨L, e, hp⟩ : ∃ L e, presV l t k0 = (L, e) := ⟨_, _, rfl⟩
  obtain ⟨a2, L2, e2, ha⟩ : ∃ a2 L2 e2, absV l t k0 = (a2, L2, e2) := ⟨_, _, _, rfl⟩
  have hp1 : L.length < 1000000 ∧ ∀ x ∈ L, x.p.length ≤ 9223372036854775807 := by
    have hL : L = (presV l t k0).1 := by rw [hp]
    rw [hL]
    unfold presV
    split
    · exact ⟨by show 1 < 1000000; decide, fun x hx => by rw [List.mem_singleton.1 hx]; exact made_dep hf.1 _⟩
    · exact ⟨by show 0 < 1000000; decide, fun x hx => by cases hx⟩
  have ha1 : L2.length < 1000000 ∧ ∀ x ∈ L2, x.p.length ≤ 9223372036854775807 := by
    have hL : L2 = (absV l t k0).2.1 := by rw [ha]
    rw [hL]
    unfold absV
    split
    · exact ⟨by show 0 < 1000000; decide, fun x hx => by cases hx⟩
    · split
      · exact ⟨by show 0 < 1000000; decide, fun x hx => by cases hx⟩
      · refine ⟨?_, fun x hx => ?_⟩
        · show (_ ++ _ : List Lf).length < _
          rw [List.length_append]
          split <;> split <;> exact Nat.le_of_ble_eq_true rfl
        · have hx : x ∈ (if 0 < k0 then [madeL l (k0 - 1)] else []) ++ (if k0 < l.length then [madeL l k0] else []) := hx
          rcases List.mem_append.1 hx with hx | hx
          · split at hx
            · rw [List.mem_singleton.1 hx]; exact made_dep hf.1 _
            · cases hx
          · split at hx
            · rw [List.mem_singleton.1 hx]; exact made_dep hf.1 _
            · cases hx
  have d1 : decide (e = e) = true := decide_eq_true rfl
  have d2 : decide (e2 = e2) = true := decide_eq_true rfl
  (conv => whnf)
  (repeat (first | (exact Out.same; conv => whnf) | (exact Out1.same; conv => whnf) | (refine QAnd.mk ?_ ?_; conv => whnf) | (apply QStepH.go; conv => whnf) | (refine Both.lit_true ?_; conv => whnf) | (refine Both.lit_false ?_; conv => whnf) | (apply QStep.go; conv => whnf) | (refine Need.mk ?_ ?_; (focus (first | omega | exact ⟨by omega, by omega⟩ | rfl | exact ⟨rfl, rfl⟩ | exact ⟨rfl, by omega, by omega⟩ | exact ⟨by omega, by omega, by omega⟩ | exact ⟨rfl, Nat.le_of_ble_eq_true rfl⟩ | exact Nat.le_of_ble_eq_true rfl | (refine ⟨rfl, rfl, ?_⟩; simp [isFar, ofV0, CV.up, SV.renL, SV.ren] <;> fail) | (refine ⟨rfl, Nat.le_of_ble_eq_true rfl, ?_⟩; simp [isFar, ofV0, CV.up, SV.renL, SV.ren] <;> fail) | (simp only [List.length_append, List.length_drop, List.length_take, List.length_replicate, List.length_map]; omega) | (simp <;> fail))); conv => whnf) | (refine ⟨_, rfl, ?_⟩; conv => whnf) | (refine CallVC.auto newb_k.gl ?_; conv => whnf)))
  refine CallVC.auto (mpres_k hK) ⟨l, rfl, rfl, h60, hok, hsort, fun k1 A1 f1 hk1 he1 => ?_⟩
  have q1 := hk1.eq hk0
  subst q1
  obtain ⟨u1, u2⟩ := Prod.mk.inj (he1.trans hp)
  clear he1
  subst u1 u2
  (conv => whnf)
  (repeat (first | (exact Out.same; conv => whnf) | (exact Out1.same; conv => whnf) | (refine QAnd.mk ?_ ?_; conv => whnf) | (apply QStepH.go; conv => whnf) | (refine Both.lit_true ?_; conv => whnf) | (refine Both.lit_false ?_; conv => whnf) | (apply QStep.go; conv => whnf) | (refine Need.mk ?_ ?_; (focus (first | omega | exact ⟨by omega, by omega⟩ | rfl | exact ⟨rfl, rfl⟩ | exact ⟨rfl, by omega, by omega⟩ | exact ⟨by omega, by omega, by omega⟩ | exact ⟨rfl, Nat.le_of_ble_eq_true rfl⟩ | exact Nat.le_of_ble_eq_true rfl | (refine ⟨rfl, rfl, ?_⟩; simp [isFar, ofV0, CV.up, SV.renL, SV.ren] <;> fail) | (refine ⟨rfl, Nat.le_of_ble_eq_true rfl, ?_⟩; simp [isFar, ofV0, CV.up, SV.renL, SV.ren] <;> fail) | (simp only [List.length_append, List.length_drop, List.length_take, List.length_replicate, List.length_map]; omega) | (simp <;> fail))); conv => whnf) | (refine ⟨_, rfl, ?_⟩; conv => whnf)))
  refine CallVC.auto (rpres_k.gl (G := [(0, y0 :: cs0)])) (inB_mk (T := []) ⟨l, rfl, rfl, h60, hok, hsort, fun k2 A2 f2 T2 hk2 he2 => ?_⟩)
  have q2 := hk2.eq hk1
  subst q2
  obtain ⟨u1, u2⟩ := Prod.mk.inj (he2.trans hp)
  clear he2
  subst u1 u2
  (conv => whnf)
  (repeat (first | (exact Out.same; conv => whnf) | (exact Out1.same; conv => whnf) | (refine QAnd.mk ?_ ?_; conv => whnf) | (apply QStepH.go; conv => whnf) | (refine Both.lit_true ?_; conv => whnf) | (refine Both.lit_false ?_; conv => whnf) | (apply QStep.go; conv => whnf) | (refine Need.mk ?_ ?_; (focus (first | omega | exact ⟨by omega, by omega⟩ | rfl | exact ⟨rfl, rfl⟩ | exact ⟨rfl, by omega, by omega⟩ | exact ⟨by omega, by omega, by omega⟩ | exact ⟨rfl, Nat.le_of_ble_eq_true rfl⟩ | exact Nat.le_of_ble_eq_true rfl | (refine ⟨rfl, rfl, ?_⟩; simp [isFar, ofV0, CV.up, SV.renL, SV.ren] <;> fail) | (refine ⟨rfl, Nat.le_of_ble_eq_true rfl, ?_⟩; simp [isFar, ofV0, CV.up, SV.renL, SV.ren] <;> fail) | (simp only [List.length_append, List.length_drop, List.length_take, List.length_replicate, List.length_map]; omega) | (simp <;> fail))); conv => whnf) | (refine ⟨_, rfl, ?_⟩; conv => whnf)))
  refine CallVC.auto (mabs_k hK) ⟨l, rfl, rfl, h60, hok, hsort, fun k3 b3 A3 f3 hk3 he3 => ?_⟩
  have q3 := hk3.eq hk2
  subst q3
  obtain ⟨u1, u4⟩ := Prod.mk.inj (he3.trans ha)
  obtain ⟨u2, u3⟩ := Prod.mk.inj u4
  clear he3 u4
  subst u1 u2 u3
  (conv => whnf)
  (repeat (first | (exact Out.same; conv => whnf) | (exact Out1.same; conv => whnf) | (refine QAnd.mk ?_ ?_; conv => whnf) | (apply QStepH.go; conv => whnf) | (refine Both.lit_true ?_; conv => whnf) | (refine Both.lit_false ?_; conv => whnf) | (apply QStep.go; conv => whnf) | (refine Need.mk ?_ ?_; (focus (first | omega | exact ⟨by omega, by omega⟩ | rfl | exact ⟨rfl, rfl⟩ | exact ⟨rfl, by omega, by omega⟩ | exact ⟨by omega, by omega, by omega⟩ | exact ⟨rfl, Nat.le_of_ble_eq_true rfl⟩ | exact Nat.le_of_ble_eq_true rfl | (refine ⟨rfl, rfl, ?_⟩; simp [isFar, ofV0, CV.up, SV.renL, SV.ren] <;> fail) | (refine ⟨rfl, Nat.le_of_ble_eq_true rfl, ?_⟩; simp [isFar, ofV0, CV.up, SV.renL, SV.ren] <;> fail) | (simp only [List.length_append, List.length_drop, List.length_take, List.length_replicate, List.length_map]; omega) | (simp <;> fail))); conv => whnf) | (refine ⟨_, rfl, ?_⟩; conv => whnf)))
  refine CallVC.auto (rabs_k.gl (G := [(0, y0 :: cs0)])) (inB_mk (T := T2) ⟨l, rfl, rfl, h60, hok, hsort, fun k4 b4 A4 f4 T4 hk4 he4 => ?_⟩)
  have q4 := hk4.eq hk3
  subst q4
  obtain ⟨u1, u4⟩ := Prod.mk.inj (he4.trans ha)
  obtain ⟨u2, u3⟩ := Prod.mk.inj u4
  clear he4 u4
  subst u1 u2 u3
  (conv => whnf)
  (repeat (first | (exact Out.same; conv => whnf) | (exact Out1.same; conv => whnf) | (refine QAnd.mk ?_ ?_; conv => whnf) | (apply QStepH.go; conv => whnf) | (refine Both.lit_true ?_; conv => whnf) | (refine Both.lit_false ?_; conv => whnf) | (apply QStep.go; conv => whnf) | (refine Need.mk ?_ ?_; (focus (first | omega | exact ⟨by omega, by omega⟩ | rfl | exact ⟨rfl, rfl⟩ | exact ⟨rfl, by omega, by omega⟩ | exact ⟨by omega, by omega, by omega⟩ | exact ⟨rfl, Nat.le_of_ble_eq_true rfl⟩ | exact Nat.le_of_ble_eq_true rfl | (refine ⟨rfl, rfl, ?_⟩; simp [isFar, ofV0, CV.up, SV.renL, SV.ren] <;> fail) | (refine ⟨rfl, Nat.le_of_ble_eq_true rfl, ?_⟩; simp [isFar, ofV0, CV.up, SV.renL, SV.ren] <;> fail) | (simp only [List.length_append, List.length_drop, List.length_take, List.length_replicate, List.length_map]; omega) | (simp <;> fail))); conv => whnf) | (refine ⟨_, rfl, ?_⟩; conv => whnf)))
  refine CallVC.auto same9_k.gl ⟨_, rfl, rfl, rfl, rfl, rfl, hp1.1, hp1.2, ?_⟩
  (conv => whnf)
  (repeat (first | (refine Both.of_true d1 ?_; conv => whnf) | (exact Out.same; conv => whnf) | (exact Out1.same; conv => whnf) | (refine QAnd.mk ?_ ?_; conv => whnf) | (apply QStepH.go; conv => whnf) | (refine Both.lit_true ?_; conv => whnf) | (refine Both.lit_false ?_; conv => whnf) | (apply QStep.go; conv => whnf) | (refine Need.mk ?_ ?_; (focus (first | omega | exact ⟨by omega, by omega⟩ | rfl | exact ⟨rfl, rfl⟩ | exact ⟨rfl, by omega, by omega⟩ | exact ⟨by omega, by omega, by omega⟩ | exact ⟨rfl, Nat.le_of_ble_eq_true rfl⟩ | exact Nat.le_of_ble_eq_true rfl | (refine ⟨rfl, rfl, ?_⟩; simp [isFar, ofV0, CV.up, SV.renL, SV.ren] <;> fail) | (refine ⟨rfl, Nat.le_of_ble_eq_true rfl, ?_⟩; simp [isFar, ofV0, CV.up, SV.renL, SV.ren] <;> fail) | (simp only [List.length_append, List.length_drop, List.length_take, List.length_replicate, List.length_map]; omega) | (simp <;> fail))); conv => whnf) | (refine ⟨_, rfl, ?_⟩; conv => whnf)))
  refine CallVC.auto same9_k.gl ⟨_, rfl, rfl, rfl, rfl, rfl, ha1.1, ha1.2, ?_⟩
  (conv => whnf)
  (repeat (first | (exact Out.same; conv => whnf) | (exact Out1.same; conv => whnf) | (refine QAnd.mk ?_ ?_; conv => whnf) | (apply QStepH.go; conv => whnf) | (refine Both.lit_true ?_; conv => whnf) | (refine Both.lit_false ?_; conv => whnf) | (apply QStep.go; conv => whnf) | (refine Need.mk ?_ ?_; (focus (first | omega | exact ⟨by omega, by omega⟩ | rfl | exact ⟨rfl, rfl⟩ | exact ⟨rfl, by omega, by omega⟩ | exact ⟨by omega, by omega, by omega⟩ | exact ⟨rfl, Nat.le_of_ble_eq_true rfl⟩ | exact Nat.le_of_ble_eq_true rfl | (refine ⟨rfl, rfl, ?_⟩; simp [isFar, ofV0, CV.up, SV.renL, SV.ren] <;> fail) | (refine ⟨rfl, Nat.le_of_ble_eq_true rfl, ?_⟩; simp [isFar, ofV0, CV.up, SV.renL, SV.ren] <;> fail) | (simp only [List.length_append, List.length_drop, List.length_take, List.length_replicate, List.length_map]; omega) | (simp <;> fail))); conv => whnf) | (refine ⟨_, rfl, ?_⟩; conv => whnf)))
  refine ⟨_, _, WeakV.drop rfl, ?_⟩
  exact (congrArg (fun b => Q (SV.bool b) []) d2).mpr h
end Go.LX
end
section
set_option maxRecDepth 100000
set_option maxHeartbeats 4000000
set_option autoImplicit false
set_option linter.unusedVariables false
set_option linter.unusedSimpArgs false
namespace Go.LX
open Go.Proofs Go.Proofs.YtfnpemikicofaaaDoor Go.RowKit Go.ChangeShapes Go.WideShapes Go.ChangeAt

/-! ## From the row's condition on sha.k to the walks' -/
theorem law_runG {P : Program} {G : Gl} {f : FuncId} {S : Spec} (hM : Meets P G f S) {svs : List SV} {vs : List Value} {W : World} (hv : VRs (E0 W) W svs vs) (hg : GlOk (E0 W) W G) (hS : S svs [] fun r _ => r = .bool true) :
    Calls P f vs.toArray W fun e W' => e = .returned (.bool true) ∧ Below W.heap.size W W' := by
  refine (hM svs [] _ hS (E0 W) W vs hv (rel0 W) hg).mono ?_
  rintro e W' ⟨v, r, H', E', rfl, rfl, hv, _, hst, _⟩
  cases hv
  exact ⟨rfl, hst.os, hst.tape, hst.output, hst.size, fun k hk => hst.keep k hk (fun ⟨i, o, h, _⟩ => by simp at h)⟩
def kzs : List Int := kT.map fun x => u32 x
def kG : Gl := [(0, CV.int .u32 (u32 0x428a2f98#32) :: (kT.tail.map fun x => CV.int .u32 (u32 x)))]
theorem kG_at : KAt (CV.int .u32 (u32 0x428a2f98#32)) (kT.tail.map fun x => CV.int .u32 (u32 x)) := fun t ht => k_at ht
abbrev laidK : List (String × DataW Unit) := [("carrack/sha.k", Rows.laid_carrack_sha_k)]
theorem laidK_eq : laidK = [("carrack/sha.k", Lib.tabData .u32 kzs)] := by kernel_rfl
theorem gK : Tryd.prog.globalNamed "carrack/sha.k" = some 0 := by kernel_rfl
theorem tK : (Tryd.prog.globals[0]?).map (·.type) = some 164 := by kernel_rfl
theorem gl_of_laid {W : World} (h : laidMetH Tryd.prog laidK W) : GlOk (E0 W) W kG := by
  rw [MakeChecks.laidMetH_plain _ _ _ (by kernel_rfl), laidK_eq] at h
  have hT := Lib.tabIs_of_head gK tK Tryd.underlying164 Tryd.underlying101 (by kernel_rfl) (by kernel_rfl) h
  have hc := fun i hi => hT.cell gK i hi
  refine ⟨fun g cs hm => ?_⟩
  have hm : (g, cs) = (0, CV.int .u32 (u32 0x428a2f98#32) :: (kT.tail.map fun x => CV.int .u32 (u32 x))) := List.mem_singleton.1 hm
  cases hm
  have hcs : (CV.int .u32 (u32 0x428a2f98#32) :: (kT.tail.map fun x => CV.int .u32 (u32 x))) = kzs.map fun z => CV.int .u32 z := by
    rw [kzs, List.map_map]
    rfl
  refine ⟨?_, kzs.map fun z => Value.int .u32 z, ?_, fun j v hj => ?_⟩
  · have h0 := hc 0 (by decide)
    show 0 < W.heap.size
    by_cases hz : 0 < W.heap.size
    · exact hz
    · exfalso
      have hn : W.heap[0]? = none := Array.getElem?_eq_none (by omega)
      unfold World.cell? at h0
      rw [hn] at h0
      cases h0
  · rw [hcs]
    refine ⟨by rw [List.length_map, List.length_map], fun j x v hx hv => ?_⟩
    rw [List.getElem?_map, Option.map_eq_some_iff] at hx hv
    obtain ⟨z, hz, rfl⟩ := hx
    obtain ⟨z', hz', rfl⟩ := hv
    cases hz.symm.trans hz'
    exact .int _ _
  · rw [List.getElem?_map, Option.map_eq_some_iff] at hj
    obtain ⟨z, hz, rfl⟩ := hj
    have hlt : j < kzs.length := by
      rcases Nat.lt_or_ge j kzs.length with h1 | h1
      · exact h1
      · rw [List.getElem?_eq_none h1] at hz; cases hz
    have := hc j hlt
    rw [List.getD_eq_getElem?_getD, hz] at this
    exact this
/-- The door's own heap meets the condition. -/
theorem doorK_met (os : Os) (args : Array Value) : laidMetH Tryd.prog laidK ((World.doorLaid Tryd.prog 400 os).forCall (fun _ _ => 0) ⟨#[], args, []⟩).memory :=
  laidMetH_of_parts3 (fuel := 8) (laidMet_of_run' 8 (by kernel_rfl) (by kernel_rfl)) (by kernel_rfl) (by kernel_rfl)
end Go.LX
end
