import Derived.Test.YtcmnomppneiiiaaNc
import Derived.Test.YtcmnomppneiiiaaPn
set_option maxRecDepth 100000
set_option maxHeartbeats 4000000
set_option autoImplicit false
set_option linter.unusedVariables false
set_option linter.unusedSimpArgs false
namespace Go.LX
open Go.Proofs

/-! ## Lists are got back -/
def rbyteOkS : Spec := fun args H Q => match args, H with
  | [.ptr 0 0], [.cells [.int .i64 e, .str s] 83] => ∃ (b : UInt8) (r : List UInt8), e = 0 ∧ s = b :: r ∧ s.length < 1000000 ∧ ∀ v, v = (b.toNat : Int) → Q (.int .i64 v) (rd 0 r)
  | _, _ => False
theorem rbyteOk_k : Contract Try.prog [] 55 rbyteOkS := rbyte_k.imp fun args H Q h => by
  unfold rbyteOkS at h
  split at h
  case h_2 => exact h.elim
  obtain ⟨b, r, rfl, rfl, hl, h⟩ := h
  obtain ⟨r1, r2, r3⟩ := rd_app 1 [b] r rfl
  rw [List.singleton_append] at r1 r2 r3
  refine ⟨hl, ?_⟩
  rw [rdV, r1, r2, r3]
  exact h _ (by simp [bev])
def pgetOkS : Spec := fun args H Q => match args, H with
  | [.ptr 0 0], [.cells [.int .i64 e, .str x] 83] => ∃ (f s t : Int) (d r : List UInt8), e = 0 ∧ x = pbytes f s t d ++ r ∧ x.length < 1000000 ∧ pok f s t d = true ∧ (0 ≤ s ∧ s < 18446744073709551616) ∧ (0 ≤ t ∧ t < 18446744073709551616) ∧
    Q (.agg [.int .i64 f, .int .u64 s, .int .u64 t, .str d]) (rd 0 r)
  | _, _ => False
theorem pgetOk_k : Contract Try.prog [] 56 pgetOkS := pget_k.imp fun args H Q h => by
  unfold pgetOkS at h
  split at h
  case h_2 => exact h.elim
  obtain ⟨f, s, t, d, r, rfl, rfl, hl, hp, hs, ht, h⟩ := h
  obtain ⟨a1, a2, a3, a4, a5, a6⟩ := pb_get r hp hs ht
  refine ⟨hl, ?_⟩
  intro f' u' t' e' d' s' h1 h2 h3
  rw [a1] at h1
  rw [a6] at h2
  subst h1
  subst h2
  rcases h3 with ⟨_, q1, q2, q3, q4, _⟩ | ⟨h0, _⟩
  · rw [a2] at q1
    rw [a3] at q2
    rw [a4] at q3
    rw [a5] at q4
    rw [q1, q2, q3, q4]
    exact h
  · exact absurd rfl h0
def sl7 : Nat → SV
  | 0 => .nilsl
  | _ + 1 => .own 1
theorem outR_drop (l : List Row) {k : Nat} (h : k < l.length) : (l.drop k).flatMap Row.bytes = l[k].bytes ++ (l.drop (k + 1)).flatMap Row.bytes := by
  rw [List.drop_eq_getElem_cons h, List.flatMap_cons]
theorem len_drop (l : List Row) (k : Nat) : ((l.drop k).flatMap Row.bytes).length ≤ (l.flatMap Row.bytes).length := by
  have : (l.flatMap Row.bytes).length = ((l.take k).flatMap Row.bytes).length + ((l.drop k).flatMap Row.bytes).length := by
    rw [← List.length_append, ← List.flatMap_append, List.take_append_drop]
  omega

def oneNoteS : Spec := fun args H Q => match args, H with
  | [.int .i64 k, .agg [.int .i64 f, .int .u64 s, .int .u64 t, .str d]], [] => Q (.agg [.int .i64 k, .int .i64 f, .int .u64 s, .int .u64 t, .str d]) []
  | _, _ => False
theorem oneNote_c : Meets Try.prog [] 49 oneNoteS := by
  refine meets_of Γok Try.func49 rfl ?_
  intro args H Q h
  unfold oneNoteS at h
  split at h
  case h_2 => exact h.elim
  (refine sx_sound Γok _ ?_; conv => whnf)
  (repeat (first | (exact Out.same; conv => whnf) | (exact Out1.same; conv => whnf) | (refine QAnd.mk ?_ ?_; conv => whnf) | (apply QStepH.go; conv => whnf) | (refine Both.lit_true ?_; conv => whnf) | (refine Both.lit_false ?_; conv => whnf) | (apply QStep.go; conv => whnf) | (refine Need.mk ?_ ?_; (focus (first | omega | exact ⟨by omega, by omega⟩ | rfl | exact ⟨rfl, rfl⟩ | exact ⟨rfl, by omega, by omega⟩ | exact ⟨by omega, by omega, by omega⟩ | exact ⟨rfl, Nat.le_of_ble_eq_true rfl⟩ | exact Nat.le_of_ble_eq_true rfl | (refine ⟨rfl, rfl, ?_⟩; simp [isFar, ofV0, CV.up, SV.renL, SV.ren] <;> fail) | (refine ⟨rfl, Nat.le_of_ble_eq_true rfl, ?_⟩; simp [isFar, ofV0, CV.up, SV.renL, SV.ren] <;> fail) | (simp <;> fail))); conv => whnf) | (refine ⟨_, rfl, ?_⟩; conv => whnf)))
  exact ⟨_, _, WeakV.drop rfl, h⟩
theorem oneNote_k : Contract Try.prog [] 49 oneNoteS := ⟨⟨⟨_, rfl, rfl, rfl⟩⟩, oneNote_c⟩
def getNoteS : Spec := fun args H Q => match args, H with
  | [.ptr 0 0, .int .i64 4, .func (.func 49) []], [.cells [.int .i64 e, .str s] 83] => ∃ (l : List Row) (r : List UInt8), e = 0 ∧ s = outR l ++ r ∧ s.length < 1000000 ∧ goodR 4 l = true ∧
    (l = [] → Q .nilsl (rd 0 r)) ∧ (l ≠ [] → Q (.own 1) (rd 0 r ++ [.own 27 5 l.length (l.flatMap Row.enN) true]))
  | _, _ => False
theorem getNote_c : Meets Try.prog [] 48 getNoteS := by
  refine meets_of Γok Try.func48 rfl ?_
  intro args H Q h
  unfold getNoteS at h
  split at h
  case h_2 => exact h.elim
  obtain ⟨l, r, rfl, rfl, hlen, hg, h0, h1⟩ := h
  obtain ⟨g1, g2⟩ := (Bool.and_eq_true _ _).mp hg
  have g1 : l.length ≤ 255 := of_decide_eq_true g1
  have g2 := List.all_eq_true.1 g2
  have hb : ((UInt8.ofNat l.length).toNat : Int) = ((l.length - 0 : Nat) : Int) := by rw [UInt8.toNat_ofNat']; omega
  have hll : (l.flatMap Row.bytes).length + r.length < 1000000 := by
    rw [outR, List.cons_append, List.length_cons, List.length_append] at hlen
    omega
  (refine sx_sound Γok _ ?_; conv => whnf)
  refine CallVC.auto rbyteOk_k ⟨UInt8.ofNat l.length, l.flatMap Row.bytes ++ r, rfl, rfl, hlen, ?_⟩
  intro v0 hv0
  rw [hb] at hv0
  subst hv0
  (conv => whnf)
  refine loop_rule (fun k : Nat => ⟨[.ptr 0 0, .int .i64 4, .func (.func 49) [], .any, .any, .any, .any, sl7 k, .int .i64 ((l.length - k : Nat) : Int), .any, .any, .any, .any, .any, .any, .any, .any, .any, .any, .any, .any, .any, .any, .any, .any, .any, .any, .any, .any, .any, .any, .any, .any, .any, .any, .any, .any, .any, .any, .any, .any, .any, .any, .any, .any, .any, .any, .any, .any, .any, .any, .any], rd 0 ((l.drop k).flatMap Row.bytes ++ r) ++ (match k with | 0 => [] | k + 1 => [.own 27 5 (k + 1) ((l.take (k + 1)).flatMap Row.enN) true])⟩) (fun k => k ≤ l.length) (fun k => l.length - k) 0 (by omega) (Weak.auto ?_) ?_
  · (repeat' ((conv => whnf); first | exact True.intro | (refine And.intro ?_ ?_)))
    all_goals first | rfl | exact .eq rfl
  · intro k hk
    have hcase : k = l.length ∨ k < l.length := by omega
    rcases hcase with rfl | hkl
    · cases hl : l with
      | nil =>
        subst hl
        have h := h0 rfl
        (refine sx_sound Γok _ ?_; conv => whnf)
        (repeat (first | (exact Out.same; conv => whnf) | (exact Out1.same; conv => whnf) | (refine QAnd.mk ?_ ?_; conv => whnf) | (apply QStepH.go; conv => whnf) | (refine Both.lit_true ?_; conv => whnf) | (refine Both.lit_false ?_; conv => whnf) | (apply QStep.go; conv => whnf) | (refine Need.mk ?_ ?_; (focus (first | omega | exact ⟨by omega, by omega⟩ | rfl | exact ⟨rfl, rfl⟩ | exact ⟨rfl, by omega, by omega⟩ | exact ⟨by omega, by omega, by omega⟩ | exact ⟨rfl, Nat.le_of_ble_eq_true rfl⟩ | exact Nat.le_of_ble_eq_true rfl | (refine ⟨rfl, rfl, ?_⟩; simp [isFar, ofV0, CV.up, SV.renL, SV.ren] <;> fail) | (refine ⟨rfl, Nat.le_of_ble_eq_true rfl, ?_⟩; simp [isFar, ofV0, CV.up, SV.renL, SV.ren] <;> fail) | (simp <;> fail))); conv => whnf) | (refine ⟨_, rfl, ?_⟩; conv => whnf) | (refine CallVC.auto errA_k ?_; conv => whnf) | (refine Both.of_false ?_ ?_; (focus (first | rfl | (simp <;> fail))); conv => whnf) | (refine Both.of_true ?_ ?_; (focus (first | rfl | (simp <;> fail))); conv => whnf)))
        refine ⟨_, _, WeakV.auto ?_, h⟩
        (repeat' ((conv => whnf); first | exact True.intro | (refine And.intro ?_ ?_)))
        all_goals first | rfl | exact .eq rfl
      | cons c l2 =>
        subst hl
        have h := h1 (by simp)
        have hd : (c :: l2).drop (c :: l2).length = [] := List.drop_length
        have hn : ¬ (0 : Int) < (((c :: l2).length - (c :: l2).length : Nat) : Int) := by omega
        (refine sx_sound Γok _ ?_; conv => whnf)
        refine Both.dec (fun hx => absurd hx hn) (fun _ => ?_)
        (conv => whnf)
        (repeat (first | (exact Out.same; conv => whnf) | (exact Out1.same; conv => whnf) | (refine QAnd.mk ?_ ?_; conv => whnf) | (apply QStepH.go; conv => whnf) | (refine Both.lit_true ?_; conv => whnf) | (refine Both.lit_false ?_; conv => whnf) | (apply QStep.go; conv => whnf) | (refine Need.mk ?_ ?_; (focus (first | omega | exact ⟨by omega, by omega⟩ | rfl | exact ⟨rfl, rfl⟩ | exact ⟨rfl, by omega, by omega⟩ | exact ⟨by omega, by omega, by omega⟩ | exact ⟨rfl, Nat.le_of_ble_eq_true rfl⟩ | exact Nat.le_of_ble_eq_true rfl | (refine ⟨rfl, rfl, ?_⟩; simp [isFar, ofV0, CV.up, SV.renL, SV.ren] <;> fail) | (refine ⟨rfl, Nat.le_of_ble_eq_true rfl, ?_⟩; simp [isFar, ofV0, CV.up, SV.renL, SV.ren] <;> fail) | (simp <;> fail))); conv => whnf) | (refine ⟨_, rfl, ?_⟩; conv => whnf) | (refine CallVC.auto errA_k ?_; conv => whnf) | (refine Both.of_false ?_ ?_; (focus (first | rfl | (simp <;> fail))); conv => whnf) | (refine Both.of_true ?_ ?_; (focus (first | rfl | (simp <;> fail))); conv => whnf)))
        refine ⟨_, _, WeakV.auto ?_, h⟩
        (repeat' ((conv => whnf); first | exact True.intro | (refine And.intro ?_ ?_)))
        all_goals first | rfl | exact .eq rfl | (refine .eq ?_; rw [hd]; rfl) | (refine Eq.trans (b := LObj.own 27 5 (c :: l2).length (((c :: l2).take (c :: l2).length).flatMap Row.enN) true) rfl ?_; rw [List.take_length])
    · have hdr := outR_drop l hkl
      have hld := len_drop l k
      have htk : ∀ j, j = k → (l.take (j + 1)).flatMap Row.enN = (l.take k).flatMap Row.enN ++ l[k].enN := by
        intro j hj
        subst hj
        rw [List.take_succ_eq_append_getElem hkl, List.flatMap_append]
        simp
      have hgk := g2 _ (List.getElem_mem hkl)
      generalize hcc : l[k] = c at hdr hgk htk
      rw [Row.good, Bool.and_eq_true, Row.kok] at hgk
      have hkk := of_decide_eq_true hgk.1
      have hpk : pok c.p.f (u64 c.p.s) (u64 c.p.t) c.p.d = true := hgk.2
      have hkb : ((UInt8.ofNat c.k.toNat).toNat : Int) = c.k := by rw [UInt8.toNat_ofNat']; omega
      have hc1 : ¬ c.k < 1 := by omega
      have hc2 : ¬ (4 : Int) < c.k := by omega
      have hpos : (0 : Int) < ((l.length - k : Nat) : Int) := by omega
      have hs1 : (l.drop k).flatMap Row.bytes ++ r = UInt8.ofNat c.k.toNat :: (pbytes c.p.f (u64 c.p.s) (u64 c.p.t) c.p.d ++ ((l.drop (k + 1)).flatMap Row.bytes ++ r)) := by
        rw [hdr, Row.bytes]
        simp
      have hsl1 : ((l.drop k).flatMap Row.bytes ++ r).length < 1000000 := by rw [List.length_append]; omega
      have hsl2 : (pbytes c.p.f (u64 c.p.s) (u64 c.p.t) c.p.d ++ ((l.drop (k + 1)).flatMap Row.bytes ++ r)).length < 1000000 := by
        rw [hs1, List.length_cons] at hsl1
        omega
      have hwk : IntKind.i64.wrap (((l.length - k : Nat) : Int) - 1) = ((l.length - (k + 1) : Nat) : Int) := by rw [wrap_i64 (by omega) (by omega)]; omega
      have hby : ti27.bytes ≤ 100 := by decide
      have hbound : ((k : Int) + 1) * 64 ≤ 140737488355328 := by omega
      cases k with
      | zero =>
        (refine sx_sound Γok _ ?_; conv => whnf)
        refine Both.dec (fun _ => ?_) (fun hx => absurd hpos hx)
        (conv => whnf)
        (repeat (first | (exact Out.same; conv => whnf) | (exact Out1.same; conv => whnf) | (refine QAnd.mk ?_ ?_; conv => whnf) | (apply QStepH.go; conv => whnf) | (refine Both.lit_true ?_; conv => whnf) | (refine Both.lit_false ?_; conv => whnf) | (apply QStep.go; conv => whnf) | (refine Need.mk ?_ ?_; (focus (first | omega | exact ⟨by omega, by omega⟩ | rfl | exact ⟨rfl, rfl⟩ | exact ⟨rfl, by omega, by omega⟩ | exact ⟨by omega, by omega, by omega⟩ | exact ⟨rfl, Nat.le_of_ble_eq_true rfl⟩ | exact Nat.le_of_ble_eq_true rfl | (refine ⟨rfl, rfl, ?_⟩; simp [isFar, ofV0, CV.up, SV.renL, SV.ren] <;> fail) | (refine ⟨rfl, Nat.le_of_ble_eq_true rfl, ?_⟩; simp [isFar, ofV0, CV.up, SV.renL, SV.ren] <;> fail) | (simp <;> fail))); conv => whnf) | (refine ⟨_, rfl, ?_⟩; conv => whnf) | (refine CallVC.auto errA_k ?_; conv => whnf)))
        refine CallVC.auto rbyteOk_k ⟨_, _, rfl, hs1, hsl1, ?_⟩
        intro v hv
        obtain rfl : c.k = v := by rw [hv, hkb]
        (conv => whnf)
        refine CallVC.auto pgetOk_k ⟨_, _, _, _, _, rfl, rfl, hsl2, hpk, u64_rng _, u64_rng _, ?_⟩
        (conv => whnf)
        (repeat (first | (exact Out.same; conv => whnf) | (exact Out1.same; conv => whnf) | (refine QAnd.mk ?_ ?_; conv => whnf) | (apply QStepH.go; conv => whnf) | (refine Both.lit_true ?_; conv => whnf) | (refine Both.lit_false ?_; conv => whnf) | (apply QStep.go; conv => whnf) | (refine Need.mk ?_ ?_; (focus (first | omega | exact ⟨by omega, by omega⟩ | rfl | exact ⟨rfl, rfl⟩ | exact ⟨rfl, by omega, by omega⟩ | exact ⟨by omega, by omega, by omega⟩ | exact ⟨rfl, Nat.le_of_ble_eq_true rfl⟩ | exact Nat.le_of_ble_eq_true rfl | (refine ⟨rfl, rfl, ?_⟩; simp [isFar, ofV0, CV.up, SV.renL, SV.ren] <;> fail) | (refine ⟨rfl, Nat.le_of_ble_eq_true rfl, ?_⟩; simp [isFar, ofV0, CV.up, SV.renL, SV.ren] <;> fail) | (simp <;> fail))); conv => whnf) | (refine ⟨_, rfl, ?_⟩; conv => whnf)))
        refine Both.dec (fun hx => absurd hx hc1) (fun _ => ?_)
        (conv => whnf)
        (repeat (first | (exact Out.same; conv => whnf) | (exact Out1.same; conv => whnf) | (refine QAnd.mk ?_ ?_; conv => whnf) | (apply QStepH.go; conv => whnf) | (refine Both.lit_true ?_; conv => whnf) | (refine Both.lit_false ?_; conv => whnf) | (apply QStep.go; conv => whnf) | (refine Need.mk ?_ ?_; (focus (first | omega | exact ⟨by omega, by omega⟩ | rfl | exact ⟨rfl, rfl⟩ | exact ⟨rfl, by omega, by omega⟩ | exact ⟨by omega, by omega, by omega⟩ | exact ⟨rfl, Nat.le_of_ble_eq_true rfl⟩ | exact Nat.le_of_ble_eq_true rfl | (refine ⟨rfl, rfl, ?_⟩; simp [isFar, ofV0, CV.up, SV.renL, SV.ren] <;> fail) | (refine ⟨rfl, Nat.le_of_ble_eq_true rfl, ?_⟩; simp [isFar, ofV0, CV.up, SV.renL, SV.ren] <;> fail) | (simp <;> fail))); conv => whnf) | (refine ⟨_, rfl, ?_⟩; conv => whnf)))
        refine Both.dec (fun hx => absurd hx hc2) (fun _ => ?_)
        (conv => whnf)
        (repeat (first | (exact Out.same; conv => whnf) | (exact Out1.same; conv => whnf) | (refine QAnd.mk ?_ ?_; conv => whnf) | (apply QStepH.go; conv => whnf) | (refine Both.lit_true ?_; conv => whnf) | (refine Both.lit_false ?_; conv => whnf) | (apply QStep.go; conv => whnf) | (refine Need.mk ?_ ?_; (focus (first | omega | exact ⟨by omega, by omega⟩ | rfl | exact ⟨rfl, rfl⟩ | exact ⟨rfl, by omega, by omega⟩ | exact ⟨by omega, by omega, by omega⟩ | exact ⟨rfl, Nat.le_of_ble_eq_true rfl⟩ | exact Nat.le_of_ble_eq_true rfl | (refine ⟨rfl, rfl, ?_⟩; simp [isFar, ofV0, CV.up, SV.renL, SV.ren] <;> fail) | (refine ⟨rfl, Nat.le_of_ble_eq_true rfl, ?_⟩; simp [isFar, ofV0, CV.up, SV.renL, SV.ren] <;> fail) | (simp <;> fail))); conv => whnf) | (refine ⟨_, rfl, ?_⟩; conv => whnf)))
        refine CallClo.auto oneNote_k ?_
        (conv => whnf)
        (repeat (first | (exact Out.same; conv => whnf) | (exact Out1.same; conv => whnf) | (refine QAnd.mk ?_ ?_; conv => whnf) | (apply QStepH.go; conv => whnf) | (refine Both.lit_true ?_; conv => whnf) | (refine Both.lit_false ?_; conv => whnf) | (apply QStep.go; conv => whnf) | (refine Need.mk ?_ ?_; (focus (first | omega | exact ⟨by omega, by omega⟩ | rfl | exact ⟨rfl, rfl⟩ | exact ⟨rfl, by omega, by omega⟩ | exact ⟨by omega, by omega, by omega⟩ | exact ⟨rfl, Nat.le_of_ble_eq_true rfl⟩ | exact Nat.le_of_ble_eq_true rfl | (refine ⟨rfl, rfl, ?_⟩; simp [isFar, ofV0, CV.up, SV.renL, SV.ren] <;> fail) | (refine ⟨rfl, Nat.le_of_ble_eq_true rfl, ?_⟩; simp [isFar, ofV0, CV.up, SV.renL, SV.ren] <;> fail) | (simp <;> fail))); conv => whnf) | (refine ⟨_, rfl, ?_⟩; conv => whnf)))
        try (refine Need.mk ?_ ?_; (focus exact Nat.le_trans (Nat.mul_le_mul_left _ hby) (by omega)); conv => whnf)
        (repeat (first | (exact Out.same; conv => whnf) | (exact Out1.same; conv => whnf) | (refine QAnd.mk ?_ ?_; conv => whnf) | (apply QStepH.go; conv => whnf) | (refine Both.lit_true ?_; conv => whnf) | (refine Both.lit_false ?_; conv => whnf) | (apply QStep.go; conv => whnf) | (refine Need.mk ?_ ?_; (focus (first | omega | exact ⟨by omega, by omega⟩ | rfl | exact ⟨rfl, rfl⟩ | exact ⟨rfl, by omega, by omega⟩ | exact ⟨by omega, by omega, by omega⟩ | exact ⟨rfl, Nat.le_of_ble_eq_true rfl⟩ | exact Nat.le_of_ble_eq_true rfl | (refine ⟨rfl, rfl, ?_⟩; simp [isFar, ofV0, CV.up, SV.renL, SV.ren] <;> fail) | (refine ⟨rfl, Nat.le_of_ble_eq_true rfl, ?_⟩; simp [isFar, ofV0, CV.up, SV.renL, SV.ren] <;> fail) | (simp <;> fail))); conv => whnf) | (refine ⟨_, rfl, ?_⟩; conv => whnf)))
        refine ⟨0 + 1, by omega, by omega, Weak.auto ?_⟩
        (repeat' ((conv => whnf); first | exact True.intro | (refine And.intro ?_ ?_)))
        all_goals first | rfl | exact .eq rfl | exact congrArg (SV.int .i64) hwk | (rw [htk _ rfl]; rfl)
      | succ k =>
        (refine sx_sound Γok _ ?_; conv => whnf)
        refine Both.dec (fun _ => ?_) (fun hx => absurd hpos hx)
        (conv => whnf)
        (repeat (first | (exact Out.same; conv => whnf) | (exact Out1.same; conv => whnf) | (refine QAnd.mk ?_ ?_; conv => whnf) | (apply QStepH.go; conv => whnf) | (refine Both.lit_true ?_; conv => whnf) | (refine Both.lit_false ?_; conv => whnf) | (apply QStep.go; conv => whnf) | (refine Need.mk ?_ ?_; (focus (first | omega | exact ⟨by omega, by omega⟩ | rfl | exact ⟨rfl, rfl⟩ | exact ⟨rfl, by omega, by omega⟩ | exact ⟨by omega, by omega, by omega⟩ | exact ⟨rfl, Nat.le_of_ble_eq_true rfl⟩ | exact Nat.le_of_ble_eq_true rfl | (refine ⟨rfl, rfl, ?_⟩; simp [isFar, ofV0, CV.up, SV.renL, SV.ren] <;> fail) | (refine ⟨rfl, Nat.le_of_ble_eq_true rfl, ?_⟩; simp [isFar, ofV0, CV.up, SV.renL, SV.ren] <;> fail) | (simp <;> fail))); conv => whnf) | (refine ⟨_, rfl, ?_⟩; conv => whnf) | (refine CallVC.auto errA_k ?_; conv => whnf)))
        refine CallVC.auto rbyteOk_k ⟨_, _, rfl, hs1, hsl1, ?_⟩
        intro v hv
        obtain rfl : c.k = v := by rw [hv, hkb]
        (conv => whnf)
        refine CallVC.auto pgetOk_k ⟨_, _, _, _, _, rfl, rfl, hsl2, hpk, u64_rng _, u64_rng _, ?_⟩
        (conv => whnf)
        (repeat (first | (exact Out.same; conv => whnf) | (exact Out1.same; conv => whnf) | (refine QAnd.mk ?_ ?_; conv => whnf) | (apply QStepH.go; conv => whnf) | (refine Both.lit_true ?_; conv => whnf) | (refine Both.lit_false ?_; conv => whnf) | (apply QStep.go; conv => whnf) | (refine Need.mk ?_ ?_; (focus (first | omega | exact ⟨by omega, by omega⟩ | rfl | exact ⟨rfl, rfl⟩ | exact ⟨rfl, by omega, by omega⟩ | exact ⟨by omega, by omega, by omega⟩ | exact ⟨rfl, Nat.le_of_ble_eq_true rfl⟩ | exact Nat.le_of_ble_eq_true rfl | (refine ⟨rfl, rfl, ?_⟩; simp [isFar, ofV0, CV.up, SV.renL, SV.ren] <;> fail) | (refine ⟨rfl, Nat.le_of_ble_eq_true rfl, ?_⟩; simp [isFar, ofV0, CV.up, SV.renL, SV.ren] <;> fail) | (simp <;> fail))); conv => whnf) | (refine ⟨_, rfl, ?_⟩; conv => whnf)))
        refine Both.dec (fun hx => absurd hx hc1) (fun _ => ?_)
        (conv => whnf)
        (repeat (first | (exact Out.same; conv => whnf) | (exact Out1.same; conv => whnf) | (refine QAnd.mk ?_ ?_; conv => whnf) | (apply QStepH.go; conv => whnf) | (refine Both.lit_true ?_; conv => whnf) | (refine Both.lit_false ?_; conv => whnf) | (apply QStep.go; conv => whnf) | (refine Need.mk ?_ ?_; (focus (first | omega | exact ⟨by omega, by omega⟩ | rfl | exact ⟨rfl, rfl⟩ | exact ⟨rfl, by omega, by omega⟩ | exact ⟨by omega, by omega, by omega⟩ | exact ⟨rfl, Nat.le_of_ble_eq_true rfl⟩ | exact Nat.le_of_ble_eq_true rfl | (refine ⟨rfl, rfl, ?_⟩; simp [isFar, ofV0, CV.up, SV.renL, SV.ren] <;> fail) | (refine ⟨rfl, Nat.le_of_ble_eq_true rfl, ?_⟩; simp [isFar, ofV0, CV.up, SV.renL, SV.ren] <;> fail) | (simp <;> fail))); conv => whnf) | (refine ⟨_, rfl, ?_⟩; conv => whnf)))
        refine Both.dec (fun hx => absurd hx hc2) (fun _ => ?_)
        (conv => whnf)
        (repeat (first | (exact Out.same; conv => whnf) | (exact Out1.same; conv => whnf) | (refine QAnd.mk ?_ ?_; conv => whnf) | (apply QStepH.go; conv => whnf) | (refine Both.lit_true ?_; conv => whnf) | (refine Both.lit_false ?_; conv => whnf) | (apply QStep.go; conv => whnf) | (refine Need.mk ?_ ?_; (focus (first | omega | exact ⟨by omega, by omega⟩ | rfl | exact ⟨rfl, rfl⟩ | exact ⟨rfl, by omega, by omega⟩ | exact ⟨by omega, by omega, by omega⟩ | exact ⟨rfl, Nat.le_of_ble_eq_true rfl⟩ | exact Nat.le_of_ble_eq_true rfl | (refine ⟨rfl, rfl, ?_⟩; simp [isFar, ofV0, CV.up, SV.renL, SV.ren] <;> fail) | (refine ⟨rfl, Nat.le_of_ble_eq_true rfl, ?_⟩; simp [isFar, ofV0, CV.up, SV.renL, SV.ren] <;> fail) | (simp <;> fail))); conv => whnf) | (refine ⟨_, rfl, ?_⟩; conv => whnf)))
        refine CallClo.auto oneNote_k ?_
        (conv => whnf)
        (repeat (first | (exact Out.same; conv => whnf) | (exact Out1.same; conv => whnf) | (refine QAnd.mk ?_ ?_; conv => whnf) | (apply QStepH.go; conv => whnf) | (refine Both.lit_true ?_; conv => whnf) | (refine Both.lit_false ?_; conv => whnf) | (apply QStep.go; conv => whnf) | (refine Need.mk ?_ ?_; (focus (first | omega | exact ⟨by omega, by omega⟩ | rfl | exact ⟨rfl, rfl⟩ | exact ⟨rfl, by omega, by omega⟩ | exact ⟨by omega, by omega, by omega⟩ | exact ⟨rfl, Nat.le_of_ble_eq_true rfl⟩ | exact Nat.le_of_ble_eq_true rfl | (refine ⟨rfl, rfl, ?_⟩; simp [isFar, ofV0, CV.up, SV.renL, SV.ren] <;> fail) | (refine ⟨rfl, Nat.le_of_ble_eq_true rfl, ?_⟩; simp [isFar, ofV0, CV.up, SV.renL, SV.ren] <;> fail) | (simp <;> fail))); conv => whnf) | (refine ⟨_, rfl, ?_⟩; conv => whnf)))
        try (refine Need.mk ?_ ?_; (focus exact Nat.le_trans (Nat.mul_le_mul_left _ hby) (by omega)); conv => whnf)
        (repeat (first | (exact Out.same; conv => whnf) | (exact Out1.same; conv => whnf) | (refine QAnd.mk ?_ ?_; conv => whnf) | (apply QStepH.go; conv => whnf) | (refine Both.lit_true ?_; conv => whnf) | (refine Both.lit_false ?_; conv => whnf) | (apply QStep.go; conv => whnf) | (refine Need.mk ?_ ?_; (focus (first | omega | exact ⟨by omega, by omega⟩ | rfl | exact ⟨rfl, rfl⟩ | exact ⟨rfl, by omega, by omega⟩ | exact ⟨by omega, by omega, by omega⟩ | exact ⟨rfl, Nat.le_of_ble_eq_true rfl⟩ | exact Nat.le_of_ble_eq_true rfl | (refine ⟨rfl, rfl, ?_⟩; simp [isFar, ofV0, CV.up, SV.renL, SV.ren] <;> fail) | (refine ⟨rfl, Nat.le_of_ble_eq_true rfl, ?_⟩; simp [isFar, ofV0, CV.up, SV.renL, SV.ren] <;> fail) | (simp <;> fail))); conv => whnf) | (refine ⟨_, rfl, ?_⟩; conv => whnf)))
        refine ⟨k + 1 + 1, by omega, by omega, Weak.auto ?_⟩
        (repeat' ((conv => whnf); first | exact True.intro | (refine And.intro ?_ ?_)))
        all_goals first | rfl | exact .eq rfl | exact congrArg (SV.int .i64) hwk | (rw [htk _ rfl]; rfl)
theorem getNote_k : Contract Try.prog [] 48 getNoteS := ⟨⟨⟨_, rfl, rfl, rfl⟩⟩, getNote_c⟩

def oneItemS : Spec := fun args H Q => match args, H with
  | [.int .i64 k, .agg [.int .i64 f, .int .u64 s, .int .u64 t, .str d]], [] => Q (.agg [.int .i64 f, .int .u64 s, .int .u64 t, .str d, .int .i64 k]) []
  | _, _ => False
theorem oneItem_c : Meets Try.prog [] 47 oneItemS := by
  refine meets_of Γok Try.func47 rfl ?_
  intro args H Q h
  unfold oneItemS at h
  split at h
  case h_2 => exact h.elim
  (refine sx_sound Γok _ ?_; conv => whnf)
  (repeat (first | (exact Out.same; conv => whnf) | (exact Out1.same; conv => whnf) | (refine QAnd.mk ?_ ?_; conv => whnf) | (apply QStepH.go; conv => whnf) | (refine Both.lit_true ?_; conv => whnf) | (refine Both.lit_false ?_; conv => whnf) | (apply QStep.go; conv => whnf) | (refine Need.mk ?_ ?_; (focus (first | omega | exact ⟨by omega, by omega⟩ | rfl | exact ⟨rfl, rfl⟩ | exact ⟨rfl, by omega, by omega⟩ | exact ⟨by omega, by omega, by omega⟩ | exact ⟨rfl, Nat.le_of_ble_eq_true rfl⟩ | exact Nat.le_of_ble_eq_true rfl | (refine ⟨rfl, rfl, ?_⟩; simp [isFar, ofV0, CV.up, SV.renL, SV.ren] <;> fail) | (refine ⟨rfl, Nat.le_of_ble_eq_true rfl, ?_⟩; simp [isFar, ofV0, CV.up, SV.renL, SV.ren] <;> fail) | (simp <;> fail))); conv => whnf) | (refine ⟨_, rfl, ?_⟩; conv => whnf)))
  exact ⟨_, _, WeakV.drop rfl, h⟩
theorem oneItem_k : Contract Try.prog [] 47 oneItemS := ⟨⟨⟨_, rfl, rfl, rfl⟩⟩, oneItem_c⟩
def getItemS : Spec := fun args H Q => match args, H with
  | [.ptr 0 0, .int .i64 2, .func (.func 47) []], [.cells [.int .i64 e, .str s] 83] => ∃ (l : List Row) (r : List UInt8), e = 0 ∧ s = outR l ++ r ∧ s.length < 1000000 ∧ goodR 2 l = true ∧
    (l = [] → Q .nilsl (rd 0 r)) ∧ (l ≠ [] → Q (.own 1) (rd 0 r ++ [.own 70 5 l.length (l.flatMap Row.enI) true]))
  | _, _ => False
theorem getItem_c : Meets Try.prog [] 46 getItemS := by
  refine meets_of Γok Try.func46 rfl ?_
  intro args H Q h
  unfold getItemS at h
  split at h
  case h_2 => exact h.elim
  obtain ⟨l, r, rfl, rfl, hlen, hg, h0, h1⟩ := h
  obtain ⟨g1, g2⟩ := (Bool.and_eq_true _ _).mp hg
  have g1 : l.length ≤ 255 := of_decide_eq_true g1
  have g2 := List.all_eq_true.1 g2
  have hb : ((UInt8.ofNat l.length).toNat : Int) = ((l.length - 0 : Nat) : Int) := by rw [UInt8.toNat_ofNat']; omega
  have hll : (l.flatMap Row.bytes).length + r.length < 1000000 := by
    rw [outR, List.cons_append, List.length_cons, List.length_append] at hlen
    omega
  (refine sx_sound Γok _ ?_; conv => whnf)
  refine CallVC.auto rbyteOk_k ⟨UInt8.ofNat l.length, l.flatMap Row.bytes ++ r, rfl, rfl, hlen, ?_⟩
  intro v0 hv0
  rw [hb] at hv0
  subst hv0
  (conv => whnf)
  refine loop_rule (fun k : Nat => ⟨[.ptr 0 0, .int .i64 2, .func (.func 47) [], .any, .any, .any, .any, sl7 k, .int .i64 ((l.length - k : Nat) : Int), .any, .any, .any, .any, .any, .any, .any, .any, .any, .any, .any, .any, .any, .any, .any, .any, .any, .any, .any, .any, .any, .any, .any, .any, .any, .any, .any, .any, .any, .any, .any, .any, .any, .any, .any, .any, .any, .any, .any, .any, .any, .any, .any], rd 0 ((l.drop k).flatMap Row.bytes ++ r) ++ (match k with | 0 => [] | k + 1 => [.own 70 5 (k + 1) ((l.take (k + 1)).flatMap Row.enI) true])⟩) (fun k => k ≤ l.length) (fun k => l.length - k) 0 (by omega) (Weak.auto ?_) ?_
  · (repeat' ((conv => whnf); first | exact True.intro | (refine And.intro ?_ ?_)))
    all_goals first | rfl | exact .eq rfl
  · intro k hk
    have hcase : k = l.length ∨ k < l.length := by omega
    rcases hcase with rfl | hkl
    · cases hl : l with
      | nil =>
        subst hl
        have h := h0 rfl
        (refine sx_sound Γok _ ?_; conv => whnf)
        (repeat (first | (exact Out.same; conv => whnf) | (exact Out1.same; conv => whnf) | (refine QAnd.mk ?_ ?_; conv => whnf) | (apply QStepH.go; conv => whnf) | (refine Both.lit_true ?_; conv => whnf) | (refine Both.lit_false ?_; conv => whnf) | (apply QStep.go; conv => whnf) | (refine Need.mk ?_ ?_; (focus (first | omega | exact ⟨by omega, by omega⟩ | rfl | exact ⟨rfl, rfl⟩ | exact ⟨rfl, by omega, by omega⟩ | exact ⟨by omega, by omega, by omega⟩ | exact ⟨rfl, Nat.le_of_ble_eq_true rfl⟩ | exact Nat.le_of_ble_eq_true rfl | (refine ⟨rfl, rfl, ?_⟩; simp [isFar, ofV0, CV.up, SV.renL, SV.ren] <;> fail) | (refine ⟨rfl, Nat.le_of_ble_eq_true rfl, ?_⟩; simp [isFar, ofV0, CV.up, SV.renL, SV.ren] <;> fail) | (simp <;> fail))); conv => whnf) | (refine ⟨_, rfl, ?_⟩; conv => whnf) | (refine CallVC.auto errA_k ?_; conv => whnf) | (refine Both.of_false ?_ ?_; (focus (first | rfl | (simp <;> fail))); conv => whnf) | (refine Both.of_true ?_ ?_; (focus (first | rfl | (simp <;> fail))); conv => whnf)))
        refine ⟨_, _, WeakV.auto ?_, h⟩
        (repeat' ((conv => whnf); first | exact True.intro | (refine And.intro ?_ ?_)))
        all_goals first | rfl | exact .eq rfl
      | cons c l2 =>
        subst hl
        have h := h1 (by simp)
        have hd : (c :: l2).drop (c :: l2).length = [] := List.drop_length
        have hn : ¬ (0 : Int) < (((c :: l2).length - (c :: l2).length : Nat) : Int) := by omega
        (refine sx_sound Γok _ ?_; conv => whnf)
        refine Both.dec (fun hx => absurd hx hn) (fun _ => ?_)
        (conv => whnf)
        (repeat (first | (exact Out.same; conv => whnf) | (exact Out1.same; conv => whnf) | (refine QAnd.mk ?_ ?_; conv => whnf) | (apply QStepH.go; conv => whnf) | (refine Both.lit_true ?_; conv => whnf) | (refine Both.lit_false ?_; conv => whnf) | (apply QStep.go; conv => whnf) | (refine Need.mk ?_ ?_; (focus (first | omega | exact ⟨by omega, by omega⟩ | rfl | exact ⟨rfl, rfl⟩ | exact ⟨rfl, by omega, by omega⟩ | exact ⟨by omega, by omega, by omega⟩ | exact ⟨rfl, Nat.le_of_ble_eq_true rfl⟩ | exact Nat.le_of_ble_eq_true rfl | (refine ⟨rfl, rfl, ?_⟩; simp [isFar, ofV0, CV.up, SV.renL, SV.ren] <;> fail) | (refine ⟨rfl, Nat.le_of_ble_eq_true rfl, ?_⟩; simp [isFar, ofV0, CV.up, SV.renL, SV.ren] <;> fail) | (simp <;> fail))); conv => whnf) | (refine ⟨_, rfl, ?_⟩; conv => whnf) | (refine CallVC.auto errA_k ?_; conv => whnf) | (refine Both.of_false ?_ ?_; (focus (first | rfl | (simp <;> fail))); conv => whnf) | (refine Both.of_true ?_ ?_; (focus (first | rfl | (simp <;> fail))); conv => whnf)))
        refine ⟨_, _, WeakV.auto ?_, h⟩
        (repeat' ((conv => whnf); first | exact True.intro | (refine And.intro ?_ ?_)))
        all_goals first | rfl | exact .eq rfl | (refine .eq ?_; rw [hd]; rfl) | (refine Eq.trans (b := LObj.own 70 5 (c :: l2).length (((c :: l2).take (c :: l2).length).flatMap Row.enI) true) rfl ?_; rw [List.take_length])
    · have hdr := outR_drop l hkl
      have hld := len_drop l k
      have htk : ∀ j, j = k → (l.take (j + 1)).flatMap Row.enI = (l.take k).flatMap Row.enI ++ l[k].enI := by
        intro j hj
        subst hj
        rw [List.take_succ_eq_append_getElem hkl, List.flatMap_append]
        simp
      have hgk := g2 _ (List.getElem_mem hkl)
      generalize hcc : l[k] = c at hdr hgk htk
      rw [Row.good, Bool.and_eq_true, Row.kok] at hgk
      have hkk := of_decide_eq_true hgk.1
      have hpk : pok c.p.f (u64 c.p.s) (u64 c.p.t) c.p.d = true := hgk.2
      have hkb : ((UInt8.ofNat c.k.toNat).toNat : Int) = c.k := by rw [UInt8.toNat_ofNat']; omega
      have hc1 : ¬ c.k < 1 := by omega
      have hc2 : ¬ (2 : Int) < c.k := by omega
      have hpos : (0 : Int) < ((l.length - k : Nat) : Int) := by omega
      have hs1 : (l.drop k).flatMap Row.bytes ++ r = UInt8.ofNat c.k.toNat :: (pbytes c.p.f (u64 c.p.s) (u64 c.p.t) c.p.d ++ ((l.drop (k + 1)).flatMap Row.bytes ++ r)) := by
        rw [hdr, Row.bytes]
        simp
      have hsl1 : ((l.drop k).flatMap Row.bytes ++ r).length < 1000000 := by rw [List.length_append]; omega
      have hsl2 : (pbytes c.p.f (u64 c.p.s) (u64 c.p.t) c.p.d ++ ((l.drop (k + 1)).flatMap Row.bytes ++ r)).length < 1000000 := by
        rw [hs1, List.length_cons] at hsl1
        omega
      have hwk : IntKind.i64.wrap (((l.length - k : Nat) : Int) - 1) = ((l.length - (k + 1) : Nat) : Int) := by rw [wrap_i64 (by omega) (by omega)]; omega
      have hby : ti70.bytes ≤ 100 := by decide
      have hbound : ((k : Int) + 1) * 64 ≤ 140737488355328 := by omega
      cases k with
      | zero =>
        (refine sx_sound Γok _ ?_; conv => whnf)
        refine Both.dec (fun _ => ?_) (fun hx => absurd hpos hx)
        (conv => whnf)
        (repeat (first | (exact Out.same; conv => whnf) | (exact Out1.same; conv => whnf) | (refine QAnd.mk ?_ ?_; conv => whnf) | (apply QStepH.go; conv => whnf) | (refine Both.lit_true ?_; conv => whnf) | (refine Both.lit_false ?_; conv => whnf) | (apply QStep.go; conv => whnf) | (refine Need.mk ?_ ?_; (focus (first | omega | exact ⟨by omega, by omega⟩ | rfl | exact ⟨rfl, rfl⟩ | exact ⟨rfl, by omega, by omega⟩ | exact ⟨by omega, by omega, by omega⟩ | exact ⟨rfl, Nat.le_of_ble_eq_true rfl⟩ | exact Nat.le_of_ble_eq_true rfl | (refine ⟨rfl, rfl, ?_⟩; simp [isFar, ofV0, CV.up, SV.renL, SV.ren] <;> fail) | (refine ⟨rfl, Nat.le_of_ble_eq_true rfl, ?_⟩; simp [isFar, ofV0, CV.up, SV.renL, SV.ren] <;> fail) | (simp <;> fail))); conv => whnf) | (refine ⟨_, rfl, ?_⟩; conv => whnf) | (refine CallVC.auto errA_k ?_; conv => whnf)))
        refine CallVC.auto rbyteOk_k ⟨_, _, rfl, hs1, hsl1, ?_⟩
        intro v hv
        obtain rfl : c.k = v := by rw [hv, hkb]
        (conv => whnf)
        refine CallVC.auto pgetOk_k ⟨_, _, _, _, _, rfl, rfl, hsl2, hpk, u64_rng _, u64_rng _, ?_⟩
        (conv => whnf)
        (repeat (first | (exact Out.same; conv => whnf) | (exact Out1.same; conv => whnf) | (refine QAnd.mk ?_ ?_; conv => whnf) | (apply QStepH.go; conv => whnf) | (refine Both.lit_true ?_; conv => whnf) | (refine Both.lit_false ?_; conv => whnf) | (apply QStep.go; conv => whnf) | (refine Need.mk ?_ ?_; (focus (first | omega | exact ⟨by omega, by omega⟩ | rfl | exact ⟨rfl, rfl⟩ | exact ⟨rfl, by omega, by omega⟩ | exact ⟨by omega, by omega, by omega⟩ | exact ⟨rfl, Nat.le_of_ble_eq_true rfl⟩ | exact Nat.le_of_ble_eq_true rfl | (refine ⟨rfl, rfl, ?_⟩; simp [isFar, ofV0, CV.up, SV.renL, SV.ren] <;> fail) | (refine ⟨rfl, Nat.le_of_ble_eq_true rfl, ?_⟩; simp [isFar, ofV0, CV.up, SV.renL, SV.ren] <;> fail) | (simp <;> fail))); conv => whnf) | (refine ⟨_, rfl, ?_⟩; conv => whnf)))
        refine Both.dec (fun hx => absurd hx hc1) (fun _ => ?_)
        (conv => whnf)
        (repeat (first | (exact Out.same; conv => whnf) | (exact Out1.same; conv => whnf) | (refine QAnd.mk ?_ ?_; conv => whnf) | (apply QStepH.go; conv => whnf) | (refine Both.lit_true ?_; conv => whnf) | (refine Both.lit_false ?_; conv => whnf) | (apply QStep.go; conv => whnf) | (refine Need.mk ?_ ?_; (focus (first | omega | exact ⟨by omega, by omega⟩ | rfl | exact ⟨rfl, rfl⟩ | exact ⟨rfl, by omega, by omega⟩ | exact ⟨by omega, by omega, by omega⟩ | exact ⟨rfl, Nat.le_of_ble_eq_true rfl⟩ | exact Nat.le_of_ble_eq_true rfl | (refine ⟨rfl, rfl, ?_⟩; simp [isFar, ofV0, CV.up, SV.renL, SV.ren] <;> fail) | (refine ⟨rfl, Nat.le_of_ble_eq_true rfl, ?_⟩; simp [isFar, ofV0, CV.up, SV.renL, SV.ren] <;> fail) | (simp <;> fail))); conv => whnf) | (refine ⟨_, rfl, ?_⟩; conv => whnf)))
        refine Both.dec (fun hx => absurd hx hc2) (fun _ => ?_)
        (conv => whnf)
        (repeat (first | (exact Out.same; conv => whnf) | (exact Out1.same; conv => whnf) | (refine QAnd.mk ?_ ?_; conv => whnf) | (apply QStepH.go; conv => whnf) | (refine Both.lit_true ?_; conv => whnf) | (refine Both.lit_false ?_; conv => whnf) | (apply QStep.go; conv => whnf) | (refine Need.mk ?_ ?_; (focus (first | omega | exact ⟨by omega, by omega⟩ | rfl | exact ⟨rfl, rfl⟩ | exact ⟨rfl, by omega, by omega⟩ | exact ⟨by omega, by omega, by omega⟩ | exact ⟨rfl, Nat.le_of_ble_eq_true rfl⟩ | exact Nat.le_of_ble_eq_true rfl | (refine ⟨rfl, rfl, ?_⟩; simp [isFar, ofV0, CV.up, SV.renL, SV.ren] <;> fail) | (refine ⟨rfl, Nat.le_of_ble_eq_true rfl, ?_⟩; simp [isFar, ofV0, CV.up, SV.renL, SV.ren] <;> fail) | (simp <;> fail))); conv => whnf) | (refine ⟨_, rfl, ?_⟩; conv => whnf)))
        refine CallClo.auto oneItem_k ?_
        (conv => whnf)
        (repeat (first | (exact Out.same; conv => whnf) | (exact Out1.same; conv => whnf) | (refine QAnd.mk ?_ ?_; conv => whnf) | (apply QStepH.go; conv => whnf) | (refine Both.lit_true ?_; conv => whnf) | (refine Both.lit_false ?_; conv => whnf) | (apply QStep.go; conv => whnf) | (refine Need.mk ?_ ?_; (focus (first | omega | exact ⟨by omega, by omega⟩ | rfl | exact ⟨rfl, rfl⟩ | exact ⟨rfl, by omega, by omega⟩ | exact ⟨by omega, by omega, by omega⟩ | exact ⟨rfl, Nat.le_of_ble_eq_true rfl⟩ | exact Nat.le_of_ble_eq_true rfl | (refine ⟨rfl, rfl, ?_⟩; simp [isFar, ofV0, CV.up, SV.renL, SV.ren] <;> fail) | (refine ⟨rfl, Nat.le_of_ble_eq_true rfl, ?_⟩; simp [isFar, ofV0, CV.up, SV.renL, SV.ren] <;> fail) | (simp <;> fail))); conv => whnf) | (refine ⟨_, rfl, ?_⟩; conv => whnf)))
        try (refine Need.mk ?_ ?_; (focus exact Nat.le_trans (Nat.mul_le_mul_left _ hby) (by omega)); conv => whnf)
        (repeat (first | (exact Out.same; conv => whnf) | (exact Out1.same; conv => whnf) | (refine QAnd.mk ?_ ?_; conv => whnf) | (apply QStepH.go; conv => whnf) | (refine Both.lit_true ?_; conv => whnf) | (refine Both.lit_false ?_; conv => whnf) | (apply QStep.go; conv => whnf) | (refine Need.mk ?_ ?_; (focus (first | omega | exact ⟨by omega, by omega⟩ | rfl | exact ⟨rfl, rfl⟩ | exact ⟨rfl, by omega, by omega⟩ | exact ⟨by omega, by omega, by omega⟩ | exact ⟨rfl, Nat.le_of_ble_eq_true rfl⟩ | exact Nat.le_of_ble_eq_true rfl | (refine ⟨rfl, rfl, ?_⟩; simp [isFar, ofV0, CV.up, SV.renL, SV.ren] <;> fail) | (refine ⟨rfl, Nat.le_of_ble_eq_true rfl, ?_⟩; simp [isFar, ofV0, CV.up, SV.renL, SV.ren] <;> fail) | (simp <;> fail))); conv => whnf) | (refine ⟨_, rfl, ?_⟩; conv => whnf)))
        refine ⟨0 + 1, by omega, by omega, Weak.auto ?_⟩
        (repeat' ((conv => whnf); first | exact True.intro | (refine And.intro ?_ ?_)))
        all_goals first | rfl | exact .eq rfl | exact congrArg (SV.int .i64) hwk | (rw [htk _ rfl]; rfl)
      | succ k =>
        (refine sx_sound Γok _ ?_; conv => whnf)
        refine Both.dec (fun _ => ?_) (fun hx => absurd hpos hx)
        (conv => whnf)
        (repeat (first | (exact Out.same; conv => whnf) | (exact Out1.same; conv => whnf) | (refine QAnd.mk ?_ ?_; conv => whnf) | (apply QStepH.go; conv => whnf) | (refine Both.lit_true ?_; conv => whnf) | (refine Both.lit_false ?_; conv => whnf) | (apply QStep.go; conv => whnf) | (refine Need.mk ?_ ?_; (focus (first | omega | exact ⟨by omega, by omega⟩ | rfl | exact ⟨rfl, rfl⟩ | exact ⟨rfl, by omega, by omega⟩ | exact ⟨by omega, by omega, by omega⟩ | exact ⟨rfl, Nat.le_of_ble_eq_true rfl⟩ | exact Nat.le_of_ble_eq_true rfl | (refine ⟨rfl, rfl, ?_⟩; simp [isFar, ofV0, CV.up, SV.renL, SV.ren] <;> fail) | (refine ⟨rfl, Nat.le_of_ble_eq_true rfl, ?_⟩; simp [isFar, ofV0, CV.up, SV.renL, SV.ren] <;> fail) | (simp <;> fail))); conv => whnf) | (refine ⟨_, rfl, ?_⟩; conv => whnf) | (refine CallVC.auto errA_k ?_; conv => whnf)))
        refine CallVC.auto rbyteOk_k ⟨_, _, rfl, hs1, hsl1, ?_⟩
        intro v hv
        obtain rfl : c.k = v := by rw [hv, hkb]
        (conv => whnf)
        refine CallVC.auto pgetOk_k ⟨_, _, _, _, _, rfl, rfl, hsl2, hpk, u64_rng _, u64_rng _, ?_⟩
        (conv => whnf)
        (repeat (first | (exact Out.same; conv => whnf) | (exact Out1.same; conv => whnf) | (refine QAnd.mk ?_ ?_; conv => whnf) | (apply QStepH.go; conv => whnf) | (refine Both.lit_true ?_; conv => whnf) | (refine Both.lit_false ?_; conv => whnf) | (apply QStep.go; conv => whnf) | (refine Need.mk ?_ ?_; (focus (first | omega | exact ⟨by omega, by omega⟩ | rfl | exact ⟨rfl, rfl⟩ | exact ⟨rfl, by omega, by omega⟩ | exact ⟨by omega, by omega, by omega⟩ | exact ⟨rfl, Nat.le_of_ble_eq_true rfl⟩ | exact Nat.le_of_ble_eq_true rfl | (refine ⟨rfl, rfl, ?_⟩; simp [isFar, ofV0, CV.up, SV.renL, SV.ren] <;> fail) | (refine ⟨rfl, Nat.le_of_ble_eq_true rfl, ?_⟩; simp [isFar, ofV0, CV.up, SV.renL, SV.ren] <;> fail) | (simp <;> fail))); conv => whnf) | (refine ⟨_, rfl, ?_⟩; conv => whnf)))
        refine Both.dec (fun hx => absurd hx hc1) (fun _ => ?_)
        (conv => whnf)
        (repeat (first | (exact Out.same; conv => whnf) | (exact Out1.same; conv => whnf) | (refine QAnd.mk ?_ ?_; conv => whnf) | (apply QStepH.go; conv => whnf) | (refine Both.lit_true ?_; conv => whnf) | (refine Both.lit_false ?_; conv => whnf) | (apply QStep.go; conv => whnf) | (refine Need.mk ?_ ?_; (focus (first | omega | exact ⟨by omega, by omega⟩ | rfl | exact ⟨rfl, rfl⟩ | exact ⟨rfl, by omega, by omega⟩ | exact ⟨by omega, by omega, by omega⟩ | exact ⟨rfl, Nat.le_of_ble_eq_true rfl⟩ | exact Nat.le_of_ble_eq_true rfl | (refine ⟨rfl, rfl, ?_⟩; simp [isFar, ofV0, CV.up, SV.renL, SV.ren] <;> fail) | (refine ⟨rfl, Nat.le_of_ble_eq_true rfl, ?_⟩; simp [isFar, ofV0, CV.up, SV.renL, SV.ren] <;> fail) | (simp <;> fail))); conv => whnf) | (refine ⟨_, rfl, ?_⟩; conv => whnf)))
        refine Both.dec (fun hx => absurd hx hc2) (fun _ => ?_)
        (conv => whnf)
        (repeat (first | (exact Out.same; conv => whnf) | (exact Out1.same; conv => whnf) | (refine QAnd.mk ?_ ?_; conv => whnf) | (apply QStepH.go; conv => whnf) | (refine Both.lit_true ?_; conv => whnf) | (refine Both.lit_false ?_; conv => whnf) | (apply QStep.go; conv => whnf) | (refine Need.mk ?_ ?_; (focus (first | omega | exact ⟨by omega, by omega⟩ | rfl | exact ⟨rfl, rfl⟩ | exact ⟨rfl, by omega, by omega⟩ | exact ⟨by omega, by omega, by omega⟩ | exact ⟨rfl, Nat.le_of_ble_eq_true rfl⟩ | exact Nat.le_of_ble_eq_true rfl | (refine ⟨rfl, rfl, ?_⟩; simp [isFar, ofV0, CV.up, SV.renL, SV.ren] <;> fail) | (refine ⟨rfl, Nat.le_of_ble_eq_true rfl, ?_⟩; simp [isFar, ofV0, CV.up, SV.renL, SV.ren] <;> fail) | (simp <;> fail))); conv => whnf) | (refine ⟨_, rfl, ?_⟩; conv => whnf)))
        refine CallClo.auto oneItem_k ?_
        (conv => whnf)
        (repeat (first | (exact Out.same; conv => whnf) | (exact Out1.same; conv => whnf) | (refine QAnd.mk ?_ ?_; conv => whnf) | (apply QStepH.go; conv => whnf) | (refine Both.lit_true ?_; conv => whnf) | (refine Both.lit_false ?_; conv => whnf) | (apply QStep.go; conv => whnf) | (refine Need.mk ?_ ?_; (focus (first | omega | exact ⟨by omega, by omega⟩ | rfl | exact ⟨rfl, rfl⟩ | exact ⟨rfl, by omega, by omega⟩ | exact ⟨by omega, by omega, by omega⟩ | exact ⟨rfl, Nat.le_of_ble_eq_true rfl⟩ | exact Nat.le_of_ble_eq_true rfl | (refine ⟨rfl, rfl, ?_⟩; simp [isFar, ofV0, CV.up, SV.renL, SV.ren] <;> fail) | (refine ⟨rfl, Nat.le_of_ble_eq_true rfl, ?_⟩; simp [isFar, ofV0, CV.up, SV.renL, SV.ren] <;> fail) | (simp <;> fail))); conv => whnf) | (refine ⟨_, rfl, ?_⟩; conv => whnf)))
        try (refine Need.mk ?_ ?_; (focus exact Nat.le_trans (Nat.mul_le_mul_left _ hby) (by omega)); conv => whnf)
        (repeat (first | (exact Out.same; conv => whnf) | (exact Out1.same; conv => whnf) | (refine QAnd.mk ?_ ?_; conv => whnf) | (apply QStepH.go; conv => whnf) | (refine Both.lit_true ?_; conv => whnf) | (refine Both.lit_false ?_; conv => whnf) | (apply QStep.go; conv => whnf) | (refine Need.mk ?_ ?_; (focus (first | omega | exact ⟨by omega, by omega⟩ | rfl | exact ⟨rfl, rfl⟩ | exact ⟨rfl, by omega, by omega⟩ | exact ⟨by omega, by omega, by omega⟩ | exact ⟨rfl, Nat.le_of_ble_eq_true rfl⟩ | exact Nat.le_of_ble_eq_true rfl | (refine ⟨rfl, rfl, ?_⟩; simp [isFar, ofV0, CV.up, SV.renL, SV.ren] <;> fail) | (refine ⟨rfl, Nat.le_of_ble_eq_true rfl, ?_⟩; simp [isFar, ofV0, CV.up, SV.renL, SV.ren] <;> fail) | (simp <;> fail))); conv => whnf) | (refine ⟨_, rfl, ?_⟩; conv => whnf)))
        refine ⟨k + 1 + 1, by omega, by omega, Weak.auto ?_⟩
        (repeat' ((conv => whnf); first | exact True.intro | (refine And.intro ?_ ?_)))
        all_goals first | rfl | exact .eq rfl | exact congrArg (SV.int .i64) hwk | (rw [htk _ rfl]; rfl)
theorem getItem_k : Contract Try.prog [] 46 getItemS := ⟨⟨⟨_, rfl, rfl, rfl⟩⟩, getItem_c⟩
end Go.LX
