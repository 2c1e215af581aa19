/- Own texts of this claim, in build order: Qh, Qi, Qj, Qk, Ql, Wq, Wd, Qm, Qn, Po, Qo, Qp, Qq. -/
import Derived.Test.YtfnpemikicofaaaGreatDoorY5
section
set_option maxRecDepth 100000
set_option maxHeartbeats 2000000
set_option autoImplicit false
set_option linter.unusedVariables false
set_option linter.unusedSimpArgs false
namespace Go.LX
open Go.Proofs

open Classical in
def byt1S : Spec := fun args H Q => match args, H with
  | [.agg [.int .i64 i, .int .i64 c, .str k, .str v, .sl 1 n cs f]], [] => ∃ p : List Bs, cs = strs p ∧ n = p.length ∧ p.length ≤ 9223372036854775807 ∧ Q (.bool (!decide (okLf ⟨i, c, k, v, p⟩))) []
  | _, _ => False
theorem byt1_c : Meets Tryz.prog [] 31 byt1S := by
  refine meets_of Γok Tryz.func31 rfl ?_
  intro args H Q h
  unfold byt1S at h
  split at h
  case h_2 => exact h.elim
  rename_i i c k v n cs f
  obtain ⟨p, rfl, rfl, hp, h⟩ := h
  (refine sx_sound Γok _ ?_; conv => whnf)
  (repeat (first | (refine CallVC.auto with_k ⟨p, rfl, rfl, hp, ?_⟩; conv => whnf) | (exact Out.same; conv => whnf) | (exact Out1.same; conv => whnf) | (refine QAnd.mk ?_ ?_; conv => whnf) | (apply QStepH.go; conv => whnf) | (refine Both.lit_true ?_; conv => whnf) | (refine Both.lit_false ?_; conv => whnf) | (apply QStep.go; conv => whnf) | (refine Need.au ?_; conv => whnf) | (refine ⟨_, rfl, ?_⟩; conv => whnf)))
  exact ⟨_, _, WeakV.drop rfl, h⟩
theorem byt1_k : Contract Tryz.prog [] 31 byt1S := ⟨⟨⟨_, rfl, rfl, rfl⟩⟩, byt1_c⟩
def idx2S : Spec := fun args H Q => match args, H with
  | [.sl 5 n cs f, .func (.func 31) []], [] => ∃ L : List Lf, cs = flL L ∧ n = L.length ∧ L.length ≤ 1000000 ∧ (∀ x ∈ L, x.p.length ≤ 9223372036854775807) ∧ ∀ r : Int, (0 ≤ r ↔ ¬ ∀ x ∈ L, okLf x) → Q (.int .i64 r) []
  | _, _ => False
open Classical in
theorem idx2_c : Meets Tryz.prog [] 65 idx2S := by
  refine meets_of Γok Tryz.func65 rfl ?_
  intro args H Q h
  unfold idx2S at h
  split at h
  case h_2 => exact h.elim
  rename_i n cs f
  obtain ⟨L, rfl, rfl, hL, hp, h⟩ := h
  (refine sx_sound Γok _ ?_; conv => whnf)
  (repeat (first | (exact Out.same; conv => whnf) | (exact Out1.same; conv => whnf) | (refine QAnd.mk ?_ ?_; conv => whnf) | (apply QStepH.go; conv => whnf) | (refine Both.lit_true ?_; conv => whnf) | (refine Both.lit_false ?_; conv => whnf) | (apply QStep.go; conv => whnf) | (refine Need.au ?_; conv => whnf) | (refine ⟨_, rfl, ?_⟩; conv => whnf)))
  refine loop_rule (fun k : Nat => ⟨[.sl 5 L.length (flL L) f, .func (.func 31) [], .any, .any, .any, .any, .any, .int .i64 ((L.length : Nat) : Int), .int .i64 (k : Int), .any, .any, .any, .any, .any, .any, .any, .any, .any, .any], []⟩) (fun k => k ≤ L.length ∧ ∀ j, j < k → okLf (L.getD j lf0)) (fun k => L.length - k) 0 ⟨Nat.zero_le _, fun j hj => absurd hj (by omega)⟩ (Weak.auto ?_) ?_
  · (repeat' ((conv => whnf); first | exact True.intro | (refine And.intro ?_ ?_)))
    all_goals first | rfl | exact .eq rfl
  rintro k ⟨hk, hall⟩
  (refine sx_sound Γok _ ?_; conv => whnf)
  (repeat (first | (exact Out.same; conv => whnf) | (exact Out1.same; conv => whnf) | (refine QAnd.mk ?_ ?_; conv => whnf) | (apply QStepH.go; conv => whnf) | (refine Both.lit_true ?_; conv => whnf) | (refine Both.lit_false ?_; conv => whnf) | (apply QStep.go; conv => whnf) | (refine Need.au ?_; conv => whnf) | (refine ⟨_, rfl, ?_⟩; conv => whnf)))
  refine Both.dec (fun hlt => ?_) (fun hge => ?_)
  · have hkl : k < L.length := by omega
    have hat := flL_at L hkl lf0
    obtain ⟨x, hx⟩ : ∃ x, L.getD k lf0 = x := ⟨_, rfl⟩
    have hxg : L[k] = x := by rw [← hx, List.getD_eq_getElem?_getD, List.getElem?_eq_getElem hkl]; rfl
    have hxp : x.p.length ≤ 9223372036854775807 := hp x (by rw [← hxg]; exact List.getElem_mem hkl)
    rw [hx] at hat
    have hat : ((flL L).drop (((k : Nat) : Int).toNat * 5)).take 5 = [CV.int .i64 x.i, .int .i64 x.c, .str x.k, .str x.v, .sl 1 x.p.length (strs x.p) false] := hat
    have hix : ti50.size = 5 ∧ (0 : Int) ≤ (k : Int) ∧ (k : Int) < ((L.length : Nat) : Int) := ⟨rfl, by omega, by omega⟩
    have hk1 : IntKind.i64.wrap ((k : Int) + 1) = ((k + 1 : Nat) : Int) := by rw [wrap_i64 (by omega) (by omega)]; rfl
    by_cases hs : okLf x
    · have c1 : (!decide (okLf ⟨x.i, x.c, x.k, x.v, x.p⟩)) = false := by rw [decide_eq_true (show okLf ⟨x.i, x.c, x.k, x.v, x.p⟩ from hs)]; rfl
      have hnext : ∀ j, j < k + 1 → okLf (L.getD j lf0) := fun j hj => by
        rcases Nat.lt_or_ge j k with q | q
        · exact hall j q
        · rw [show j = k by omega, hx]
          exact hs
      (conv => whnf)
      (repeat (first | (refine Need.mk hix ?_; conv => whnf) | (refine ⟨_, hat, ?_⟩; conv => whnf) | (refine CallClo.auto byt1_k ⟨x.p, rfl, rfl, hxp, ?_⟩; conv => whnf) | (refine Both.of_false c1 ?_; conv => whnf) | (exact Out.same; conv => whnf) | (exact Out1.same; conv => whnf) | (refine QAnd.mk ?_ ?_; conv => whnf) | (apply QStepH.go; conv => whnf) | (refine Both.lit_true ?_; conv => whnf) | (refine Both.lit_false ?_; conv => whnf) | (apply QStep.go; conv => whnf) | (refine Need.au ?_; conv => whnf) | (refine ⟨_, rfl, ?_⟩; conv => whnf)))
      refine ⟨k + 1, ⟨hkl, hnext⟩, by omega, Weak.auto ?_⟩
      (repeat' ((conv => whnf); first | exact True.intro | (refine And.intro ?_ ?_)))
      all_goals first | rfl | exact .eq rfl | exact congrArg (SV.int .i64) hk1
    · have c1 : (!decide (okLf ⟨x.i, x.c, x.k, x.v, x.p⟩)) = true := by rw [decide_eq_false (show ¬ okLf ⟨x.i, x.c, x.k, x.v, x.p⟩ from hs)]; rfl
      have h := h (k : Int) ⟨fun _ q => hs (q x (by rw [← hxg]; exact List.getElem_mem hkl)), fun _ => by omega⟩
      (conv => whnf)
      (repeat (first | (refine Need.mk hix ?_; conv => whnf) | (refine ⟨_, hat, ?_⟩; conv => whnf) | (refine CallClo.auto byt1_k ⟨x.p, rfl, rfl, hxp, ?_⟩; conv => whnf) | (refine Both.of_true c1 ?_; conv => whnf) | (exact Out.same; conv => whnf) | (exact Out1.same; conv => whnf) | (refine QAnd.mk ?_ ?_; conv => whnf) | (apply QStepH.go; conv => whnf) | (refine Both.lit_true ?_; conv => whnf) | (refine Both.lit_false ?_; conv => whnf) | (apply QStep.go; conv => whnf) | (refine Need.au ?_; conv => whnf) | (refine ⟨_, rfl, ?_⟩; conv => whnf)))
      exact ⟨_, _, WeakV.drop rfl, h⟩
  · have h := h (-1) ⟨fun q => absurd q (by decide), fun q => absurd (fun x hx => by
      obtain ⟨j, hj, rfl⟩ := List.mem_iff_getElem.1 hx
      have := hall j (by omega)
      rw [List.getD_eq_getElem?_getD, List.getElem?_eq_getElem hj] at this
      exact this) q⟩
    (conv => whnf)
    (repeat (first | (exact Out.same; conv => whnf) | (exact Out1.same; conv => whnf) | (refine QAnd.mk ?_ ?_; conv => whnf) | (apply QStepH.go; conv => whnf) | (refine Both.lit_true ?_; conv => whnf) | (refine Both.lit_false ?_; conv => whnf) | (apply QStep.go; conv => whnf) | (refine Need.au ?_; conv => whnf) | (refine ⟨_, rfl, ?_⟩; conv => whnf)))
    exact ⟨_, _, WeakV.drop rfl, h⟩
theorem idx2_k : Contract Tryz.prog [] 65 idx2S := ⟨⟨⟨_, rfl, rfl, rfl⟩⟩, idx2_c⟩
open Classical in
def con2S : Spec := fun args H Q => match args, H with
  | [.sl 5 n cs f, .func (.func 31) []], [] => ∃ L : List Lf, cs = flL L ∧ n = L.length ∧ L.length ≤ 1000000 ∧ (∀ x ∈ L, x.p.length ≤ 9223372036854775807) ∧ Q (.bool (decide (¬ ∀ x ∈ L, okLf x))) []
  | _, _ => False
open Classical in
theorem con2_c : Meets Tryz.prog [] 30 con2S := by
  refine meets_of Γok Tryz.func30 rfl ?_
  intro args H Q h
  unfold con2S at h
  split at h
  case h_2 => exact h.elim
  rename_i n cs f
  obtain ⟨L, rfl, rfl, hL, hp, h⟩ := h
  (refine sx_sound Γok _ ?_; conv => whnf)
  (repeat (first | (exact Out.same; conv => whnf) | (exact Out1.same; conv => whnf) | (refine QAnd.mk ?_ ?_; conv => whnf) | (apply QStepH.go; conv => whnf) | (refine Both.lit_true ?_; conv => whnf) | (refine Both.lit_false ?_; conv => whnf) | (apply QStep.go; conv => whnf) | (refine Need.au ?_; conv => whnf) | (refine ⟨_, rfl, ?_⟩; conv => whnf)))
  refine CallVC.auto idx2_k ⟨L, rfl, rfl, hL, hp, fun r hr => ?_⟩
  have e : decide (0 ≤ r) = decide (¬ ∀ x ∈ L, okLf x) := decide_eq_decide.2 hr
  (conv => whnf)
  (repeat (first | (exact Out.same; conv => whnf) | (exact Out1.same; conv => whnf) | (refine QAnd.mk ?_ ?_; conv => whnf) | (apply QStepH.go; conv => whnf) | (refine Both.lit_true ?_; conv => whnf) | (refine Both.lit_false ?_; conv => whnf) | (apply QStep.go; conv => whnf) | (refine Need.au ?_; conv => whnf) | (refine ⟨_, rfl, ?_⟩; conv => whnf)))
  refine ⟨_, _, WeakV.drop rfl, ?_⟩
  exact (congrArg (fun b => Q (SV.bool b) []) e).mpr h
theorem con2_k : Contract Tryz.prog [] 30 con2S := ⟨⟨⟨_, rfl, rfl, rfl⟩⟩, con2_c⟩
def bytes9AS : Spec := fun args H Q => match args, H with
  | [.ptr 0 0], [.cells [.int .i64 e, .opt 0 1, .own 1] 74, .own 5 1 m xs true] => ∃ l : List UInt8, xs = bys l ∧ m = l.length ∧ l.length < 1000000000 ∧
    ∀ s, s = (if e = 0 then l else []) → Q (.tuple [.str s, .int .i64 e]) [.cells [.int .i64 e, .opt 0 1, .own 1] 74, .gone]
  | _, _ => False
theorem bytes9A_k : Contract Tryz.prog [] 37 bytes9AS := bytes_k.imp fun args H Q h => by
  unfold bytes9AS at h
  split at h
  case h_2 => exact h.elim
  obtain ⟨l, rfl, rfl, hl, h⟩ := h
  exact ⟨l, rfl, rfl, hl, h _ rfl⟩
theorem flat32 : ∀ {p : List Bs}, (∀ s ∈ p, s.length = 32) → p.flatten.length = 32 * p.length
  | [], _ => rfl
  | a :: r, h => by rw [List.flatten_cons, List.length_append, h a (List.mem_cons_self ..), flat32 (fun s hs => h s (List.mem_cons_of_mem _ hs)), List.length_cons]; omega
theorem headL_len {x : Lf} (h : okLf x) : (headL x).length ≤ 101 := by
  have h1 := h.k
  have h2 := h.v
  unfold headL
  simp only [List.length_append, beb_length]
  omega
theorem putL_len {x : Lf} (h : okLf x) : (putL x).length ≤ 613 := by
  have h1 := headL_len h
  have h2 := h.p
  unfold putL
  rw [List.length_append, flat32 h.d]
  omega
theorem puts_len : ∀ {L : List Lf}, (∀ x ∈ L, okLf x) → ((L.map putL).flatten).length ≤ 613 * L.length
  | [], _ => Nat.le_refl _
  | a :: r, h => by
    have h1 := putL_len (h a (List.mem_cons_self ..))
    have h2 := puts_len (fun x hx => h x (List.mem_cons_of_mem _ hx))
    rw [List.map_cons, List.flatten_cons, List.length_append, List.length_cons]
    omega
def bytesK (a : Bool) (L : List Lf) (k : Nat) : Bs := [if a then 2 else 1] ++ beb L.length 1 ++ ((L.take k).map putL).flatten
theorem bytesK_len (a : Bool) {L : List Lf} {k : Nat} (h : ∀ x ∈ L, okLf x) (hk : k ≤ L.length) (h2 : L.length ≤ 2) : (bytesK a L k).length ≤ 2000 := by
  have := puts_len (L := L.take k) (fun x hx => h x (List.mem_of_mem_take hx))
  rw [List.length_take] at this
  unfold bytesK
  rw [List.length_append, List.length_append, beb_length]
  show 1 + 1 + _ ≤ _
  omega
theorem bytesK_succ (a : Bool) {L : List Lf} {k : Nat} (h : k < L.length) : bytesK a L (k + 1) = bytesK a L k ++ putL L[k] := by
  unfold bytesK
  rw [List.take_succ_eq_append_getElem h, List.map_append, List.flatten_append, List.append_assoc, List.append_assoc, List.append_assoc]
  simp
theorem bytesK_all (a : Bool) (L : List Lf) : bytesK a L L.length = bytesX a L := by
  unfold bytesK bytesX
  rw [List.take_length]
def pbytesS : Spec := fun args H Q => match args, H with
  | [.agg [.bool a, .sl 5 n cs f]], [] => ∃ L : List Lf, cs = flL L ∧ n = L.length ∧ L.length ≤ 1000000 ∧ (∀ x ∈ L, x.p.length ≤ 9223372036854775807) ∧ ∀ s e, (s, e) = bytesV a L → Q (.tuple [.str s, .int .i64 e]) []
  | _, _ => False
open Classical in
theorem pbytes_c : Meets Tryz.prog [] 16 pbytesS := by
  refine meets_of Γok Tryz.func16 rfl ?_
  intro args H Q h
  unfold pbytesS at h
  split at h
  case h_2 => exact h.elim
  rename_i a n cs f
  obtain ⟨L, rfl, rfl, hL, hp, h⟩ := h
  by_cases hbig : 2 < L.length
  · have h := h _ _ (show _ = bytesV a L from (if_neg (fun q : fitsX L => by have := q.1; omega)).symm)
    have c1 : decide ((2 : Int) < ((L.length : Nat) : Int)) = true := decide_eq_true (by omega)
    (refine sx_sound Γok _ ?_; conv => whnf)
    (repeat (first | (refine Both.of_true c1 ?_; conv => whnf) | (exact Out.same; conv => whnf) | (exact Out1.same; conv => whnf) | (refine QAnd.mk ?_ ?_; conv => whnf) | (apply QStepH.go; conv => whnf) | (refine Both.lit_true ?_; conv => whnf) | (refine Both.lit_false ?_; conv => whnf) | (apply QStep.go; conv => whnf) | (refine Need.au ?_; conv => whnf) | (refine ⟨_, rfl, ?_⟩; conv => whnf)))
    exact ⟨_, _, WeakV.drop rfl, h⟩
  have c1 : decide ((2 : Int) < ((L.length : Nat) : Int)) = false := decide_eq_false (by omega)
  by_cases hok : ∀ x ∈ L, okLf x
  case neg =>
    have h := h _ _ (show _ = bytesV a L from (if_neg (fun q : fitsX L => hok q.2)).symm)
    have c2 : decide (¬ ∀ x ∈ L, okLf x) = true := decide_eq_true hok
    (refine sx_sound Γok _ ?_; conv => whnf)
    (repeat (first | (refine Both.of_false c1 ?_; conv => whnf) | (refine CallVC.auto con2_k ⟨L, rfl, rfl, hL, hp, ?_⟩; conv => whnf) | (refine Both.of_true c2 ?_; conv => whnf) | (exact Out.same; conv => whnf) | (exact Out1.same; conv => whnf) | (refine QAnd.mk ?_ ?_; conv => whnf) | (apply QStepH.go; conv => whnf) | (refine Both.lit_true ?_; conv => whnf) | (refine Both.lit_false ?_; conv => whnf) | (apply QStep.go; conv => whnf) | (refine Need.au ?_; conv => whnf) | (refine ⟨_, rfl, ?_⟩; conv => whnf)))
    exact ⟨_, _, WeakV.drop rfl, h⟩
  have h := h _ _ (show _ = bytesV a L from (if_pos (⟨by omega, hok⟩ : fitsX L)).symm)
  have c2 : decide (¬ ∀ x ∈ L, okLf x) = false := decide_eq_false (fun q => q hok)
  have hn1 : (0 : Int) ≤ ((L.length : Nat) : Int) ∧ ((L.length : Nat) : Int) ≤ 255 := by omega
  cases a with
  | true =>
    (refine sx_sound Γok _ ?_; conv => whnf)
    (repeat (first | (refine Both.of_false c1 ?_; conv => whnf) | (refine CallVC.auto con2_k ⟨L, rfl, rfl, hL, hp, ?_⟩; conv => whnf) | (refine Both.of_false c2 ?_; conv => whnf) | (exact Out.same; conv => whnf) | (exact Out1.same; conv => whnf) | (refine QAnd.mk ?_ ?_; conv => whnf) | (apply QStepH.go; conv => whnf) | (refine Both.lit_true ?_; conv => whnf) | (refine Both.lit_false ?_; conv => whnf) | (apply QStep.go; conv => whnf) | (refine Need.au ?_; conv => whnf) | (refine ⟨_, rfl, ?_⟩; conv => whnf)))
    refine CallVC.autoW _ (Weak.wr 1 5 rfl) byteOk_k (Need.mk ⟨by decide, by decide⟩ ⟨[], rfl, rfl, by show 0 < 10000000; omega, ?_⟩)
    (conv => whnf)
    (repeat (first | (exact Out.same; conv => whnf) | (exact Out1.same; conv => whnf) | (refine QAnd.mk ?_ ?_; conv => whnf) | (apply QStepH.go; conv => whnf) | (refine Both.lit_true ?_; conv => whnf) | (refine Both.lit_false ?_; conv => whnf) | (apply QStep.go; conv => whnf) | (refine Need.au ?_; conv => whnf) | (refine ⟨_, rfl, ?_⟩; conv => whnf)))
    refine CallVC.auto byteOk_k (Need.mk hn1 ⟨_, rfl, rfl, by simp, ?_⟩)
    (conv => whnf)
    (repeat (first | (exact Out.same; conv => whnf) | (exact Out1.same; conv => whnf) | (refine QAnd.mk ?_ ?_; conv => whnf) | (apply QStepH.go; conv => whnf) | (refine Both.lit_true ?_; conv => whnf) | (refine Both.lit_false ?_; conv => whnf) | (apply QStep.go; conv => whnf) | (refine Need.au ?_; conv => whnf) | (refine ⟨_, rfl, ?_⟩; conv => whnf)))
    have hstart : [] ++ [UInt8.ofNat (Int.toNat 2)] ++ [UInt8.ofNat (((L.length : Nat) : Int)).toNat] = bytesK true L 0 := by
      rw [Int.toNat_natCast]
      unfold bytesK
      rw [List.take_zero, beb_one]
      rfl
    have hst2 : LObj.own 5 1 ([] ++ [UInt8.ofNat (Int.toNat 2)] ++ [UInt8.ofNat (((L.length : Nat) : Int)).toNat]).length (bys ([] ++ [UInt8.ofNat (Int.toNat 2)] ++ [UInt8.ofNat (((L.length : Nat) : Int)).toNat])) true = .own 5 1 (bytesK true L 0).length (bys (bytesK true L 0)) true := by rw [hstart]
    refine loop_rule (fun k : Nat => ⟨[.any, .ptr 0 0, .any, .any, .ptr 1 0, .any, .any, .any, .any, .any, .any, .any, .any, .any, .any, .any, .any, .any, .any, .any, .any, .any, .any, .any, .any, .any, .any, .any, .sl 5 L.length (flL L) f, .int .i64 ((L.length : Nat) : Int), .int .i64 (k : Int), .any, .any, .any, .any, .any, .any, .any, .any, .any, .any, .any, .any, .any, .any, .any, .any, .any, .any, .any, .any, .any, .any, .any, .any, .any, .any, .any, .any, .any, .any, .any, .any, .any, .any, .any, .any, .any], [.cells [.bool true, .sl 5 L.length (flL L) f] 42, .cells [.int .i64 0, .opt 1 1, .own 2] 74, .own 5 1 (bytesK true L k).length (bys (bytesK true L k)) true]⟩) (fun k => k ≤ L.length) (fun k => L.length - k) 0 (Nat.zero_le _) (Weak.auto ?_) ?_
    · (repeat' ((conv => whnf); first | exact True.intro | (refine And.intro ?_ ?_)))
      all_goals first | rfl | exact .eq rfl | exact .eq hst2 | exact hst2
    intro k hk
    have hXl := bytesK_len true hok hk (by omega)
    (refine sx_sound Γok _ ?_; conv => whnf)
    (repeat (first | (exact Out.same; conv => whnf) | (exact Out1.same; conv => whnf) | (refine QAnd.mk ?_ ?_; conv => whnf) | (apply QStepH.go; conv => whnf) | (refine Both.lit_true ?_; conv => whnf) | (refine Both.lit_false ?_; conv => whnf) | (apply QStep.go; conv => whnf) | (refine Need.au ?_; conv => whnf) | (refine ⟨_, rfl, ?_⟩; conv => whnf)))
    refine Both.dec (fun hlt => ?_) (fun hge => ?_)
    · have hkl : k < L.length := by omega
      have hat := flL_at L hkl lf0
      obtain ⟨x, hx⟩ : ∃ x, L.getD k lf0 = x := ⟨_, rfl⟩
      have hxg : L[k] = x := by rw [← hx, List.getD_eq_getElem?_getD, List.getElem?_eq_getElem hkl]; rfl
      have hxm : x ∈ L := by rw [← hxg]; exact List.getElem_mem hkl
      have hxo := hok x hxm
      have hxl := putL_len hxo
      rw [hx] at hat
      have hat : ((flL L).drop (((k : Nat) : Int).toNat * 5)).take 5 = [CV.int .i64 x.i, .int .i64 x.c, .str x.k, .str x.v, .sl 1 x.p.length (strs x.p) false] := hat
      have hix : ti50.size = 5 ∧ (0 : Int) ≤ (k : Int) ∧ (k : Int) < ((L.length : Nat) : Int) := ⟨rfl, by omega, by omega⟩
      have hk1 : IntKind.i64.wrap ((k : Int) + 1) = ((k + 1 : Nat) : Int) := by rw [wrap_i64 (by omega) (by omega)]; rfl
      have hi1 := hxo.i
      have hc1 := hxo.c
      have hk16 := hxo.k
      have hv64 := hxo.v
      have hp16 := hxo.p
      have hwi : IntKind.u64.wrap x.i = x.i := wrap_u64 (by omega) (by omega)
      have hwc : IntKind.u64.wrap x.c = x.c := wrap_u64 (by omega) (by omega)
      have ni : 0 ≤ IntKind.u64.wrap x.i ∧ IntKind.u64.wrap x.i < 18446744073709551616 := by rw [hwi]; omega
      have nc : 0 ≤ IntKind.u64.wrap x.c ∧ IntKind.u64.wrap x.c < 18446744073709551616 := by rw [hwc]; omega
      have nk : x.k.length ≤ 65535 := by omega
      have nv : x.v.length ≤ 65535 := by omega
      have np : (0 : Int) ≤ ((x.p.length : Nat) : Int) ∧ ((x.p.length : Nat) : Int) ≤ 255 := by omega
      have hnF := bytesK_succ true hkl
      rw [hxg] at hnF
      obtain ⟨X, hX⟩ : ∃ X, bytesK true L k = X := ⟨_, rfl⟩
      rw [hX] at hXl hnF
      have hhead : X ++ beb (IntKind.u64.wrap x.i).toNat 8 ++ beb (IntKind.u64.wrap x.c).toNat 8 ++ (beb x.k.length 2 ++ x.k) ++ (beb x.v.length 2 ++ x.v) ++ [UInt8.ofNat (((x.p.length : Nat) : Int)).toNat] = X ++ headL x := by
        rw [hwi, hwc, Int.toNat_natCast, ← beb_one]
        unfold headL
        simp only [List.append_assoc]
      have hhl := headL_len hxo
      rw [hX]
      (conv => whnf)
      (repeat (first | (refine Need.mk hix ?_; conv => whnf) | (refine ⟨_, hat, ?_⟩; conv => whnf) | (exact Out.same; conv => whnf) | (exact Out1.same; conv => whnf) | (refine QAnd.mk ?_ ?_; conv => whnf) | (apply QStepH.go; conv => whnf) | (refine Both.lit_true ?_; conv => whnf) | (refine Both.lit_false ?_; conv => whnf) | (apply QStep.go; conv => whnf) | (refine Need.au ?_; conv => whnf) | (refine ⟨_, rfl, ?_⟩; conv => whnf)))
      refine CallVC.auto numOk_k (Need.mk ni ⟨_, rfl, rfl, by omega, ?_⟩)
      (conv => whnf)
      (repeat (first | (exact Out.same; conv => whnf) | (exact Out1.same; conv => whnf) | (refine QAnd.mk ?_ ?_; conv => whnf) | (apply QStepH.go; conv => whnf) | (refine Both.lit_true ?_; conv => whnf) | (refine Both.lit_false ?_; conv => whnf) | (apply QStep.go; conv => whnf) | (refine Need.au ?_; conv => whnf) | (refine ⟨_, rfl, ?_⟩; conv => whnf)))
      refine CallVC.auto numOk_k (Need.mk nc ⟨_, rfl, rfl, by simp [beb_length]; omega, ?_⟩)
      (conv => whnf)
      (repeat (first | (exact Out.same; conv => whnf) | (exact Out1.same; conv => whnf) | (refine QAnd.mk ?_ ?_; conv => whnf) | (apply QStepH.go; conv => whnf) | (refine Both.lit_true ?_; conv => whnf) | (refine Both.lit_false ?_; conv => whnf) | (apply QStep.go; conv => whnf) | (refine Need.au ?_; conv => whnf) | (refine ⟨_, rfl, ?_⟩; conv => whnf)))
      refine CallVC.auto textOk_k (Need.mk nk ⟨_, rfl, rfl, by simp [beb_length]; omega, ?_⟩)
      (conv => whnf)
      (repeat (first | (exact Out.same; conv => whnf) | (exact Out1.same; conv => whnf) | (refine QAnd.mk ?_ ?_; conv => whnf) | (apply QStepH.go; conv => whnf) | (refine Both.lit_true ?_; conv => whnf) | (refine Both.lit_false ?_; conv => whnf) | (apply QStep.go; conv => whnf) | (refine Need.au ?_; conv => whnf) | (refine ⟨_, rfl, ?_⟩; conv => whnf)))
      refine CallVC.auto textOk_k (Need.mk nv ⟨_, rfl, rfl, by simp [beb_length]; omega, ?_⟩)
      (conv => whnf)
      (repeat (first | (exact Out.same; conv => whnf) | (exact Out1.same; conv => whnf) | (refine QAnd.mk ?_ ?_; conv => whnf) | (apply QStepH.go; conv => whnf) | (refine Both.lit_true ?_; conv => whnf) | (refine Both.lit_false ?_; conv => whnf) | (apply QStep.go; conv => whnf) | (refine Need.au ?_; conv => whnf) | (refine ⟨_, rfl, ?_⟩; conv => whnf)))
      refine CallVC.auto byteOk_k (Need.mk np ⟨_, rfl, rfl, by simp [beb_length]; omega, ?_⟩)
      (conv => whnf)
      (repeat (first | (exact Out.same; conv => whnf) | (exact Out1.same; conv => whnf) | (refine QAnd.mk ?_ ?_; conv => whnf) | (apply QStepH.go; conv => whnf) | (refine Both.lit_true ?_; conv => whnf) | (refine Both.lit_false ?_; conv => whnf) | (apply QStep.go; conv => whnf) | (refine Need.au ?_; conv => whnf) | (refine ⟨_, rfl, ?_⟩; conv => whnf)))
      have hst3 : LObj.own 5 1 (X ++ beb (IntKind.u64.wrap x.i).toNat 8 ++ beb (IntKind.u64.wrap x.c).toNat 8 ++ (beb x.k.length 2 ++ x.k) ++ (beb x.v.length 2 ++ x.v) ++ [UInt8.ofNat (((x.p.length : Nat) : Int)).toNat]).length (bys (X ++ beb (IntKind.u64.wrap x.i).toNat 8 ++ beb (IntKind.u64.wrap x.c).toNat 8 ++ (beb x.k.length 2 ++ x.k) ++ (beb x.v.length 2 ++ x.v) ++ [UInt8.ofNat (((x.p.length : Nat) : Int)).toNat])) true = .own 5 1 (X ++ headL x ++ (x.p.take 0).flatten).length (bys (X ++ headL x ++ (x.p.take 0).flatten)) true := by rw [hhead]; simp
      refine loop_rule (fun j : Nat => ⟨[.any, .ptr 0 0, .any, .any, .ptr 1 0, .any, .any, .any, .any, .any, .any, .any, .any, .any, .any, .any, .any, .any, .any, .any, .any, .any, .any, .any, .any, .any, .any, .any, .sl 5 L.length (flL L) f, .int .i64 ((L.length : Nat) : Int), .int .i64 (k : Int), .any, .any, .any, .any, .any, .any, .any, .any, .any, .any, .any, .any, .any, .any, .any, .any, .any, .any, .any, .any, .any, .any, .any, .any, .sl 1 x.p.length (strs x.p) false, .int .i64 ((x.p.length : Nat) : Int), .int .i64 (j : Int), .any, .any, .any, .any, .any, .any, .any, .any, .any, .any], [.cells [.bool true, .sl 5 L.length (flL L) f] 42, .cells [.int .i64 0, .opt 1 1, .own 2] 74, .own 5 1 (X ++ headL x ++ (x.p.take j).flatten).length (bys (X ++ headL x ++ (x.p.take j).flatten)) true]⟩) (fun j => j ≤ x.p.length) (fun j => x.p.length - j) 0 (Nat.zero_le _) (Weak.auto ?_) ?_
      · (repeat' ((conv => whnf); first | exact True.intro | (refine And.intro ?_ ?_)))
        all_goals first | rfl | exact .eq rfl | exact .eq hst3 | exact hst3
      intro j hj
      have hfl : ((x.p.take j).flatten).length = 32 * j := by
        rw [flat32 (fun s hs => hxo.d s (List.mem_of_mem_take hs)), List.length_take, Nat.min_eq_left hj]
      (refine sx_sound Γok _ ?_; conv => whnf)
      (repeat (first | (exact Out.same; conv => whnf) | (exact Out1.same; conv => whnf) | (refine QAnd.mk ?_ ?_; conv => whnf) | (apply QStepH.go; conv => whnf) | (refine Both.lit_true ?_; conv => whnf) | (refine Both.lit_false ?_; conv => whnf) | (apply QStep.go; conv => whnf) | (refine Need.au ?_; conv => whnf) | (refine ⟨_, rfl, ?_⟩; conv => whnf)))
      refine Both.dec (fun hjl => ?_) (fun hjg => ?_)
      · have hjn : j < x.p.length := by omega
        have hat2 := strs_at x.p hjn
        have hj1 : IntKind.i64.wrap ((j : Int) + 1) = ((j + 1 : Nat) : Int) := by rw [wrap_i64 (by omega) (by omega)]; rfl
        have hgd : x.p.getD j [] = x.p[j] := by rw [List.getD_eq_getElem?_getD, List.getElem?_eq_getElem hjn]; rfl
        have hdl : (x.p.getD j []).length = 32 := by rw [hgd]; exact hxo.d _ (List.getElem_mem hjn)
        have nd : (x.p.getD j []).length < 10000000 := by omega
        have hnext : X ++ headL x ++ (x.p.take j).flatten ++ x.p.getD j [] = X ++ headL x ++ (x.p.take (j + 1)).flatten := by
          rw [List.take_succ_eq_append_getElem hjn, List.flatten_append, hgd]
          simp
        have hst4 : LObj.own 5 1 (X ++ headL x ++ (x.p.take j).flatten ++ x.p.getD j []).length (bys (X ++ headL x ++ (x.p.take j).flatten ++ x.p.getD j [])) true = .own 5 1 (X ++ headL x ++ (x.p.take (j + 1)).flatten).length (bys (X ++ headL x ++ (x.p.take (j + 1)).flatten)) true := by rw [hnext]
        (conv => whnf)
        (repeat (first | (refine ⟨_, hat2, ?_⟩; conv => whnf) | (exact Out.same; conv => whnf) | (exact Out1.same; conv => whnf) | (refine QAnd.mk ?_ ?_; conv => whnf) | (apply QStepH.go; conv => whnf) | (refine Both.lit_true ?_; conv => whnf) | (refine Both.lit_false ?_; conv => whnf) | (apply QStep.go; conv => whnf) | (refine Need.au ?_; conv => whnf) | (refine ⟨_, rfl, ?_⟩; conv => whnf)))
        refine CallVC.auto rawOk_k (Need.mk nd ⟨_, rfl, rfl, by rw [List.length_append, List.length_append, hfl]; omega, ?_⟩)
        (conv => whnf)
        (repeat (first | (exact Out.same; conv => whnf) | (exact Out1.same; conv => whnf) | (refine QAnd.mk ?_ ?_; conv => whnf) | (apply QStepH.go; conv => whnf) | (refine Both.lit_true ?_; conv => whnf) | (refine Both.lit_false ?_; conv => whnf) | (apply QStep.go; conv => whnf) | (refine Need.au ?_; conv => whnf) | (refine ⟨_, rfl, ?_⟩; conv => whnf)))
        refine ⟨j + 1, by omega, by omega, Weak.auto ?_⟩
        (repeat' ((conv => whnf); first | exact True.intro | (refine And.intro ?_ ?_)))
        all_goals first | rfl | exact .eq rfl | exact congrArg (SV.int .i64) hj1 | exact hst4 | exact .eq hst4
      have hjn : j = x.p.length := by omega
      subst hjn
      have hst5 : LObj.own 5 1 (X ++ headL x ++ (x.p.take x.p.length).flatten).length (bys (X ++ headL x ++ (x.p.take x.p.length).flatten)) true = .own 5 1 (bytesK true L (k + 1)).length (bys (bytesK true L (k + 1))) true := by
        rw [hnF, List.take_length, List.append_assoc]
        rfl
      (conv => whnf)
      (repeat (first | (exact Out.same; conv => whnf) | (exact Out1.same; conv => whnf) | (refine QAnd.mk ?_ ?_; conv => whnf) | (apply QStepH.go; conv => whnf) | (refine Both.lit_true ?_; conv => whnf) | (refine Both.lit_false ?_; conv => whnf) | (apply QStep.go; conv => whnf) | (refine Need.au ?_; conv => whnf) | (refine ⟨_, rfl, ?_⟩; conv => whnf)))
      refine ⟨k + 1, by omega, by omega, Weak.auto ?_⟩
      (repeat' ((conv => whnf); first | exact True.intro | (refine And.intro ?_ ?_)))
      all_goals first | rfl | exact .eq rfl | exact congrArg (SV.int .i64) hk1 | exact hst5 | exact .eq hst5
    have hkn : k = L.length := by omega
    subst hkn
    rw [bytesK_all] at hXl ⊢
    (conv => whnf)
    (repeat (first | (exact Out.same; conv => whnf) | (exact Out1.same; conv => whnf) | (refine QAnd.mk ?_ ?_; conv => whnf) | (apply QStepH.go; conv => whnf) | (refine Both.lit_true ?_; conv => whnf) | (refine Both.lit_false ?_; conv => whnf) | (apply QStep.go; conv => whnf) | (refine Need.au ?_; conv => whnf) | (refine ⟨_, rfl, ?_⟩; conv => whnf)))
    refine CallVC.auto bytes9A_k ⟨_, rfl, rfl, by omega, fun s hs => ?_⟩
    have hs : s = bytesX true L := hs
    subst hs
    (conv => whnf)
    (repeat (first | (exact Out.same; conv => whnf) | (exact Out1.same; conv => whnf) | (refine QAnd.mk ?_ ?_; conv => whnf) | (apply QStepH.go; conv => whnf) | (refine Both.lit_true ?_; conv => whnf) | (refine Both.lit_false ?_; conv => whnf) | (apply QStep.go; conv => whnf) | (refine Need.au ?_; conv => whnf) | (refine ⟨_, rfl, ?_⟩; conv => whnf)))
    exact ⟨_, _, WeakV.drop rfl, h⟩
  | false =>
    (refine sx_sound Γok _ ?_; conv => whnf)
    (repeat (first | (refine Both.of_false c1 ?_; conv => whnf) | (refine CallVC.auto con2_k ⟨L, rfl, rfl, hL, hp, ?_⟩; conv => whnf) | (refine Both.of_false c2 ?_; conv => whnf) | (exact Out.same; conv => whnf) | (exact Out1.same; conv => whnf) | (refine QAnd.mk ?_ ?_; conv => whnf) | (apply QStepH.go; conv => whnf) | (refine Both.lit_true ?_; conv => whnf) | (refine Both.lit_false ?_; conv => whnf) | (apply QStep.go; conv => whnf) | (refine Need.au ?_; conv => whnf) | (refine ⟨_, rfl, ?_⟩; conv => whnf)))
    refine CallVC.autoW _ (Weak.wr 1 5 rfl) byteOk_k (Need.mk ⟨by decide, by decide⟩ ⟨[], rfl, rfl, by show 0 < 10000000; omega, ?_⟩)
    (conv => whnf)
    (repeat (first | (exact Out.same; conv => whnf) | (exact Out1.same; conv => whnf) | (refine QAnd.mk ?_ ?_; conv => whnf) | (apply QStepH.go; conv => whnf) | (refine Both.lit_true ?_; conv => whnf) | (refine Both.lit_false ?_; conv => whnf) | (apply QStep.go; conv => whnf) | (refine Need.au ?_; conv => whnf) | (refine ⟨_, rfl, ?_⟩; conv => whnf)))
    refine CallVC.auto byteOk_k (Need.mk hn1 ⟨_, rfl, rfl, by simp, ?_⟩)
    (conv => whnf)
    (repeat (first | (exact Out.same; conv => whnf) | (exact Out1.same; conv => whnf) | (refine QAnd.mk ?_ ?_; conv => whnf) | (apply QStepH.go; conv => whnf) | (refine Both.lit_true ?_; conv => whnf) | (refine Both.lit_false ?_; conv => whnf) | (apply QStep.go; conv => whnf) | (refine Need.au ?_; conv => whnf) | (refine ⟨_, rfl, ?_⟩; conv => whnf)))
    have hstart : [] ++ [UInt8.ofNat (Int.toNat 1)] ++ [UInt8.ofNat (((L.length : Nat) : Int)).toNat] = bytesK false L 0 := by
      rw [Int.toNat_natCast]
      unfold bytesK
      rw [List.take_zero, beb_one]
      rfl
    have hst2 : LObj.own 5 1 ([] ++ [UInt8.ofNat (Int.toNat 1)] ++ [UInt8.ofNat (((L.length : Nat) : Int)).toNat]).length (bys ([] ++ [UInt8.ofNat (Int.toNat 1)] ++ [UInt8.ofNat (((L.length : Nat) : Int)).toNat])) true = .own 5 1 (bytesK false L 0).length (bys (bytesK false L 0)) true := by rw [hstart]
    refine loop_rule (fun k : Nat => ⟨[.any, .ptr 0 0, .any, .any, .ptr 1 0, .any, .any, .any, .any, .any, .any, .any, .any, .any, .any, .any, .any, .any, .any, .any, .any, .any, .any, .any, .any, .any, .any, .any, .sl 5 L.length (flL L) f, .int .i64 ((L.length : Nat) : Int), .int .i64 (k : Int), .any, .any, .any, .any, .any, .any, .any, .any, .any, .any, .any, .any, .any, .any, .any, .any, .any, .any, .any, .any, .any, .any, .any, .any, .any, .any, .any, .any, .any, .any, .any, .any, .any, .any, .any, .any, .any], [.cells [.bool false, .sl 5 L.length (flL L) f] 42, .cells [.int .i64 0, .opt 1 1, .own 2] 74, .own 5 1 (bytesK false L k).length (bys (bytesK false L k)) true]⟩) (fun k => k ≤ L.length) (fun k => L.length - k) 0 (Nat.zero_le _) (Weak.auto ?_) ?_
    · (repeat' ((conv => whnf); first | exact True.intro | (refine And.intro ?_ ?_)))
      all_goals first | rfl | exact .eq rfl | exact .eq hst2 | exact hst2
    intro k hk
    have hXl := bytesK_len false hok hk (by omega)
    (refine sx_sound Γok _ ?_; conv => whnf)
    (repeat (first | (exact Out.same; conv => whnf) | (exact Out1.same; conv => whnf) | (refine QAnd.mk ?_ ?_; conv => whnf) | (apply QStepH.go; conv => whnf) | (refine Both.lit_true ?_; conv => whnf) | (refine Both.lit_false ?_; conv => whnf) | (apply QStep.go; conv => whnf) | (refine Need.au ?_; conv => whnf) | (refine ⟨_, rfl, ?_⟩; conv => whnf)))
    refine Both.dec (fun hlt => ?_) (fun hge => ?_)
    · have hkl : k < L.length := by omega
      have hat := flL_at L hkl lf0
      obtain ⟨x, hx⟩ : ∃ x, L.getD k lf0 = x := ⟨_, rfl⟩
      have hxg : L[k] = x := by rw [← hx, List.getD_eq_getElem?_getD, List.getElem?_eq_getElem hkl]; rfl
      have hxm : x ∈ L := by rw [← hxg]; exact List.getElem_mem hkl
      have hxo := hok x hxm
      have hxl := putL_len hxo
      rw [hx] at hat
      have hat : ((flL L).drop (((k : Nat) : Int).toNat * 5)).take 5 = [CV.int .i64 x.i, .int .i64 x.c, .str x.k, .str x.v, .sl 1 x.p.length (strs x.p) false] := hat
      have hix : ti50.size = 5 ∧ (0 : Int) ≤ (k : Int) ∧ (k : Int) < ((L.length : Nat) : Int) := ⟨rfl, by omega, by omega⟩
      have hk1 : IntKind.i64.wrap ((k : Int) + 1) = ((k + 1 : Nat) : Int) := by rw [wrap_i64 (by omega) (by omega)]; rfl
      have hi1 := hxo.i
      have hc1 := hxo.c
      have hk16 := hxo.k
      have hv64 := hxo.v
      have hp16 := hxo.p
      have hwi : IntKind.u64.wrap x.i = x.i := wrap_u64 (by omega) (by omega)
      have hwc : IntKind.u64.wrap x.c = x.c := wrap_u64 (by omega) (by omega)
      have ni : 0 ≤ IntKind.u64.wrap x.i ∧ IntKind.u64.wrap x.i < 18446744073709551616 := by rw [hwi]; omega
      have nc : 0 ≤ IntKind.u64.wrap x.c ∧ IntKind.u64.wrap x.c < 18446744073709551616 := by rw [hwc]; omega
      have nk : x.k.length ≤ 65535 := by omega
      have nv : x.v.length ≤ 65535 := by omega
      have np : (0 : Int) ≤ ((x.p.length : Nat) : Int) ∧ ((x.p.length : Nat) : Int) ≤ 255 := by omega
      have hnF := bytesK_succ false hkl
      rw [hxg] at hnF
      obtain ⟨X, hX⟩ : ∃ X, bytesK false L k = X := ⟨_, rfl⟩
      rw [hX] at hXl hnF
      have hhead : X ++ beb (IntKind.u64.wrap x.i).toNat 8 ++ beb (IntKind.u64.wrap x.c).toNat 8 ++ (beb x.k.length 2 ++ x.k) ++ (beb x.v.length 2 ++ x.v) ++ [UInt8.ofNat (((x.p.length : Nat) : Int)).toNat] = X ++ headL x := by
        rw [hwi, hwc, Int.toNat_natCast, ← beb_one]
        unfold headL
        simp only [List.append_assoc]
      have hhl := headL_len hxo
      rw [hX]
      (conv => whnf)
      (repeat (first | (refine Need.mk hix ?_; conv => whnf) | (refine ⟨_, hat, ?_⟩; conv => whnf) | (exact Out.same; conv => whnf) | (exact Out1.same; conv => whnf) | (refine QAnd.mk ?_ ?_; conv => whnf) | (apply QStepH.go; conv => whnf) | (refine Both.lit_true ?_; conv => whnf) | (refine Both.lit_false ?_; conv => whnf) | (apply QStep.go; conv => whnf) | (refine Need.au ?_; conv => whnf) | (refine ⟨_, rfl, ?_⟩; conv => whnf)))
      refine CallVC.auto numOk_k (Need.mk ni ⟨_, rfl, rfl, by omega, ?_⟩)
      (conv => whnf)
      (repeat (first | (exact Out.same; conv => whnf) | (exact Out1.same; conv => whnf) | (refine QAnd.mk ?_ ?_; conv => whnf) | (apply QStepH.go; conv => whnf) | (refine Both.lit_true ?_; conv => whnf) | (refine Both.lit_false ?_; conv => whnf) | (apply QStep.go; conv => whnf) | (refine Need.au ?_; conv => whnf) | (refine ⟨_, rfl, ?_⟩; conv => whnf)))
      refine CallVC.auto numOk_k (Need.mk nc ⟨_, rfl, rfl, by simp [beb_length]; omega, ?_⟩)
      (conv => whnf)
      (repeat (first | (exact Out.same; conv => whnf) | (exact Out1.same; conv => whnf) | (refine QAnd.mk ?_ ?_; conv => whnf) | (apply QStepH.go; conv => whnf) | (refine Both.lit_true ?_; conv => whnf) | (refine Both.lit_false ?_; conv => whnf) | (apply QStep.go; conv => whnf) | (refine Need.au ?_; conv => whnf) | (refine ⟨_, rfl, ?_⟩; conv => whnf)))
      refine CallVC.auto textOk_k (Need.mk nk ⟨_, rfl, rfl, by simp [beb_length]; omega, ?_⟩)
      (conv => whnf)
      (repeat (first | (exact Out.same; conv => whnf) | (exact Out1.same; conv => whnf) | (refine QAnd.mk ?_ ?_; conv => whnf) | (apply QStepH.go; conv => whnf) | (refine Both.lit_true ?_; conv => whnf) | (refine Both.lit_false ?_; conv => whnf) | (apply QStep.go; conv => whnf) | (refine Need.au ?_; conv => whnf) | (refine ⟨_, rfl, ?_⟩; conv => whnf)))
      refine CallVC.auto textOk_k (Need.mk nv ⟨_, rfl, rfl, by simp [beb_length]; omega, ?_⟩)
      (conv => whnf)
      (repeat (first | (exact Out.same; conv => whnf) | (exact Out1.same; conv => whnf) | (refine QAnd.mk ?_ ?_; conv => whnf) | (apply QStepH.go; conv => whnf) | (refine Both.lit_true ?_; conv => whnf) | (refine Both.lit_false ?_; conv => whnf) | (apply QStep.go; conv => whnf) | (refine Need.au ?_; conv => whnf) | (refine ⟨_, rfl, ?_⟩; conv => whnf)))
      refine CallVC.auto byteOk_k (Need.mk np ⟨_, rfl, rfl, by simp [beb_length]; omega, ?_⟩)
      (conv => whnf)
      (repeat (first | (exact Out.same; conv => whnf) | (exact Out1.same; conv => whnf) | (refine QAnd.mk ?_ ?_; conv => whnf) | (apply QStepH.go; conv => whnf) | (refine Both.lit_true ?_; conv => whnf) | (refine Both.lit_false ?_; conv => whnf) | (apply QStep.go; conv => whnf) | (refine Need.au ?_; conv => whnf) | (refine ⟨_, rfl, ?_⟩; conv => whnf)))
      have hst3 : LObj.own 5 1 (X ++ beb (IntKind.u64.wrap x.i).toNat 8 ++ beb (IntKind.u64.wrap x.c).toNat 8 ++ (beb x.k.length 2 ++ x.k) ++ (beb x.v.length 2 ++ x.v) ++ [UInt8.ofNat (((x.p.length : Nat) : Int)).toNat]).length (bys (X ++ beb (IntKind.u64.wrap x.i).toNat 8 ++ beb (IntKind.u64.wrap x.c).toNat 8 ++ (beb x.k.length 2 ++ x.k) ++ (beb x.v.length 2 ++ x.v) ++ [UInt8.ofNat (((x.p.length : Nat) : Int)).toNat])) true = .own 5 1 (X ++ headL x ++ (x.p.take 0).flatten).length (bys (X ++ headL x ++ (x.p.take 0).flatten)) true := by rw [hhead]; simp
      refine loop_rule (fun j : Nat => ⟨[.any, .ptr 0 0, .any, .any, .ptr 1 0, .any, .any, .any, .any, .any, .any, .any, .any, .any, .any, .any, .any, .any, .any, .any, .any, .any, .any, .any, .any, .any, .any, .any, .sl 5 L.length (flL L) f, .int .i64 ((L.length : Nat) : Int), .int .i64 (k : Int), .any, .any, .any, .any, .any, .any, .any, .any, .any, .any, .any, .any, .any, .any, .any, .any, .any, .any, .any, .any, .any, .any, .any, .any, .sl 1 x.p.length (strs x.p) false, .int .i64 ((x.p.length : Nat) : Int), .int .i64 (j : Int), .any, .any, .any, .any, .any, .any, .any, .any, .any, .any], [.cells [.bool false, .sl 5 L.length (flL L) f] 42, .cells [.int .i64 0, .opt 1 1, .own 2] 74, .own 5 1 (X ++ headL x ++ (x.p.take j).flatten).length (bys (X ++ headL x ++ (x.p.take j).flatten)) true]⟩) (fun j => j ≤ x.p.length) (fun j => x.p.length - j) 0 (Nat.zero_le _) (Weak.auto ?_) ?_
      · (repeat' ((conv => whnf); first | exact True.intro | (refine And.intro ?_ ?_)))
        all_goals first | rfl | exact .eq rfl | exact .eq hst3 | exact hst3
      intro j hj
      have hfl : ((x.p.take j).flatten).length = 32 * j := by
        rw [flat32 (fun s hs => hxo.d s (List.mem_of_mem_take hs)), List.length_take, Nat.min_eq_left hj]
      (refine sx_sound Γok _ ?_; conv => whnf)
      (repeat (first | (exact Out.same; conv => whnf) | (exact Out1.same; conv => whnf) | (refine QAnd.mk ?_ ?_; conv => whnf) | (apply QStepH.go; conv => whnf) | (refine Both.lit_true ?_; conv => whnf) | (refine Both.lit_false ?_; conv => whnf) | (apply QStep.go; conv => whnf) | (refine Need.au ?_; conv => whnf) | (refine ⟨_, rfl, ?_⟩; conv => whnf)))
      refine Both.dec (fun hjl => ?_) (fun hjg => ?_)
      · have hjn : j < x.p.length := by omega
        have hat2 := strs_at x.p hjn
        have hj1 : IntKind.i64.wrap ((j : Int) + 1) = ((j + 1 : Nat) : Int) := by rw [wrap_i64 (by omega) (by omega)]; rfl
        have hgd : x.p.getD j [] = x.p[j] := by rw [List.getD_eq_getElem?_getD, List.getElem?_eq_getElem hjn]; rfl
        have hdl : (x.p.getD j []).length = 32 := by rw [hgd]; exact hxo.d _ (List.getElem_mem hjn)
        have nd : (x.p.getD j []).length < 10000000 := by omega
        have hnext : X ++ headL x ++ (x.p.take j).flatten ++ x.p.getD j [] = X ++ headL x ++ (x.p.take (j + 1)).flatten := by
          rw [List.take_succ_eq_append_getElem hjn, List.flatten_append, hgd]
          simp
        have hst4 : LObj.own 5 1 (X ++ headL x ++ (x.p.take j).flatten ++ x.p.getD j []).length (bys (X ++ headL x ++ (x.p.take j).flatten ++ x.p.getD j [])) true = .own 5 1 (X ++ headL x ++ (x.p.take (j + 1)).flatten).length (bys (X ++ headL x ++ (x.p.take (j + 1)).flatten)) true := by rw [hnext]
        (conv => whnf)
        (repeat (first | (refine ⟨_, hat2, ?_⟩; conv => whnf) | (exact Out.same; conv => whnf) | (exact Out1.same; conv => whnf) | (refine QAnd.mk ?_ ?_; conv => whnf) | (apply QStepH.go; conv => whnf) | (refine Both.lit_true ?_; conv => whnf) | (refine Both.lit_false ?_; conv => whnf) | (apply QStep.go; conv => whnf) | (refine Need.au ?_; conv => whnf) | (refine ⟨_, rfl, ?_⟩; conv => whnf)))
        refine CallVC.auto rawOk_k (Need.mk nd ⟨_, rfl, rfl, by rw [List.length_append, List.length_append, hfl]; omega, ?_⟩)
        (conv => whnf)
        (repeat (first | (exact Out.same; conv => whnf) | (exact Out1.same; conv => whnf) | (refine QAnd.mk ?_ ?_; conv => whnf) | (apply QStepH.go; conv => whnf) | (refine Both.lit_true ?_; conv => whnf) | (refine Both.lit_false ?_; conv => whnf) | (apply QStep.go; conv => whnf) | (refine Need.au ?_; conv => whnf) | (refine ⟨_, rfl, ?_⟩; conv => whnf)))
        refine ⟨j + 1, by omega, by omega, Weak.auto ?_⟩
        (repeat' ((conv => whnf); first | exact True.intro | (refine And.intro ?_ ?_)))
        all_goals first | rfl | exact .eq rfl | exact congrArg (SV.int .i64) hj1 | exact hst4 | exact .eq hst4
      have hjn : j = x.p.length := by omega
      subst hjn
      have hst5 : LObj.own 5 1 (X ++ headL x ++ (x.p.take x.p.length).flatten).length (bys (X ++ headL x ++ (x.p.take x.p.length).flatten)) true = .own 5 1 (bytesK false L (k + 1)).length (bys (bytesK false L (k + 1))) true := by
        rw [hnF, List.take_length, List.append_assoc]
        rfl
      (conv => whnf)
      (repeat (first | (exact Out.same; conv => whnf) | (exact Out1.same; conv => whnf) | (refine QAnd.mk ?_ ?_; conv => whnf) | (apply QStepH.go; conv => whnf) | (refine Both.lit_true ?_; conv => whnf) | (refine Both.lit_false ?_; conv => whnf) | (apply QStep.go; conv => whnf) | (refine Need.au ?_; conv => whnf) | (refine ⟨_, rfl, ?_⟩; conv => whnf)))
      refine ⟨k + 1, by omega, by omega, Weak.auto ?_⟩
      (repeat' ((conv => whnf); first | exact True.intro | (refine And.intro ?_ ?_)))
      all_goals first | rfl | exact .eq rfl | exact congrArg (SV.int .i64) hk1 | exact hst5 | exact .eq hst5
    have hkn : k = L.length := by omega
    subst hkn
    rw [bytesK_all] at hXl ⊢
    (conv => whnf)
    (repeat (first | (exact Out.same; conv => whnf) | (exact Out1.same; conv => whnf) | (refine QAnd.mk ?_ ?_; conv => whnf) | (apply QStepH.go; conv => whnf) | (refine Both.lit_true ?_; conv => whnf) | (refine Both.lit_false ?_; conv => whnf) | (apply QStep.go; conv => whnf) | (refine Need.au ?_; conv => whnf) | (refine ⟨_, rfl, ?_⟩; conv => whnf)))
    refine CallVC.auto bytes9A_k ⟨_, rfl, rfl, by omega, fun s hs => ?_⟩
    have hs : s = bytesX false L := hs
    subst hs
    (conv => whnf)
    (repeat (first | (exact Out.same; conv => whnf) | (exact Out1.same; conv => whnf) | (refine QAnd.mk ?_ ?_; conv => whnf) | (apply QStepH.go; conv => whnf) | (refine Both.lit_true ?_; conv => whnf) | (refine Both.lit_false ?_; conv => whnf) | (apply QStep.go; conv => whnf) | (refine Need.au ?_; conv => whnf) | (refine ⟨_, rfl, ?_⟩; conv => whnf)))
    exact ⟨_, _, WeakV.drop rfl, h⟩
theorem pbytes_k : Contract Tryz.prog [] 16 pbytesS := ⟨⟨⟨_, rfl, rfl, rfl⟩⟩, pbytes_c⟩
end Go.LX
end
section
set_option maxRecDepth 100000
set_option maxHeartbeats 2000000
set_option autoImplicit false
set_option linter.unusedVariables false
set_option linter.unusedSimpArgs false
namespace Go.LX
open Go.Proofs

def rtext9S : Spec := fun args H Q => match args, H with
  | [.str s], [] => s.length ≤ 65535 ∧ Q (.str (beb s.length 2 ++ s)) []
  | _, _ => False
theorem rtext9_c : Meets Tryz.prog [] 82 rtext9S := by
  refine meets_of Γok Tryz.func82 rfl ?_
  intro args H Q h
  unfold rtext9S at h
  split at h
  case h_2 => exact h.elim
  rename_i s
  obtain ⟨hs, h⟩ := h
  have hw : IntKind.u64.wrap ((s.length : Nat) : Int) = ((s.length : Nat) : Int) := wrap_u64 (by omega) (by omega)
  have hc : (beb s.length 2).length + s.length ≤ 9223372036854775807 := by rw [beb_length]; omega
  (refine sx_sound Γok _ ?_; conv => whnf)
  (repeat (first | (refine CallVC.auto rb_k ⟨s.length, 2, hw, by omega, rfl, by omega, ?_⟩; conv => whnf) | (refine Need.mk hc ?_; conv => whnf) | (exact Out.same; conv => whnf) | (exact Out1.same; conv => whnf) | (refine QAnd.mk ?_ ?_; conv => whnf) | (apply QStepH.go; conv => whnf) | (refine Both.lit_true ?_; conv => whnf) | (refine Both.lit_false ?_; conv => whnf) | (apply QStep.go; conv => whnf) | (refine Need.au ?_; conv => whnf) | (refine ⟨_, rfl, ?_⟩; conv => whnf)))
  exact ⟨_, _, WeakV.drop rfl, h⟩
theorem rtext9_k : Contract Tryz.prog [] 82 rtext9S := ⟨⟨⟨_, rfl, rfl, rfl⟩⟩, rtext9_c⟩
theorem bytesK_lenK (a : Bool) {L : List Lf} {k : Nat} (h : ∀ j, j < k → okLf (L.getD j lf0)) (hk : k ≤ L.length) (h2 : L.length ≤ 2) : (bytesK a L k).length ≤ 2000 := by
  have := puts_len (L := L.take k) (fun x hx => by
    obtain ⟨t, ht, rfl⟩ := List.mem_iff_getElem.1 hx
    rw [List.getElem_take]
    rw [List.length_take] at ht
    have := h t (by omega)
    rw [List.getD_eq_getElem?_getD, List.getElem?_eq_getElem (by omega)] at this
    exact this)
  rw [List.length_take] at this
  unfold bytesK
  rw [List.length_append, List.length_append, beb_length]
  show 1 + 1 + _ ≤ _
  omega
open Classical in
theorem rbytes9_c : Meets Tryz.prog [] 50 pbytesS := by
  refine meets_of Γok Tryz.func50 rfl ?_
  intro args H Q h
  unfold pbytesS at h
  split at h
  case h_2 => exact h.elim
  rename_i a n cs f
  obtain ⟨L, rfl, rfl, hL, hp, h⟩ := h
  by_cases hbig : 2 < L.length
  · have h := h _ _ (show _ = bytesV a L from (if_neg (fun q : fitsX L => by have := q.1; omega)).symm)
    have c1 : decide ((2 : Int) < ((L.length : Nat) : Int)) = true := decide_eq_true (by omega)
    (refine sx_sound Γok _ ?_; conv => whnf)
    (repeat (first | (refine Both.of_true c1 ?_; conv => whnf) | (exact Out.same; conv => whnf) | (exact Out1.same; conv => whnf) | (refine QAnd.mk ?_ ?_; conv => whnf) | (apply QStepH.go; conv => whnf) | (refine Both.lit_true ?_; conv => whnf) | (refine Both.lit_false ?_; conv => whnf) | (apply QStep.go; conv => whnf) | (refine Need.au ?_; conv => whnf) | (refine ⟨_, rfl, ?_⟩; conv => whnf)))
    exact ⟨_, _, WeakV.drop rfl, h⟩
  have c1 : decide ((2 : Int) < ((L.length : Nat) : Int)) = false := decide_eq_false (by omega)
  have hbad : (∃ x ∈ L, ¬ okLf x) → Q (.tuple [.str [], .int .i64 1]) [] := fun ⟨x, hx, hn⟩ => h _ _ (show _ = bytesV a L from (if_neg (fun q : fitsX L => hn (q.2 x hx))).symm)
  have hgood : (∀ x ∈ L, okLf x) → Q (.tuple [.str (bytesX a L), .int .i64 0]) [] := fun q => h _ _ (show _ = bytesV a L from (if_pos (⟨by omega, q⟩ : fitsX L)).symm)
  clear h
  have hwl : IntKind.u64.wrap ((L.length : Nat) : Int) = ((L.length : Nat) : Int) := wrap_u64 (by omega) (by omega)
  have hl64 : L.length < 18446744073709551616 := by omega
  have h18 : (1 : Nat) ≤ 8 := by omega
  have h88 : (8 : Nat) ≤ 8 := by omega
  have hpg : ∀ k, k < L.length → (L.getD k lf0).p.length ≤ 9223372036854775807 := fun k hk => by
    rw [List.getD_eq_getElem?_getD, List.getElem?_eq_getElem hk]
    exact hp _ (List.getElem_mem hk)
  cases a with
  | true =>
    have ccat : (⟨#[2]⟩ : ByteArray).data.toList.length + (beb L.length 1).length ≤ 9223372036854775807 := by
      rw [beb_length]
      show 1 + 1 ≤ _
      omega
    have hstart : (⟨#[2]⟩ : ByteArray).data.toList ++ beb L.length 1 = bytesK true L 0 := by
      unfold bytesK
      rw [List.take_zero]
      simp
    (refine sx_sound Γok _ ?_; conv => whnf)
    (repeat (first | (refine Both.of_false c1 ?_; conv => whnf) | (refine CallVC.auto rb_k ⟨L.length, 1, hwl, hl64, rfl, h18, ?_⟩; conv => whnf) | (refine Need.mk ccat ?_; conv => whnf) | (exact Out.same; conv => whnf) | (exact Out1.same; conv => whnf) | (refine QAnd.mk ?_ ?_; conv => whnf) | (apply QStepH.go; conv => whnf) | (refine Both.lit_true ?_; conv => whnf) | (refine Both.lit_false ?_; conv => whnf) | (apply QStep.go; conv => whnf) | (refine Need.au ?_; conv => whnf) | (refine ⟨_, rfl, ?_⟩; conv => whnf)))
    refine loop_rule (fun k : Nat => ⟨[.any, .ptr 0 0, .any, .any, .str (bytesK true L k), .int .i64 (k : Int), .any, .any, .any, .any, .any, .any, .any, .any, .any, .any, .any, .any, .any, .any, .any, .any, .any, .any, .any, .any, .any, .any, .any, .any, .any, .any, .any, .any, .any, .any, .any, .any, .any, .any, .any, .any, .any, .any, .any, .any, .any, .any, .any, .any, .any, .any, .any, .any, .any, .any, .any, .any, .any, .any, .any, .any, .any, .any, .any, .any, .any, .any, .any, .any, .any, .any, .any, .any, .any, .any, .any, .any, .any, .any, .any, .any, .any, .any, .any, .any, .any, .any, .any, .any, .any, .any, .any, .any, .any, .any, .any, .any, .any, .any, .any, .any, .any, .any, .any, .any, .any, .any, .any, .any, .any, .any, .any, .any, .any, .any, .any, .any, .any, .any], [.cells [.bool true, .sl 5 L.length (flL L) f] 42]⟩) (fun k => k ≤ L.length ∧ ∀ j, j < k → okLf (L.getD j lf0)) (fun k => L.length - k) 0 ⟨Nat.zero_le _, fun j hj => absurd hj (by omega)⟩ (Weak.auto ?_) ?_
    · (repeat' ((conv => whnf); first | exact True.intro | (refine And.intro ?_ ?_)))
      all_goals first | rfl | exact .eq rfl | exact congrArg SV.str hstart
    rintro k ⟨hk, hall⟩
    have hXl := bytesK_lenK true hall hk (by omega)
    (refine sx_sound Γok _ ?_; conv => whnf)
    (repeat (first | (exact Out.same; conv => whnf) | (exact Out1.same; conv => whnf) | (refine QAnd.mk ?_ ?_; conv => whnf) | (apply QStepH.go; conv => whnf) | (refine Both.lit_true ?_; conv => whnf) | (refine Both.lit_false ?_; conv => whnf) | (apply QStep.go; conv => whnf) | (refine Need.au ?_; conv => whnf) | (refine ⟨_, rfl, ?_⟩; conv => whnf)))
    refine Both.dec (fun hlt => ?_) (fun hge => ?_)
    · have hkl : k < L.length := by omega
      have hat := flL_at L hkl lf0
      have hxp := hpg k hkl
      obtain ⟨x, hx⟩ : ∃ x, L.getD k lf0 = x := ⟨_, rfl⟩
      have hxg : L[k] = x := by rw [← hx, List.getD_eq_getElem?_getD, List.getElem?_eq_getElem hkl]; rfl
      have hxm : x ∈ L := by rw [← hxg]; exact List.getElem_mem hkl
      rw [hx] at hat hxp
      have hat : ((flL L).drop (((k : Nat) : Int).toNat * 5)).take 5 = [CV.int .i64 x.i, .int .i64 x.c, .str x.k, .str x.v, .sl 1 x.p.length (strs x.p) false] := hat
      have hix : ti50.size = 5 ∧ (0 : Int) ≤ (k : Int) ∧ (k : Int) < ((L.length : Nat) : Int) := ⟨rfl, by omega, by omega⟩
      have hk1 : IntKind.i64.wrap ((k : Int) + 1) = ((k + 1 : Nat) : Int) := by rw [wrap_i64 (by omega) (by omega)]; rfl
      have hbx : ¬ okLf x → Q (.tuple [.str [], .int .i64 1]) [] := fun q => hbad ⟨x, hxm, q⟩
      (conv => whnf)
      (repeat (first | (refine Need.mk hix ?_; conv => whnf) | (refine ⟨_, hat, ?_⟩; conv => whnf) | (exact Out.same; conv => whnf) | (exact Out1.same; conv => whnf) | (refine QAnd.mk ?_ ?_; conv => whnf) | (apply QStepH.go; conv => whnf) | (refine Both.lit_true ?_; conv => whnf) | (refine Both.lit_false ?_; conv => whnf) | (apply QStep.go; conv => whnf) | (refine Need.au ?_; conv => whnf) | (refine ⟨_, rfl, ?_⟩; conv => whnf)))
      refine Both.dec (fun b1 => ?_) (fun b1 => ?_)
      · have h := hbx (fun q => by have := q.i.1; omega)
        (conv => whnf)
        (repeat (first | (exact Out.same; conv => whnf) | (exact Out1.same; conv => whnf) | (refine QAnd.mk ?_ ?_; conv => whnf) | (apply QStepH.go; conv => whnf) | (refine Both.lit_true ?_; conv => whnf) | (refine Both.lit_false ?_; conv => whnf) | (apply QStep.go; conv => whnf) | (refine Need.au ?_; conv => whnf) | (refine ⟨_, rfl, ?_⟩; conv => whnf)))
        exact ⟨_, _, WeakV.drop rfl, h⟩
      (conv => whnf)
      (repeat (first | (exact Out.same; conv => whnf) | (exact Out1.same; conv => whnf) | (refine QAnd.mk ?_ ?_; conv => whnf) | (apply QStepH.go; conv => whnf) | (refine Both.lit_true ?_; conv => whnf) | (refine Both.lit_false ?_; conv => whnf) | (apply QStep.go; conv => whnf) | (refine Need.au ?_; conv => whnf) | (refine ⟨_, rfl, ?_⟩; conv => whnf)))
      refine Both.dec (fun b2 => ?_) (fun b2 => ?_)
      · have h := hbx (fun q => by have := q.i.2; omega)
        (conv => whnf)
        (repeat (first | (exact Out.same; conv => whnf) | (exact Out1.same; conv => whnf) | (refine QAnd.mk ?_ ?_; conv => whnf) | (apply QStepH.go; conv => whnf) | (refine Both.lit_true ?_; conv => whnf) | (refine Both.lit_false ?_; conv => whnf) | (apply QStep.go; conv => whnf) | (refine Need.au ?_; conv => whnf) | (refine ⟨_, rfl, ?_⟩; conv => whnf)))
        exact ⟨_, _, WeakV.drop rfl, h⟩
      (conv => whnf)
      (repeat (first | (exact Out.same; conv => whnf) | (exact Out1.same; conv => whnf) | (refine QAnd.mk ?_ ?_; conv => whnf) | (apply QStepH.go; conv => whnf) | (refine Both.lit_true ?_; conv => whnf) | (refine Both.lit_false ?_; conv => whnf) | (apply QStep.go; conv => whnf) | (refine Need.au ?_; conv => whnf) | (refine ⟨_, rfl, ?_⟩; conv => whnf)))
      refine Both.dec (fun b3 => ?_) (fun b3 => ?_)
      · have h := hbx (fun q => by have := q.c.1; omega)
        (conv => whnf)
        (repeat (first | (exact Out.same; conv => whnf) | (exact Out1.same; conv => whnf) | (refine QAnd.mk ?_ ?_; conv => whnf) | (apply QStepH.go; conv => whnf) | (refine Both.lit_true ?_; conv => whnf) | (refine Both.lit_false ?_; conv => whnf) | (apply QStep.go; conv => whnf) | (refine Need.au ?_; conv => whnf) | (refine ⟨_, rfl, ?_⟩; conv => whnf)))
        exact ⟨_, _, WeakV.drop rfl, h⟩
      (conv => whnf)
      (repeat (first | (exact Out.same; conv => whnf) | (exact Out1.same; conv => whnf) | (refine QAnd.mk ?_ ?_; conv => whnf) | (apply QStepH.go; conv => whnf) | (refine Both.lit_true ?_; conv => whnf) | (refine Both.lit_false ?_; conv => whnf) | (apply QStep.go; conv => whnf) | (refine Need.au ?_; conv => whnf) | (refine ⟨_, rfl, ?_⟩; conv => whnf)))
      refine Both.dec (fun b4 => ?_) (fun b4 => ?_)
      · have h := hbx (fun q => by have := q.c.2; omega)
        (conv => whnf)
        (repeat (first | (exact Out.same; conv => whnf) | (exact Out1.same; conv => whnf) | (refine QAnd.mk ?_ ?_; conv => whnf) | (apply QStepH.go; conv => whnf) | (refine Both.lit_true ?_; conv => whnf) | (refine Both.lit_false ?_; conv => whnf) | (apply QStep.go; conv => whnf) | (refine Need.au ?_; conv => whnf) | (refine ⟨_, rfl, ?_⟩; conv => whnf)))
        exact ⟨_, _, WeakV.drop rfl, h⟩
      (conv => whnf)
      (repeat (first | (exact Out.same; conv => whnf) | (exact Out1.same; conv => whnf) | (refine QAnd.mk ?_ ?_; conv => whnf) | (apply QStepH.go; conv => whnf) | (refine Both.lit_true ?_; conv => whnf) | (refine Both.lit_false ?_; conv => whnf) | (apply QStep.go; conv => whnf) | (refine Need.au ?_; conv => whnf) | (refine ⟨_, rfl, ?_⟩; conv => whnf)))
      refine Both.dec (fun b5 => ?_) (fun b5 => ?_)
      · have h := hbx (fun q => by have := q.k; omega)
        (conv => whnf)
        (repeat (first | (exact Out.same; conv => whnf) | (exact Out1.same; conv => whnf) | (refine QAnd.mk ?_ ?_; conv => whnf) | (apply QStepH.go; conv => whnf) | (refine Both.lit_true ?_; conv => whnf) | (refine Both.lit_false ?_; conv => whnf) | (apply QStep.go; conv => whnf) | (refine Need.au ?_; conv => whnf) | (refine ⟨_, rfl, ?_⟩; conv => whnf)))
        exact ⟨_, _, WeakV.drop rfl, h⟩
      (conv => whnf)
      (repeat (first | (exact Out.same; conv => whnf) | (exact Out1.same; conv => whnf) | (refine QAnd.mk ?_ ?_; conv => whnf) | (apply QStepH.go; conv => whnf) | (refine Both.lit_true ?_; conv => whnf) | (refine Both.lit_false ?_; conv => whnf) | (apply QStep.go; conv => whnf) | (refine Need.au ?_; conv => whnf) | (refine ⟨_, rfl, ?_⟩; conv => whnf)))
      refine Both.dec (fun b6 => ?_) (fun b6 => ?_)
      · have h := hbx (fun q => by have := q.v; omega)
        (conv => whnf)
        (repeat (first | (exact Out.same; conv => whnf) | (exact Out1.same; conv => whnf) | (refine QAnd.mk ?_ ?_; conv => whnf) | (apply QStepH.go; conv => whnf) | (refine Both.lit_true ?_; conv => whnf) | (refine Both.lit_false ?_; conv => whnf) | (apply QStep.go; conv => whnf) | (refine Need.au ?_; conv => whnf) | (refine ⟨_, rfl, ?_⟩; conv => whnf)))
        exact ⟨_, _, WeakV.drop rfl, h⟩
      (conv => whnf)
      (repeat (first | (exact Out.same; conv => whnf) | (exact Out1.same; conv => whnf) | (refine QAnd.mk ?_ ?_; conv => whnf) | (apply QStepH.go; conv => whnf) | (refine Both.lit_true ?_; conv => whnf) | (refine Both.lit_false ?_; conv => whnf) | (apply QStep.go; conv => whnf) | (refine Need.au ?_; conv => whnf) | (refine ⟨_, rfl, ?_⟩; conv => whnf)))
      refine Both.dec (fun b7 => ?_) (fun b7 => ?_)
      · have h := hbx (fun q => by have := q.p; omega)
        (conv => whnf)
        (repeat (first | (exact Out.same; conv => whnf) | (exact Out1.same; conv => whnf) | (refine QAnd.mk ?_ ?_; conv => whnf) | (apply QStepH.go; conv => whnf) | (refine Both.lit_true ?_; conv => whnf) | (refine Both.lit_false ?_; conv => whnf) | (apply QStep.go; conv => whnf) | (refine Need.au ?_; conv => whnf) | (refine ⟨_, rfl, ?_⟩; conv => whnf)))
        exact ⟨_, _, WeakV.drop rfl, h⟩
      (conv => whnf)
      (repeat (first | (exact Out.same; conv => whnf) | (exact Out1.same; conv => whnf) | (refine QAnd.mk ?_ ?_; conv => whnf) | (apply QStepH.go; conv => whnf) | (refine Both.lit_true ?_; conv => whnf) | (refine Both.lit_false ?_; conv => whnf) | (apply QStep.go; conv => whnf) | (refine Need.au ?_; conv => whnf) | (refine ⟨_, rfl, ?_⟩; conv => whnf)))
      have hwi : IntKind.u64.wrap x.i = ((x.i.toNat : Nat) : Int) := by rw [wrap_u64 (by omega) (by omega)]; omega
      have hwc : IntKind.u64.wrap x.c = ((x.c.toNat : Nat) : Int) := by rw [wrap_u64 (by omega) (by omega)]; omega
      have hwp : IntKind.u64.wrap ((x.p.length : Nat) : Int) = ((x.p.length : Nat) : Int) := wrap_u64 (by omega) (by omega)
      have li : x.i.toNat < 18446744073709551616 := by omega
      have lc : x.c.toNat < 18446744073709551616 := by omega
      have lp : x.p.length < 18446744073709551616 := by omega
      have lk : x.k.length ≤ 65535 := by omega
      have lv : x.v.length ≤ 65535 := by omega
      obtain ⟨X, hX⟩ : ∃ X, bytesK true L k = X := ⟨_, rfl⟩
      have hnF := bytesK_succ true hkl
      rw [hxg, hX] at hnF
      rw [hX] at hXl ⊢
      have d1 : X.length + (beb x.i.toNat 8).length ≤ 9223372036854775807 := by rw [beb_length]; omega
      have d2 : (X ++ beb x.i.toNat 8).length + (beb x.c.toNat 8).length ≤ 9223372036854775807 := by simp only [List.length_append, beb_length]; omega
      have d3 : (X ++ beb x.i.toNat 8 ++ beb x.c.toNat 8).length + (beb x.k.length 2 ++ x.k).length ≤ 9223372036854775807 := by simp only [List.length_append, beb_length]; omega
      have d4 : (X ++ beb x.i.toNat 8 ++ beb x.c.toNat 8 ++ (beb x.k.length 2 ++ x.k)).length + (beb x.v.length 2 ++ x.v).length ≤ 9223372036854775807 := by simp only [List.length_append, beb_length]; omega
      have d5 : (X ++ beb x.i.toNat 8 ++ beb x.c.toNat 8 ++ (beb x.k.length 2 ++ x.k) ++ (beb x.v.length 2 ++ x.v)).length + (beb x.p.length 1).length ≤ 9223372036854775807 := by simp only [List.length_append, beb_length]; omega
      have hhead : X ++ beb x.i.toNat 8 ++ beb x.c.toNat 8 ++ (beb x.k.length 2 ++ x.k) ++ (beb x.v.length 2 ++ x.v) ++ beb x.p.length 1 = X ++ headL x ++ (x.p.take 0).flatten := by
        unfold headL
        simp only [List.append_assoc, List.take_zero, List.flatten_nil, List.append_nil]
      have hhl : (headL x).length ≤ 101 := by
        unfold headL
        simp only [List.length_append, beb_length]
        omega
      (refine DrawVC.any Γok (by kernel_rfl) (by kernel_rfl) (by kernel_rfl) (by rfl) ?_; conv => whnf)
      (repeat (first | (refine CallVC.auto rb_k ⟨x.i.toNat, 8, hwi, li, rfl, h88, ?_⟩; conv => whnf) | (refine CallVC.auto rb_k ⟨x.c.toNat, 8, hwc, lc, rfl, h88, ?_⟩; conv => whnf) | (refine CallVC.auto rtext9_k ⟨lk, ?_⟩; conv => whnf) | (refine CallVC.auto rtext9_k ⟨lv, ?_⟩; conv => whnf) | (refine CallVC.auto rb_k ⟨x.p.length, 1, hwp, lp, rfl, h18, ?_⟩; conv => whnf) | (refine Need.mk d1 ?_; conv => whnf) | (refine Need.mk d2 ?_; conv => whnf) | (refine Need.mk d3 ?_; conv => whnf) | (refine Need.mk d4 ?_; conv => whnf) | (refine Need.mk d5 ?_; conv => whnf) | (exact Out.same; conv => whnf) | (exact Out1.same; conv => whnf) | (refine QAnd.mk ?_ ?_; conv => whnf) | (apply QStepH.go; conv => whnf) | (refine Both.lit_true ?_; conv => whnf) | (refine Both.lit_false ?_; conv => whnf) | (apply QStep.go; conv => whnf) | (refine Need.au ?_; conv => whnf) | (refine ⟨_, rfl, ?_⟩; conv => whnf)))
      refine loop_rule (fun j : Nat => ⟨[.any, .ptr 0 0, .any, .any, .str (X ++ headL x ++ (x.p.take j).flatten), .int .i64 (k : Int), .ptr 1 0, .int .i64 (j : Int), .any, .any, .any, .any, .any, .any, .any, .any, .any, .any, .any, .any, .any, .any, .any, .any, .any, .any, .any, .any, .any, .any, .any, .any, .any, .any, .any, .any, .any, .any, .any, .any, .any, .any, .any, .any, .any, .any, .any, .any, .any, .any, .any, .any, .any, .any, .any, .any, .any, .any, .any, .any, .any, .any, .any, .any, .any, .any, .any, .any, .any, .any, .any, .any, .any, .any, .any, .any, .any, .any, .any, .any, .any, .any, .any, .any, .any, .any, .any, .any, .any, .any, .any, .any, .any, .any, .any, .any, .any, .any, .any, .any, .any, .any, .any, .any, .any, .any, .any, .any, .any, .any, .any, .any, .any, .any, .any, .any, .any, .any, .any, .any], [.cells [.bool true, .sl 5 L.length (flL L) f] 42, .cells [.int .i64 x.i, .int .i64 x.c, .str x.k, .str x.v, .sl 1 x.p.length (strs x.p) false] 50]⟩) (fun j => j ≤ x.p.length ∧ ∀ t, t < j → (x.p.getD t []).length = 32) (fun j => x.p.length - j) 0 ⟨Nat.zero_le _, fun t ht => absurd ht (by omega)⟩ (Weak.auto ?_) ?_
      · (repeat' ((conv => whnf); first | exact True.intro | (refine And.intro ?_ ?_)))
        all_goals first | rfl | exact .eq rfl | exact congrArg SV.str hhead
      rintro j ⟨hj, hall2⟩
      have hfl : ((x.p.take j).flatten).length = 32 * j := by
        rw [flat32 (fun s hs => by
          obtain ⟨t, ht, rfl⟩ := List.mem_iff_getElem.1 hs
          rw [List.getElem_take]
          have := hall2 t (by rw [List.length_take] at ht; omega)
          rw [List.getD_eq_getElem?_getD, List.getElem?_eq_getElem (by rw [List.length_take] at ht; omega)] at this
          exact this), List.length_take, Nat.min_eq_left hj]
      (refine sx_sound Γok _ ?_; conv => whnf)
      (repeat (first | (exact Out.same; conv => whnf) | (exact Out1.same; conv => whnf) | (refine QAnd.mk ?_ ?_; conv => whnf) | (apply QStepH.go; conv => whnf) | (refine Both.lit_true ?_; conv => whnf) | (refine Both.lit_false ?_; conv => whnf) | (apply QStep.go; conv => whnf) | (refine Need.au ?_; conv => whnf) | (refine ⟨_, rfl, ?_⟩; conv => whnf)))
      refine Both.dec (fun hjl => ?_) (fun hjg => ?_)
      · have hjn : j < x.p.length := by omega
        have hat2 := strs_at x.p hjn
        have hj1 : IntKind.i64.wrap ((j : Int) + 1) = ((j + 1 : Nat) : Int) := by rw [wrap_i64 (by omega) (by omega)]; rfl
        have hgd : x.p.getD j [] = x.p[j] := by rw [List.getD_eq_getElem?_getD, List.getElem?_eq_getElem hjn]; rfl
        have hnext : X ++ headL x ++ (x.p.take j).flatten ++ x.p.getD j [] = X ++ headL x ++ (x.p.take (j + 1)).flatten := by
          rw [List.take_succ_eq_append_getElem hjn, List.flatten_append, hgd]
          simp
        by_cases hd : (x.p.getD j []).length = 32
        · have cd : (!decide ((((x.p.getD j []).length : Nat) : Int) = 32)) = false := by rw [hd]; rfl
          have dj : (X ++ headL x ++ (x.p.take j).flatten).length + (x.p.getD j []).length ≤ 9223372036854775807 := by rw [List.length_append, List.length_append, hfl]; omega
          (conv => whnf)
          (repeat (first | (refine ⟨_, hat2, ?_⟩; conv => whnf) | (refine Both.of_false cd ?_; conv => whnf) | (refine Need.mk dj ?_; conv => whnf) | (exact Out.same; conv => whnf) | (exact Out1.same; conv => whnf) | (refine QAnd.mk ?_ ?_; conv => whnf) | (apply QStepH.go; conv => whnf) | (refine Both.lit_true ?_; conv => whnf) | (refine Both.lit_false ?_; conv => whnf) | (apply QStep.go; conv => whnf) | (refine Need.au ?_; conv => whnf) | (refine ⟨_, rfl, ?_⟩; conv => whnf)))
          refine ⟨j + 1, ⟨hjn, getD_32 x.p hjn hd hall2⟩, by omega, Weak.auto ?_⟩
          (repeat' ((conv => whnf); first | exact True.intro | (refine And.intro ?_ ?_)))
          all_goals first | rfl | exact .eq rfl | exact congrArg (SV.int .i64) hj1 | exact congrArg SV.str hnext
        · have cd : (!decide ((((x.p.getD j []).length : Nat) : Int) = 32)) = true := by rw [decide_eq_false (by omega)]; rfl
          have h := hbx (fun q => hd (by rw [hgd]; exact q.d _ (List.getElem_mem hjn)))
          (conv => whnf)
          (repeat (first | (refine ⟨_, hat2, ?_⟩; conv => whnf) | (refine Both.of_true cd ?_; conv => whnf) | (exact Out.same; conv => whnf) | (exact Out1.same; conv => whnf) | (refine QAnd.mk ?_ ?_; conv => whnf) | (apply QStepH.go; conv => whnf) | (refine Both.lit_true ?_; conv => whnf) | (refine Both.lit_false ?_; conv => whnf) | (apply QStep.go; conv => whnf) | (refine Need.au ?_; conv => whnf) | (refine ⟨_, rfl, ?_⟩; conv => whnf)))
          exact ⟨_, _, WeakV.drop rfl, h⟩
      have hjn : j = x.p.length := by omega
      subst hjn
      have hxo : okLf x := ⟨⟨by omega, by omega⟩, ⟨by omega, by omega⟩, by omega, by omega, by omega, fun s hs => by
        obtain ⟨t, ht, rfl⟩ := List.mem_iff_getElem.1 hs
        have := hall2 t ht
        rw [List.getD_eq_getElem?_getD, List.getElem?_eq_getElem ht] at this
        exact this⟩
      have hnx : X ++ headL x ++ (x.p.take x.p.length).flatten = bytesK true L (k + 1) := by
        rw [hnF, List.take_length, List.append_assoc]
        rfl
      have hall3 : ∀ t, t < k + 1 → okLf (L.getD t lf0) := fun t ht => by
        rcases Nat.lt_or_ge t k with q | q
        · exact hall t q
        · rw [show t = k by omega, hx]
          exact hxo
      (conv => whnf)
      (repeat (first | (exact Out.same; conv => whnf) | (exact Out1.same; conv => whnf) | (refine QAnd.mk ?_ ?_; conv => whnf) | (apply QStepH.go; conv => whnf) | (refine Both.lit_true ?_; conv => whnf) | (refine Both.lit_false ?_; conv => whnf) | (apply QStep.go; conv => whnf) | (refine Need.au ?_; conv => whnf) | (refine ⟨_, rfl, ?_⟩; conv => whnf)))
      refine ⟨k + 1, ⟨hkl, hall3⟩, by omega, Weak.auto ?_⟩
      (repeat' ((conv => whnf); first | exact True.intro | (refine And.intro ?_ ?_)))
      all_goals first | rfl | exact .eq rfl | exact congrArg (SV.int .i64) hk1 | exact congrArg SV.str hnx
    have hkn : k = L.length := by omega
    subst hkn
    have h := hgood (fun x hx => by
      obtain ⟨t, ht, rfl⟩ := List.mem_iff_getElem.1 hx
      have := hall t ht
      rw [List.getD_eq_getElem?_getD, List.getElem?_eq_getElem ht] at this
      exact this)
    rw [← bytesK_all] at h
    (conv => whnf)
    (repeat (first | (exact Out.same; conv => whnf) | (exact Out1.same; conv => whnf) | (refine QAnd.mk ?_ ?_; conv => whnf) | (apply QStepH.go; conv => whnf) | (refine Both.lit_true ?_; conv => whnf) | (refine Both.lit_false ?_; conv => whnf) | (apply QStep.go; conv => whnf) | (refine Need.au ?_; conv => whnf) | (refine ⟨_, rfl, ?_⟩; conv => whnf)))
    exact ⟨_, _, WeakV.drop rfl, h⟩
  | false =>
    have ccat : (⟨#[1]⟩ : ByteArray).data.toList.length + (beb L.length 1).length ≤ 9223372036854775807 := by
      rw [beb_length]
      show 1 + 1 ≤ _
      omega
    have hstart : (⟨#[1]⟩ : ByteArray).data.toList ++ beb L.length 1 = bytesK false L 0 := by
      unfold bytesK
      rw [List.take_zero]
      simp
    (refine sx_sound Γok _ ?_; conv => whnf)
    (repeat (first | (refine Both.of_false c1 ?_; conv => whnf) | (refine CallVC.auto rb_k ⟨L.length, 1, hwl, hl64, rfl, h18, ?_⟩; conv => whnf) | (refine Need.mk ccat ?_; conv => whnf) | (exact Out.same; conv => whnf) | (exact Out1.same; conv => whnf) | (refine QAnd.mk ?_ ?_; conv => whnf) | (apply QStepH.go; conv => whnf) | (refine Both.lit_true ?_; conv => whnf) | (refine Both.lit_false ?_; conv => whnf) | (apply QStep.go; conv => whnf) | (refine Need.au ?_; conv => whnf) | (refine ⟨_, rfl, ?_⟩; conv => whnf)))
    refine loop_rule (fun k : Nat => ⟨[.any, .ptr 0 0, .any, .any, .str (bytesK false L k), .int .i64 (k : Int), .any, .any, .any, .any, .any, .any, .any, .any, .any, .any, .any, .any, .any, .any, .any, .any, .any, .any, .any, .any, .any, .any, .any, .any, .any, .any, .any, .any, .any, .any, .any, .any, .any, .any, .any, .any, .any, .any, .any, .any, .any, .any, .any, .any, .any, .any, .any, .any, .any, .any, .any, .any, .any, .any, .any, .any, .any, .any, .any, .any, .any, .any, .any, .any, .any, .any, .any, .any, .any, .any, .any, .any, .any, .any, .any, .any, .any, .any, .any, .any, .any, .any, .any, .any, .any, .any, .any, .any, .any, .any, .any, .any, .any, .any, .any, .any, .any, .any, .any, .any, .any, .any, .any, .any, .any, .any, .any, .any, .any, .any, .any, .any, .any, .any], [.cells [.bool false, .sl 5 L.length (flL L) f] 42]⟩) (fun k => k ≤ L.length ∧ ∀ j, j < k → okLf (L.getD j lf0)) (fun k => L.length - k) 0 ⟨Nat.zero_le _, fun j hj => absurd hj (by omega)⟩ (Weak.auto ?_) ?_
    · (repeat' ((conv => whnf); first | exact True.intro | (refine And.intro ?_ ?_)))
      all_goals first | rfl | exact .eq rfl | exact congrArg SV.str hstart
    rintro k ⟨hk, hall⟩
    have hXl := bytesK_lenK false hall hk (by omega)
    (refine sx_sound Γok _ ?_; conv => whnf)
    (repeat (first | (exact Out.same; conv => whnf) | (exact Out1.same; conv => whnf) | (refine QAnd.mk ?_ ?_; conv => whnf) | (apply QStepH.go; conv => whnf) | (refine Both.lit_true ?_; conv => whnf) | (refine Both.lit_false ?_; conv => whnf) | (apply QStep.go; conv => whnf) | (refine Need.au ?_; conv => whnf) | (refine ⟨_, rfl, ?_⟩; conv => whnf)))
    refine Both.dec (fun hlt => ?_) (fun hge => ?_)
    · have hkl : k < L.length := by omega
      have hat := flL_at L hkl lf0
      have hxp := hpg k hkl
      obtain ⟨x, hx⟩ : ∃ x, L.getD k lf0 = x := ⟨_, rfl⟩
      have hxg : L[k] = x := by rw [← hx, List.getD_eq_getElem?_getD, List.getElem?_eq_getElem hkl]; rfl
      have hxm : x ∈ L := by rw [← hxg]; exact List.getElem_mem hkl
      rw [hx] at hat hxp
      have hat : ((flL L).drop (((k : Nat) : Int).toNat * 5)).take 5 = [CV.int .i64 x.i, .int .i64 x.c, .str x.k, .str x.v, .sl 1 x.p.length (strs x.p) false] := hat
      have hix : ti50.size = 5 ∧ (0 : Int) ≤ (k : Int) ∧ (k : Int) < ((L.length : Nat) : Int) := ⟨rfl, by omega, by omega⟩
      have hk1 : IntKind.i64.wrap ((k : Int) + 1) = ((k + 1 : Nat) : Int) := by rw [wrap_i64 (by omega) (by omega)]; rfl
      have hbx : ¬ okLf x → Q (.tuple [.str [], .int .i64 1]) [] := fun q => hbad ⟨x, hxm, q⟩
      (conv => whnf)
      (repeat (first | (refine Need.mk hix ?_; conv => whnf) | (refine ⟨_, hat, ?_⟩; conv => whnf) | (exact Out.same; conv => whnf) | (exact Out1.same; conv => whnf) | (refine QAnd.mk ?_ ?_; conv => whnf) | (apply QStepH.go; conv => whnf) | (refine Both.lit_true ?_; conv => whnf) | (refine Both.lit_false ?_; conv => whnf) | (apply QStep.go; conv => whnf) | (refine Need.au ?_; conv => whnf) | (refine ⟨_, rfl, ?_⟩; conv => whnf)))
      refine Both.dec (fun b1 => ?_) (fun b1 => ?_)
      · have h := hbx (fun q => by have := q.i.1; omega)
        (conv => whnf)
        (repeat (first | (exact Out.same; conv => whnf) | (exact Out1.same; conv => whnf) | (refine QAnd.mk ?_ ?_; conv => whnf) | (apply QStepH.go; conv => whnf) | (refine Both.lit_true ?_; conv => whnf) | (refine Both.lit_false ?_; conv => whnf) | (apply QStep.go; conv => whnf) | (refine Need.au ?_; conv => whnf) | (refine ⟨_, rfl, ?_⟩; conv => whnf)))
        exact ⟨_, _, WeakV.drop rfl, h⟩
      (conv => whnf)
      (repeat (first | (exact Out.same; conv => whnf) | (exact Out1.same; conv => whnf) | (refine QAnd.mk ?_ ?_; conv => whnf) | (apply QStepH.go; conv => whnf) | (refine Both.lit_true ?_; conv => whnf) | (refine Both.lit_false ?_; conv => whnf) | (apply QStep.go; conv => whnf) | (refine Need.au ?_; conv => whnf) | (refine ⟨_, rfl, ?_⟩; conv => whnf)))
      refine Both.dec (fun b2 => ?_) (fun b2 => ?_)
      · have h := hbx (fun q => by have := q.i.2; omega)
        (conv => whnf)
        (repeat (first | (exact Out.same; conv => whnf) | (exact Out1.same; conv => whnf) | (refine QAnd.mk ?_ ?_; conv => whnf) | (apply QStepH.go; conv => whnf) | (refine Both.lit_true ?_; conv => whnf) | (refine Both.lit_false ?_; conv => whnf) | (apply QStep.go; conv => whnf) | (refine Need.au ?_; conv => whnf) | (refine ⟨_, rfl, ?_⟩; conv => whnf)))
        exact ⟨_, _, WeakV.drop rfl, h⟩
      (conv => whnf)
      (repeat (first | (exact Out.same; conv => whnf) | (exact Out1.same; conv => whnf) | (refine QAnd.mk ?_ ?_; conv => whnf) | (apply QStepH.go; conv => whnf) | (refine Both.lit_true ?_; conv => whnf) | (refine Both.lit_false ?_; conv => whnf) | (apply QStep.go; conv => whnf) | (refine Need.au ?_; conv => whnf) | (refine ⟨_, rfl, ?_⟩; conv => whnf)))
      refine Both.dec (fun b3 => ?_) (fun b3 => ?_)
      · have h := hbx (fun q => by have := q.c.1; omega)
        (conv => whnf)
        (repeat (first | (exact Out.same; conv => whnf) | (exact Out1.same; conv => whnf) | (refine QAnd.mk ?_ ?_; conv => whnf) | (apply QStepH.go; conv => whnf) | (refine Both.lit_true ?_; conv => whnf) | (refine Both.lit_false ?_; conv => whnf) | (apply QStep.go; conv => whnf) | (refine Need.au ?_; conv => whnf) | (refine ⟨_, rfl, ?_⟩; conv => whnf)))
        exact ⟨_, _, WeakV.drop rfl, h⟩
      (conv => whnf)
      (repeat (first | (exact Out.same; conv => whnf) | (exact Out1.same; conv => whnf) | (refine QAnd.mk ?_ ?_; conv => whnf) | (apply QStepH.go; conv => whnf) | (refine Both.lit_true ?_; conv => whnf) | (refine Both.lit_false ?_; conv => whnf) | (apply QStep.go; conv => whnf) | (refine Need.au ?_; conv => whnf) | (refine ⟨_, rfl, ?_⟩; conv => whnf)))
      refine Both.dec (fun b4 => ?_) (fun b4 => ?_)
      · have h := hbx (fun q => by have := q.c.2; omega)
        (conv => whnf)
        (repeat (first | (exact Out.same; conv => whnf) | (exact Out1.same; conv => whnf) | (refine QAnd.mk ?_ ?_; conv => whnf) | (apply QStepH.go; conv => whnf) | (refine Both.lit_true ?_; conv => whnf) | (refine Both.lit_false ?_; conv => whnf) | (apply QStep.go; conv => whnf) | (refine Need.au ?_; conv => whnf) | (refine ⟨_, rfl, ?_⟩; conv => whnf)))
        exact ⟨_, _, WeakV.drop rfl, h⟩
      (conv => whnf)
      (repeat (first | (exact Out.same; conv => whnf) | (exact Out1.same; conv => whnf) | (refine QAnd.mk ?_ ?_; conv => whnf) | (apply QStepH.go; conv => whnf) | (refine Both.lit_true ?_; conv => whnf) | (refine Both.lit_false ?_; conv => whnf) | (apply QStep.go; conv => whnf) | (refine Need.au ?_; conv => whnf) | (refine ⟨_, rfl, ?_⟩; conv => whnf)))
      refine Both.dec (fun b5 => ?_) (fun b5 => ?_)
      · have h := hbx (fun q => by have := q.k; omega)
        (conv => whnf)
        (repeat (first | (exact Out.same; conv => whnf) | (exact Out1.same; conv => whnf) | (refine QAnd.mk ?_ ?_; conv => whnf) | (apply QStepH.go; conv => whnf) | (refine Both.lit_true ?_; conv => whnf) | (refine Both.lit_false ?_; conv => whnf) | (apply QStep.go; conv => whnf) | (refine Need.au ?_; conv => whnf) | (refine ⟨_, rfl, ?_⟩; conv => whnf)))
        exact ⟨_, _, WeakV.drop rfl, h⟩
      (conv => whnf)
      (repeat (first | (exact Out.same; conv => whnf) | (exact Out1.same; conv => whnf) | (refine QAnd.mk ?_ ?_; conv => whnf) | (apply QStepH.go; conv => whnf) | (refine Both.lit_true ?_; conv => whnf) | (refine Both.lit_false ?_; conv => whnf) | (apply QStep.go; conv => whnf) | (refine Need.au ?_; conv => whnf) | (refine ⟨_, rfl, ?_⟩; conv => whnf)))
      refine Both.dec (fun b6 => ?_) (fun b6 => ?_)
      · have h := hbx (fun q => by have := q.v; omega)
        (conv => whnf)
        (repeat (first | (exact Out.same; conv => whnf) | (exact Out1.same; conv => whnf) | (refine QAnd.mk ?_ ?_; conv => whnf) | (apply QStepH.go; conv => whnf) | (refine Both.lit_true ?_; conv => whnf) | (refine Both.lit_false ?_; conv => whnf) | (apply QStep.go; conv => whnf) | (refine Need.au ?_; conv => whnf) | (refine ⟨_, rfl, ?_⟩; conv => whnf)))
        exact ⟨_, _, WeakV.drop rfl, h⟩
      (conv => whnf)
      (repeat (first | (exact Out.same; conv => whnf) | (exact Out1.same; conv => whnf) | (refine QAnd.mk ?_ ?_; conv => whnf) | (apply QStepH.go; conv => whnf) | (refine Both.lit_true ?_; conv => whnf) | (refine Both.lit_false ?_; conv => whnf) | (apply QStep.go; conv => whnf) | (refine Need.au ?_; conv => whnf) | (refine ⟨_, rfl, ?_⟩; conv => whnf)))
      refine Both.dec (fun b7 => ?_) (fun b7 => ?_)
      · have h := hbx (fun q => by have := q.p; omega)
        (conv => whnf)
        (repeat (first | (exact Out.same; conv => whnf) | (exact Out1.same; conv => whnf) | (refine QAnd.mk ?_ ?_; conv => whnf) | (apply QStepH.go; conv => whnf) | (refine Both.lit_true ?_; conv => whnf) | (refine Both.lit_false ?_; conv => whnf) | (apply QStep.go; conv => whnf) | (refine Need.au ?_; conv => whnf) | (refine ⟨_, rfl, ?_⟩; conv => whnf)))
        exact ⟨_, _, WeakV.drop rfl, h⟩
      (conv => whnf)
      (repeat (first | (exact Out.same; conv => whnf) | (exact Out1.same; conv => whnf) | (refine QAnd.mk ?_ ?_; conv => whnf) | (apply QStepH.go; conv => whnf) | (refine Both.lit_true ?_; conv => whnf) | (refine Both.lit_false ?_; conv => whnf) | (apply QStep.go; conv => whnf) | (refine Need.au ?_; conv => whnf) | (refine ⟨_, rfl, ?_⟩; conv => whnf)))
      have hwi : IntKind.u64.wrap x.i = ((x.i.toNat : Nat) : Int) := by rw [wrap_u64 (by omega) (by omega)]; omega
      have hwc : IntKind.u64.wrap x.c = ((x.c.toNat : Nat) : Int) := by rw [wrap_u64 (by omega) (by omega)]; omega
      have hwp : IntKind.u64.wrap ((x.p.length : Nat) : Int) = ((x.p.length : Nat) : Int) := wrap_u64 (by omega) (by omega)
      have li : x.i.toNat < 18446744073709551616 := by omega
      have lc : x.c.toNat < 18446744073709551616 := by omega
      have lp : x.p.length < 18446744073709551616 := by omega
      have lk : x.k.length ≤ 65535 := by omega
      have lv : x.v.length ≤ 65535 := by omega
      obtain ⟨X, hX⟩ : ∃ X, bytesK false L k = X := ⟨_, rfl⟩
      have hnF := bytesK_succ false hkl
      rw [hxg, hX] at hnF
      rw [hX] at hXl ⊢
      have d1 : X.length + (beb x.i.toNat 8).length ≤ 9223372036854775807 := by rw [beb_length]; omega
      have d2 : (X ++ beb x.i.toNat 8).length + (beb x.c.toNat 8).length ≤ 9223372036854775807 := by simp only [List.length_append, beb_length]; omega
      have d3 : (X ++ beb x.i.toNat 8 ++ beb x.c.toNat 8).length + (beb x.k.length 2 ++ x.k).length ≤ 9223372036854775807 := by simp only [List.length_append, beb_length]; omega
      have d4 : (X ++ beb x.i.toNat 8 ++ beb x.c.toNat 8 ++ (beb x.k.length 2 ++ x.k)).length + (beb x.v.length 2 ++ x.v).length ≤ 9223372036854775807 := by simp only [List.length_append, beb_length]; omega
      have d5 : (X ++ beb x.i.toNat 8 ++ beb x.c.toNat 8 ++ (beb x.k.length 2 ++ x.k) ++ (beb x.v.length 2 ++ x.v)).length + (beb x.p.length 1).length ≤ 9223372036854775807 := by simp only [List.length_append, beb_length]; omega
      have hhead : X ++ beb x.i.toNat 8 ++ beb x.c.toNat 8 ++ (beb x.k.length 2 ++ x.k) ++ (beb x.v.length 2 ++ x.v) ++ beb x.p.length 1 = X ++ headL x ++ (x.p.take 0).flatten := by
        unfold headL
        simp only [List.append_assoc, List.take_zero, List.flatten_nil, List.append_nil]
      have hhl : (headL x).length ≤ 101 := by
        unfold headL
        simp only [List.length_append, beb_length]
        omega
      (refine DrawVC.any Γok (by kernel_rfl) (by kernel_rfl) (by kernel_rfl) (by rfl) ?_; conv => whnf)
      (repeat (first | (refine CallVC.auto rb_k ⟨x.i.toNat, 8, hwi, li, rfl, h88, ?_⟩; conv => whnf) | (refine CallVC.auto rb_k ⟨x.c.toNat, 8, hwc, lc, rfl, h88, ?_⟩; conv => whnf) | (refine CallVC.auto rtext9_k ⟨lk, ?_⟩; conv => whnf) | (refine CallVC.auto rtext9_k ⟨lv, ?_⟩; conv => whnf) | (refine CallVC.auto rb_k ⟨x.p.length, 1, hwp, lp, rfl, h18, ?_⟩; conv => whnf) | (refine Need.mk d1 ?_; conv => whnf) | (refine Need.mk d2 ?_; conv => whnf) | (refine Need.mk d3 ?_; conv => whnf) | (refine Need.mk d4 ?_; conv => whnf) | (refine Need.mk d5 ?_; conv => whnf) | (exact Out.same; conv => whnf) | (exact Out1.same; conv => whnf) | (refine QAnd.mk ?_ ?_; conv => whnf) | (apply QStepH.go; conv => whnf) | (refine Both.lit_true ?_; conv => whnf) | (refine Both.lit_false ?_; conv => whnf) | (apply QStep.go; conv => whnf) | (refine Need.au ?_; conv => whnf) | (refine ⟨_, rfl, ?_⟩; conv => whnf)))
      refine loop_rule (fun j : Nat => ⟨[.any, .ptr 0 0, .any, .any, .str (X ++ headL x ++ (x.p.take j).flatten), .int .i64 (k : Int), .ptr 1 0, .int .i64 (j : Int), .any, .any, .any, .any, .any, .any, .any, .any, .any, .any, .any, .any, .any, .any, .any, .any, .any, .any, .any, .any, .any, .any, .any, .any, .any, .any, .any, .any, .any, .any, .any, .any, .any, .any, .any, .any, .any, .any, .any, .any, .any, .any, .any, .any, .any, .any, .any, .any, .any, .any, .any, .any, .any, .any, .any, .any, .any, .any, .any, .any, .any, .any, .any, .any, .any, .any, .any, .any, .any, .any, .any, .any, .any, .any, .any, .any, .any, .any, .any, .any, .any, .any, .any, .any, .any, .any, .any, .any, .any, .any, .any, .any, .any, .any, .any, .any, .any, .any, .any, .any, .any, .any, .any, .any, .any, .any, .any, .any, .any, .any, .any, .any], [.cells [.bool false, .sl 5 L.length (flL L) f] 42, .cells [.int .i64 x.i, .int .i64 x.c, .str x.k, .str x.v, .sl 1 x.p.length (strs x.p) false] 50]⟩) (fun j => j ≤ x.p.length ∧ ∀ t, t < j → (x.p.getD t []).length = 32) (fun j => x.p.length - j) 0 ⟨Nat.zero_le _, fun t ht => absurd ht (by omega)⟩ (Weak.auto ?_) ?_
      · (repeat' ((conv => whnf); first | exact True.intro | (refine And.intro ?_ ?_)))
        all_goals first | rfl | exact .eq rfl | exact congrArg SV.str hhead
      rintro j ⟨hj, hall2⟩
      have hfl : ((x.p.take j).flatten).length = 32 * j := by
        rw [flat32 (fun s hs => by
          obtain ⟨t, ht, rfl⟩ := List.mem_iff_getElem.1 hs
          rw [List.getElem_take]
          have := hall2 t (by rw [List.length_take] at ht; omega)
          rw [List.getD_eq_getElem?_getD, List.getElem?_eq_getElem (by rw [List.length_take] at ht; omega)] at this
          exact this), List.length_take, Nat.min_eq_left hj]
      (refine sx_sound Γok _ ?_; conv => whnf)
      (repeat (first | (exact Out.same; conv => whnf) | (exact Out1.same; conv => whnf) | (refine QAnd.mk ?_ ?_; conv => whnf) | (apply QStepH.go; conv => whnf) | (refine Both.lit_true ?_; conv => whnf) | (refine Both.lit_false ?_; conv => whnf) | (apply QStep.go; conv => whnf) | (refine Need.au ?_; conv => whnf) | (refine ⟨_, rfl, ?_⟩; conv => whnf)))
      refine Both.dec (fun hjl => ?_) (fun hjg => ?_)
      · have hjn : j < x.p.length := by omega
        have hat2 := strs_at x.p hjn
        have hj1 : IntKind.i64.wrap ((j : Int) + 1) = ((j + 1 : Nat) : Int) := by rw [wrap_i64 (by omega) (by omega)]; rfl
        have hgd : x.p.getD j [] = x.p[j] := by rw [List.getD_eq_getElem?_getD, List.getElem?_eq_getElem hjn]; rfl
        have hnext : X ++ headL x ++ (x.p.take j).flatten ++ x.p.getD j [] = X ++ headL x ++ (x.p.take (j + 1)).flatten := by
          rw [List.take_succ_eq_append_getElem hjn, List.flatten_append, hgd]
          simp
        by_cases hd : (x.p.getD j []).length = 32
        · have cd : (!decide ((((x.p.getD j []).length : Nat) : Int) = 32)) = false := by rw [hd]; rfl
          have dj : (X ++ headL x ++ (x.p.take j).flatten).length + (x.p.getD j []).length ≤ 9223372036854775807 := by rw [List.length_append, List.length_append, hfl]; omega
          (conv => whnf)
          (repeat (first | (refine ⟨_, hat2, ?_⟩; conv => whnf) | (refine Both.of_false cd ?_; conv => whnf) | (refine Need.mk dj ?_; conv => whnf) | (exact Out.same; conv => whnf) | (exact Out1.same; conv => whnf) | (refine QAnd.mk ?_ ?_; conv => whnf) | (apply QStepH.go; conv => whnf) | (refine Both.lit_true ?_; conv => whnf) | (refine Both.lit_false ?_; conv => whnf) | (apply QStep.go; conv => whnf) | (refine Need.au ?_; conv => whnf) | (refine ⟨_, rfl, ?_⟩; conv => whnf)))
          refine ⟨j + 1, ⟨hjn, getD_32 x.p hjn hd hall2⟩, by omega, Weak.auto ?_⟩
          (repeat' ((conv => whnf); first | exact True.intro | (refine And.intro ?_ ?_)))
          all_goals first | rfl | exact .eq rfl | exact congrArg (SV.int .i64) hj1 | exact congrArg SV.str hnext
        · have cd : (!decide ((((x.p.getD j []).length : Nat) : Int) = 32)) = true := by rw [decide_eq_false (by omega)]; rfl
          have h := hbx (fun q => hd (by rw [hgd]; exact q.d _ (List.getElem_mem hjn)))
          (conv => whnf)
          (repeat (first | (refine ⟨_, hat2, ?_⟩; conv => whnf) | (refine Both.of_true cd ?_; conv => whnf) | (exact Out.same; conv => whnf) | (exact Out1.same; conv => whnf) | (refine QAnd.mk ?_ ?_; conv => whnf) | (apply QStepH.go; conv => whnf) | (refine Both.lit_true ?_; conv => whnf) | (refine Both.lit_false ?_; conv => whnf) | (apply QStep.go; conv => whnf) | (refine Need.au ?_; conv => whnf) | (refine ⟨_, rfl, ?_⟩; conv => whnf)))
          exact ⟨_, _, WeakV.drop rfl, h⟩
      have hjn : j = x.p.length := by omega
      subst hjn
      have hxo : okLf x := ⟨⟨by omega, by omega⟩, ⟨by omega, by omega⟩, by omega, by omega, by omega, fun s hs => by
        obtain ⟨t, ht, rfl⟩ := List.mem_iff_getElem.1 hs
        have := hall2 t ht
        rw [List.getD_eq_getElem?_getD, List.getElem?_eq_getElem ht] at this
        exact this⟩
      have hnx : X ++ headL x ++ (x.p.take x.p.length).flatten = bytesK false L (k + 1) := by
        rw [hnF, List.take_length, List.append_assoc]
        rfl
      have hall3 : ∀ t, t < k + 1 → okLf (L.getD t lf0) := fun t ht => by
        rcases Nat.lt_or_ge t k with q | q
        · exact hall t q
        · rw [show t = k by omega, hx]
          exact hxo
      (conv => whnf)
      (repeat (first | (exact Out.same; conv => whnf) | (exact Out1.same; conv => whnf) | (refine QAnd.mk ?_ ?_; conv => whnf) | (apply QStepH.go; conv => whnf) | (refine Both.lit_true ?_; conv => whnf) | (refine Both.lit_false ?_; conv => whnf) | (apply QStep.go; conv => whnf) | (refine Need.au ?_; conv => whnf) | (refine ⟨_, rfl, ?_⟩; conv => whnf)))
      refine ⟨k + 1, ⟨hkl, hall3⟩, by omega, Weak.auto ?_⟩
      (repeat' ((conv => whnf); first | exact True.intro | (refine And.intro ?_ ?_)))
      all_goals first | rfl | exact .eq rfl | exact congrArg (SV.int .i64) hk1 | exact congrArg SV.str hnx
    have hkn : k = L.length := by omega
    subst hkn
    have h := hgood (fun x hx => by
      obtain ⟨t, ht, rfl⟩ := List.mem_iff_getElem.1 hx
      have := hall t ht
      rw [List.getD_eq_getElem?_getD, List.getElem?_eq_getElem ht] at this
      exact this)
    rw [← bytesK_all] at h
    (conv => whnf)
    (repeat (first | (exact Out.same; conv => whnf) | (exact Out1.same; conv => whnf) | (refine QAnd.mk ?_ ?_; conv => whnf) | (apply QStepH.go; conv => whnf) | (refine Both.lit_true ?_; conv => whnf) | (refine Both.lit_false ?_; conv => whnf) | (apply QStep.go; conv => whnf) | (refine Need.au ?_; conv => whnf) | (refine ⟨_, rfl, ?_⟩; conv => whnf)))
    exact ⟨_, _, WeakV.drop rfl, h⟩
theorem rbytes9_k : Contract Tryz.prog [] 50 pbytesS := ⟨⟨⟨_, rfl, rfl, rfl⟩⟩, rbytes9_c⟩
end Go.LX
end
section
set_option maxRecDepth 100000
set_option maxHeartbeats 2000000
set_option autoImplicit false
set_option linter.unusedVariables false
set_option linter.unusedSimpArgs false
namespace Go.LX
open Go.Proofs

theorem bev_inj9 : ∀ (x y : List UInt8), x.length = y.length → bev x = bev y → x = y
  | [], [], _, _ => rfl
  | a :: x, b :: y, hl, h => by
    have hl : x.length = y.length := by simpa using hl
    rw [bev_cons, bev_cons, hl] at h
    have hx := bev_lt x
    have hy := bev_lt y
    rw [hl] at hx
    have hp : 0 < 256 ^ y.length := Nat.pow_pos (by omega)
    generalize 256 ^ y.length = p at *
    have h1 : a.toNat = b.toNat := by
      have e1 : (a.toNat * p + bev x) / p = a.toNat := by rw [Nat.mul_comm, Nat.mul_add_div hp, Nat.div_eq_of_lt hx, Nat.add_zero]
      have e2 : (b.toNat * p + bev y) / p = b.toNat := by rw [Nat.mul_comm, Nat.mul_add_div hp, Nat.div_eq_of_lt hy, Nat.add_zero]
      rw [← e1, ← e2, h]
    rw [h1] at h
    rw [UInt8.toNat_inj.1 h1, bev_inj9 x y hl (by omega)]
theorem beb_bev9 {l : List UInt8} {k : Nat} (h : l.length = k) : beb (bev l) k = l := by
  subst h
  exact bev_inj9 _ _ (beb_length _ _) (bev_beb _ _ (bev_lt l))
theorem rd_zero {e : Int} {n : Nat} {s : Bs} : rdE e n s = 0 ↔ e = 0 ∧ n ≤ s.length := by
  unfold rdE
  by_cases he : e = 0
  · rw [if_pos he]
    by_cases h : n ≤ s.length
    · rw [if_pos ⟨by omega, by omega⟩]
      exact ⟨fun _ => ⟨he, h⟩, fun _ => rfl⟩
    · rw [if_neg (by omega)]
      exact ⟨fun q => absurd q (by decide), fun q => absurd q.2 h⟩
  · rw [if_neg he]
    exact ⟨fun q => absurd q he, fun q => q.1⟩
def smallF (e : Int) (s : Bs) : Nat × Int × Bs := if 4096 < rdV e 8 s then (0, (if rdE e 8 s = 0 then 5 else rdE e 8 s), rdS e 8 s) else (rdV e 8 s, rdE e 8 s, rdS e 8 s)
def textF (e : Int) (s : Bs) : Bs × Int × Bs := (rdT (rdE e 2 s) (rdV e 2 s) (rdS e 2 s), rdE (rdE e 2 s) (rdV e 2 s) (rdS e 2 s), rdS (rdE e 2 s) (rdV e 2 s) (rdS e 2 s))
def byteF (e : Int) (s : Bs) : Nat × Int × Bs := (rdV e 1 s, rdE e 1 s, rdS e 1 s)
def pathF : Nat → Int → Bs → List Bs → List Bs × Int × Bs
  | 0, e, s, acc => (acc, e, s)
  | n + 1, e, s, acc => if e = 0 then pathF n (rdE e 32 s) (rdS e 32 s) (acc ++ [rdT e 32 s]) else (acc, e, s)
theorem num_iff {k : Nat} {e : Int} {s s1 : Bs} {v : Nat} (hk : k ≤ 8) : (rdV e k s, rdE e k s, rdS e k s) = (v, 0, s1) ↔ e = 0 ∧ v < 256 ^ k ∧ s = beb v k ++ s1 := by
  constructor
  · intro h
    obtain ⟨h1, h2⟩ := Prod.mk.inj h
    obtain ⟨h2, h3⟩ := Prod.mk.inj h2
    obtain ⟨rfl, hl⟩ := rd_zero.1 h2
    obtain ⟨q1, q2, q3⟩ := rd_yes hl
    have hv : bev (s.take k) = v := by rw [← h1]; show _ = bev (rdT 0 (k : Int) s); rw [q1]
    have htl : (s.take k).length = k := by rw [List.length_take]; omega
    refine ⟨rfl, ?_, ?_⟩
    · have := bev_lt (s.take k)
      rw [htl] at this
      omega
    · rw [← h3, q3, ← hv, beb_bev9 htl, List.take_append_drop]
  · rintro ⟨rfl, hv, rfl⟩
    have hl : k ≤ (beb v k ++ s1).length := by rw [List.length_append, beb_length]; omega
    obtain ⟨q1, q2, q3⟩ := rd_yes hl
    have e1 : rdV 0 k (beb v k ++ s1) = v := by
      show bev (rdT 0 (k : Int) _) = v
      rw [q1, List.take_left' (beb_length v k), bev_beb k v hv]
    rw [e1, q2, q3, List.drop_left' (beb_length v k)]
theorem small_iff {e : Int} {s s1 : Bs} {v : Nat} : smallF e s = (v, 0, s1) ↔ e = 0 ∧ v ≤ 4096 ∧ s = beb v 8 ++ s1 := by
  unfold smallF
  by_cases h : 4096 < rdV e 8 s
  · rw [if_pos h]
    constructor
    · intro q
      have := (Prod.mk.inj (Prod.mk.inj q).2).1
      split at this
      · cases this
      · rename_i hn
        exact absurd this hn
    · rintro ⟨rfl, hv, rfl⟩
      have := (num_iff (k := 8) (e := 0) (s1 := s1) (v := v) (by omega)).2 ⟨rfl, Nat.lt_of_le_of_lt hv (by decide), rfl⟩
      have := (Prod.mk.inj this).1
      have h : 4096 < rdV 0 ((8 : Nat) : Int) (beb v 8 ++ s1) := h
      omega
  · rw [if_neg h]
    have h8 := num_iff (k := 8) (e := e) (s := s) (s1 := s1) (v := v) (by omega)
    constructor
    · intro q
      have q1 : rdV e 8 s = v := (Prod.mk.inj q).1
      obtain ⟨a, b, c⟩ := h8.1 q
      exact ⟨a, by omega, c⟩
    · rintro ⟨a, b, c⟩
      exact h8.2 ⟨a, Nat.lt_of_le_of_lt b (by decide), c⟩
theorem byte_iff {e : Int} {s s1 : Bs} {v : Nat} : byteF e s = (v, 0, s1) ↔ e = 0 ∧ v < 256 ∧ s = beb v 1 ++ s1 := num_iff (k := 1) (by omega)
theorem raw_iff9 {e : Int} {n : Nat} {s t s1 : Bs} : (rdT e n s, rdE e n s, rdS e n s) = (t, 0, s1) ↔ e = 0 ∧ t.length = n ∧ s = t ++ s1 := by
  constructor
  · intro h
    obtain ⟨h1, h2⟩ := Prod.mk.inj h
    obtain ⟨h2, h3⟩ := Prod.mk.inj h2
    obtain ⟨rfl, hl⟩ := rd_zero.1 h2
    obtain ⟨q1, q2, q3⟩ := rd_yes hl
    rw [← h1, ← h3, q1, q3]
    exact ⟨rfl, by rw [List.length_take]; omega, (List.take_append_drop n s).symm⟩
  · rintro ⟨rfl, ht, rfl⟩
    obtain ⟨q1, q2, q3⟩ := rd_yes (n := n) (s := t ++ s1) (by rw [List.length_append]; omega)
    rw [q1, q2, q3, List.take_left' ht, List.drop_left' ht]
theorem text_iff {e : Int} {s t s1 : Bs} : textF e s = (t, 0, s1) ↔ e = 0 ∧ t.length < 65536 ∧ s = beb t.length 2 ++ t ++ s1 := by
  unfold textF
  constructor
  · intro h
    obtain ⟨h1, h2, h3⟩ := raw_iff9.1 h
    obtain ⟨a, b, c⟩ := (num_iff (k := 2) (e := e) (s := s) (s1 := rdS e 2 s) (v := rdV e 2 s) (by omega)).1 (by
      show (rdV e 2 s, rdE e 2 s, rdS e 2 s) = _
      rw [h1])
    refine ⟨a, by rw [h2]; exact b, ?_⟩
    rw [h3] at c
    rw [h2, List.append_assoc]
    exact c
  · rintro ⟨rfl, hl, hs⟩
    rw [List.append_assoc] at hs
    have h2 := (num_iff (k := 2) (e := 0) (s := s) (s1 := t ++ s1) (v := t.length) (by omega)).2 ⟨rfl, hl, hs⟩
    obtain ⟨a, b⟩ := Prod.mk.inj h2
    obtain ⟨b, c⟩ := Prod.mk.inj b
    have a : rdV 0 2 s = t.length := a
    have b : rdE 0 2 s = 0 := b
    have c : rdS 0 2 s = t ++ s1 := c
    rw [a, b, c]
    exact raw_iff9.2 ⟨rfl, rfl, rfl⟩
theorem path_iff : ∀ (n : Nat) (e : Int) (s : Bs) (acc q : List Bs) (s1 : Bs), pathF n e s acc = (q, 0, s1) ↔ e = 0 ∧ ∃ p, q = acc ++ p ∧ p.length = n ∧ (∀ d ∈ p, d.length = 32) ∧ s = p.flatten ++ s1
  | 0, e, s, acc, q, s1 => by
    constructor
    · intro h
      obtain ⟨h1, h2⟩ := Prod.mk.inj h
      obtain ⟨h2, h3⟩ := Prod.mk.inj h2
      exact ⟨h2, [], by rw [List.append_nil]; exact h1.symm, rfl, fun d hd => (by cases hd), by rw [h3]; rfl⟩
    · rintro ⟨rfl, p, rfl, hp, _, rfl⟩
      obtain rfl := List.eq_nil_of_length_eq_zero hp
      rw [List.append_nil]
      rfl
  | n + 1, e, s, acc, q, s1 => by
    rw [pathF]
    by_cases he : e = 0
    · rw [if_pos he, path_iff n]
      subst he
      constructor
      · rintro ⟨h1, p, rfl, hp, hd, hs⟩
        have h1 : rdE 0 ((32 : Nat) : Int) s = 0 := h1
        obtain ⟨_, ht, hs2⟩ := (raw_iff9 (e := 0) (n := 32) (s := s) (t := rdT 0 32 s) (s1 := rdS 0 32 s)).1 (by rw [h1]; rfl)
        refine ⟨rfl, rdT 0 32 s :: p, by simp, by rw [List.length_cons, hp], fun d hd2 => ?_, ?_⟩
        · rcases List.mem_cons.1 hd2 with rfl | hd2
          · exact ht
          · exact hd d hd2
        · rw [List.flatten_cons, List.append_assoc, ← hs]
          exact hs2
      · rintro ⟨_, p, rfl, hp, hd, rfl⟩
        match p, hp with
        | d :: p, hp =>
          have h32 := hd d (List.mem_cons_self ..)
          have h := (raw_iff9 (e := 0) (n := 32) (s := (d :: p).flatten ++ s1) (t := d) (s1 := p.flatten ++ s1)).2 ⟨rfl, h32, by rw [List.flatten_cons, List.append_assoc]⟩
          obtain ⟨a, b⟩ := Prod.mk.inj h
          obtain ⟨b, c⟩ := Prod.mk.inj b
          have a : rdT 0 32 ((d :: p).flatten ++ s1) = d := a
          have b : rdE 0 32 ((d :: p).flatten ++ s1) = 0 := b
          have c : rdS 0 32 ((d :: p).flatten ++ s1) = p.flatten ++ s1 := c
          rw [a, b, c]
          exact ⟨rfl, p, by simp, by simpa using hp, fun x hx => hd x (List.mem_cons_of_mem _ hx), rfl⟩
    · rw [if_neg he]
      constructor
      · intro h
        exact absurd (Prod.mk.inj (Prod.mk.inj h).2).1 he
      · intro h
        exact absurd h.1 he
open Classical in
noncomputable def leafF (e : Int) (s : Bs) : Lf × Int × Bs :=
  let A := smallF e s
  let B := smallF A.2.1 A.2.2
  let K := textF B.2.1 B.2.2
  let V := textF K.2.1 K.2.2
  let N := byteF V.2.1 V.2.2
  let P := pathF N.1 N.2.1 N.2.2 []
  (⟨(A.1 : Int), (B.1 : Int), K.1, V.1, P.1⟩, (if okLf ⟨(A.1 : Int), (B.1 : Int), K.1, V.1, P.1⟩ then P.2.1 else if P.2.1 = 0 then 5 else P.2.1), P.2.2)
theorem trip {α β : Type} {x : α × Int × β} (h : x.2.1 = 0) : x = (x.1, 0, x.2.2) := by
  obtain ⟨a, b, c⟩ := x
  have h : b = 0 := h
  subst h
  rfl
theorem leaf_iff {e : Int} {s s1 : Bs} {x : Lf} : leafF e s = (x, 0, s1) ↔ e = 0 ∧ okLf x ∧ s = putL x ++ s1 := by
  unfold leafF
  obtain ⟨A, hA⟩ : ∃ A, smallF e s = A := ⟨_, rfl⟩
  rw [hA]
  dsimp only
  obtain ⟨B, hB⟩ : ∃ B, smallF A.2.1 A.2.2 = B := ⟨_, rfl⟩
  rw [hB]
  obtain ⟨K, hK⟩ : ∃ K, textF B.2.1 B.2.2 = K := ⟨_, rfl⟩
  rw [hK]
  obtain ⟨V, hV⟩ : ∃ V, textF K.2.1 K.2.2 = V := ⟨_, rfl⟩
  rw [hV]
  obtain ⟨N, hN⟩ : ∃ N, byteF V.2.1 V.2.2 = N := ⟨_, rfl⟩
  rw [hN]
  obtain ⟨P, hP⟩ : ∃ P, pathF N.1 N.2.1 N.2.2 [] = P := ⟨_, rfl⟩
  rw [hP]
  constructor
  · intro h
    obtain ⟨h1, h2⟩ := Prod.mk.inj h
    obtain ⟨h2, h3⟩ := Prod.mk.inj h2
    by_cases hok : okLf ⟨(A.1 : Int), (B.1 : Int), K.1, V.1, P.1⟩
    case neg =>
      rw [if_neg hok] at h2
      split at h2
      · cases h2
      · rename_i q
        exact absurd h2 q
    rw [if_pos hok] at h2
    obtain ⟨p0, p, p1, p2, p3, p4⟩ := (path_iff _ _ _ _ _ _).1 (hP.trans (trip h2))
    obtain ⟨n0, n1, n2⟩ := byte_iff.1 (hN.trans (trip p0))
    obtain ⟨v0, v1, v2⟩ := text_iff.1 (hV.trans (trip n0))
    obtain ⟨k0, k1, k2⟩ := text_iff.1 (hK.trans (trip v0))
    obtain ⟨b0, b1, b2⟩ := small_iff.1 (hB.trans (trip k0))
    obtain ⟨a0, a1, a2⟩ := small_iff.1 (hA.trans (trip b0))
    rw [List.nil_append] at p1
    refine ⟨a0, by rw [← h1]; exact hok, ?_⟩
    rw [a2, b2, k2, v2, n2, p4, ← h1, h3]
    unfold putL headL
    rw [Int.toNat_natCast, Int.toNat_natCast]
    dsimp only
    rw [p1, p2]
    simp only [List.append_assoc]
  · rintro ⟨rfl, hx, rfl⟩
    have hi := hx.i
    have hc := hx.c
    have ek := hx.k
    have ev := hx.v
    have ep := hx.p
    have a : smallF 0 (putL x ++ s1) = (x.i.toNat, 0, beb x.c.toNat 8 ++ (beb x.k.length 2 ++ x.k ++ (beb x.v.length 2 ++ x.v ++ (beb x.p.length 1 ++ (x.p.flatten ++ s1))))) :=
      small_iff.2 ⟨rfl, by omega, by unfold putL headL; simp only [List.append_assoc]⟩
    obtain rfl := hA.symm.trans a
    obtain rfl := hB.symm.trans ((small_iff (v := x.c.toNat) (s1 := beb x.k.length 2 ++ x.k ++ (beb x.v.length 2 ++ x.v ++ (beb x.p.length 1 ++ (x.p.flatten ++ s1))))).2 ⟨rfl, by omega, rfl⟩)
    obtain rfl := hK.symm.trans ((text_iff (t := x.k) (s1 := beb x.v.length 2 ++ x.v ++ (beb x.p.length 1 ++ (x.p.flatten ++ s1)))).2 ⟨rfl, by omega, rfl⟩)
    obtain rfl := hV.symm.trans ((text_iff (t := x.v) (s1 := beb x.p.length 1 ++ (x.p.flatten ++ s1))).2 ⟨rfl, by omega, rfl⟩)
    obtain rfl := hN.symm.trans ((byte_iff (v := x.p.length) (s1 := x.p.flatten ++ s1)).2 ⟨rfl, by omega, rfl⟩)
    obtain rfl := hP.symm.trans ((path_iff x.p.length 0 (x.p.flatten ++ s1) [] x.p s1).2 ⟨rfl, x.p, rfl, rfl, hx.d, rfl⟩)
    have e : (⟨((x.i.toNat : Nat) : Int), ((x.c.toNat : Nat) : Int), x.k, x.v, x.p⟩ : Lf) = x := by
      obtain ⟨i, c, k, v, p⟩ := x
      have h1 : ((i.toNat : Nat) : Int) = i := Int.toNat_of_nonneg hi.1
      have h2 : ((c.toNat : Nat) : Int) = c := Int.toNat_of_nonneg hc.1
      show (⟨((i.toNat : Nat) : Int), ((c.toNat : Nat) : Int), k, v, p⟩ : Lf) = _
      rw [h1, h2]
    dsimp only
    rw [e, if_pos hx]
noncomputable def leavesF : Nat → Int → Bs → List Lf → List Lf × Int × Bs
  | 0, e, s, acc => (acc, e, s)
  | n + 1, e, s, acc => leavesF n (leafF e s).2.1 (leafF e s).2.2 (acc ++ [(leafF e s).1])
theorem leaves_iff : ∀ (n : Nat) (e : Int) (s : Bs) (acc q : List Lf) (s1 : Bs), leavesF n e s acc = (q, 0, s1) ↔ e = 0 ∧ ∃ L, q = acc ++ L ∧ L.length = n ∧ (∀ x ∈ L, okLf x) ∧ s = (L.map putL).flatten ++ s1
  | 0, e, s, acc, q, s1 => by
    constructor
    · intro h
      obtain ⟨h1, h2⟩ := Prod.mk.inj h
      obtain ⟨h2, h3⟩ := Prod.mk.inj h2
      exact ⟨h2, [], by rw [List.append_nil]; exact h1.symm, rfl, fun d hd => (by cases hd), by rw [h3]; rfl⟩
    · rintro ⟨rfl, p, rfl, hp, _, rfl⟩
      obtain rfl := List.eq_nil_of_length_eq_zero hp
      rw [List.append_nil]
      rfl
  | n + 1, e, s, acc, q, s1 => by
    rw [leavesF, leaves_iff n]
    constructor
    · rintro ⟨h1, L, rfl, hL, hok, hs⟩
      obtain ⟨e0, hx, hs2⟩ := leaf_iff.1 (trip h1)
      refine ⟨e0, (leafF e s).1 :: L, by simp, by rw [List.length_cons, hL], fun x hx2 => ?_, ?_⟩
      · rcases List.mem_cons.1 hx2 with rfl | hx2
        · exact hx
        · exact hok x hx2
      · rw [List.map_cons, List.flatten_cons, List.append_assoc, ← hs]
        exact hs2
    · rintro ⟨rfl, L, rfl, hL, hok, rfl⟩
      match L, hL with
      | x :: L, hL =>
        have h := (leaf_iff (e := 0) (s := ((x :: L).map putL).flatten ++ s1) (x := x) (s1 := (L.map putL).flatten ++ s1)).2 ⟨rfl, hok x (List.mem_cons_self ..), by rw [List.map_cons, List.flatten_cons, List.append_assoc]⟩
        rw [h]
        exact ⟨rfl, L, by simp, by simpa using hL, fun y hy => hok y (List.mem_cons_of_mem _ hy), rfl⟩
theorem end_iff {e : Int} {s : Bs} : rdEnd e s = 0 ↔ e = 0 ∧ s = [] := by
  unfold rdEnd rdLeft
  by_cases he : e = 0
  · rw [if_pos he]
    by_cases hs : s = []
    · subst hs
      rw [if_neg (by simp)]
      exact ⟨fun q => ⟨q, rfl⟩, fun q => q.1⟩
    · have : 0 < s.length := List.length_pos_iff.2 hs
      rw [if_pos (by omega)]
      exact ⟨fun q => absurd q (by decide), fun q => absurd q.2 hs⟩
  · rw [if_neg he, if_neg (by decide)]
    exact ⟨fun q => absurd q he, fun q => q.1⟩
open Classical in
noncomputable def parseV (s : Bs) : (Bool × List Lf) × Int := if h : ∃ r : Bool × List Lf, fitsX r.2 ∧ bytesX r.1 r.2 = s then (h.choose, 0) else ((false, []), 5)
theorem parts_iff {a : Bool} {L : List Lf} {s : Bs} (hf : fitsX L) : bytesX a L = s ↔ byteF 0 s = ((if a then 2 else 1), 0, beb L.length 1 ++ (L.map putL).flatten) := by
  have h := byte_iff (e := 0) (s := s) (s1 := beb L.length 1 ++ (L.map putL).flatten) (v := if a then 2 else 1)
  rw [h]
  unfold bytesX
  cases a
  · exact ⟨fun q => ⟨rfl, by decide, by rw [← q]; rfl⟩, fun q => q.2.2.symm⟩
  · exact ⟨fun q => ⟨rfl, by decide, by rw [← q]; rfl⟩, fun q => q.2.2.symm⟩
theorem bytesX_inj {a b : Bool} {L M : List Lf} (hL : fitsX L) (hM : fitsX M) (h : bytesX a L = bytesX b M) : a = b ∧ L = M := by
  have h1 := (parts_iff (s := bytesX b M) hL).1 h
  have h2 := (parts_iff (s := bytesX b M) hM).1 rfl
  obtain ⟨q1, q2⟩ := Prod.mk.inj (h1.symm.trans h2)
  obtain ⟨_, q3⟩ := Prod.mk.inj q2
  have l1 := hL.1
  have l2 := hM.1
  have n1 := (byte_iff (e := 0) (s := beb L.length 1 ++ (L.map putL).flatten) (s1 := (L.map putL).flatten) (v := L.length)).2 ⟨rfl, by omega, rfl⟩
  have n2 := (byte_iff (e := 0) (s := beb L.length 1 ++ (L.map putL).flatten) (s1 := (M.map putL).flatten) (v := M.length)).2 ⟨rfl, by omega, q3⟩
  obtain ⟨q4, q5⟩ := Prod.mk.inj (n1.symm.trans n2)
  obtain ⟨_, q6⟩ := Prod.mk.inj q5
  have t1 := (leaves_iff L.length 0 ((L.map putL).flatten) [] L []).2 ⟨rfl, L, rfl, rfl, hL.2, (List.append_nil _).symm⟩
  have t2 := (leaves_iff L.length 0 ((L.map putL).flatten) [] M []).2 ⟨rfl, M, rfl, q4.symm, hM.2, by rw [List.append_nil]; exact q6⟩
  refine ⟨?_, (Prod.mk.inj (t1.symm.trans t2)).1⟩
  cases a <;> cases b <;> first | rfl | cases q1
theorem parseV_yes {a : Bool} {L : List Lf} {s : Bs} (hf : fitsX L) (h : bytesX a L = s) : parseV s = ((a, L), 0) := by
  have hex : ∃ r : Bool × List Lf, fitsX r.2 ∧ bytesX r.1 r.2 = s := ⟨(a, L), hf, h⟩
  have hc := hex.choose_spec
  unfold parseV
  rw [dif_pos hex]
  obtain ⟨q1, q2⟩ := bytesX_inj hc.1 hf (hc.2.trans h.symm)
  rw [show hex.choose = (a, L) from Prod.ext q1 q2]
theorem parseV_no {s : Bs} (h : ¬ ∃ r : Bool × List Lf, fitsX r.2 ∧ bytesX r.1 r.2 = s) : parseV s = ((false, []), 5) := dif_neg h
end Go.LX
end
section
set_option maxRecDepth 100000
set_option maxHeartbeats 2000000
set_option autoImplicit false
set_option linter.unusedVariables false
set_option linter.unusedSimpArgs false
namespace Go.LX
open Go.Proofs

theorem LoopVC.postWeak {P : Program} {G : Gl} {N : Nat} {c : Code} {s : LS} {K : Exit → LS → Prop} (h : LoopVC P G N c s fun e s' => ∃ s2, Weak G N s' s2 ∧ K e s2) : LoopVC P G N c s K := ⟨fun X hX => WpX.postWeak (h.out X hX)⟩
def small9S : Spec := fun args H Q => match args, H with
  | [.ptr 0 0, .int .u64 m], [.cells [.int .i64 e, .str s] 129] => m = 4096 ∧ s.length < 1000000 ∧ Q (.int .i64 ((smallF e s).1 : Int)) (rd (smallF e s).2.1 (smallF e s).2.2)
  | _, _ => False
theorem small9_c : Meets Tryz.prog [] 75 small9S := by
  refine meets_of Γok Tryz.func75 rfl ?_
  intro args H Q h
  unfold small9S at h
  split at h
  case h_2 => exact h.elim
  rename_i m e s
  obtain ⟨rfl, hs, h⟩ := h
  unfold smallF at h
  (refine sx_sound Γok _ ?_; conv => whnf)
  (repeat (first | (refine CallVC.auto rnum_k (Need.mk hs ?_); conv => whnf) | (exact Out.same; conv => whnf) | (exact Out1.same; conv => whnf) | (refine QAnd.mk ?_ ?_; conv => whnf) | (apply QStepH.go; conv => whnf) | (refine Both.lit_true ?_; conv => whnf) | (refine Both.lit_false ?_; conv => whnf) | (apply QStep.go; conv => whnf) | (refine Need.au ?_; conv => whnf) | (refine ⟨_, rfl, ?_⟩; conv => whnf)))
  refine Both.dec (fun h1 => ?_) (fun h1 => ?_)
  · rw [if_pos (by omega)] at h
    (conv => whnf)
    (repeat (first | (exact Out.same; conv => whnf) | (exact Out1.same; conv => whnf) | (refine QAnd.mk ?_ ?_; conv => whnf) | (apply QStepH.go; conv => whnf) | (refine Both.lit_true ?_; conv => whnf) | (refine Both.lit_false ?_; conv => whnf) | (apply QStep.go; conv => whnf) | (refine Need.au ?_; conv => whnf) | (refine ⟨_, rfl, ?_⟩; conv => whnf)))
    refine CallVC.auto failA_k (fun e' he' => ?_)
    subst he'
    (conv => whnf)
    (repeat (first | (exact Out.same; conv => whnf) | (exact Out1.same; conv => whnf) | (refine QAnd.mk ?_ ?_; conv => whnf) | (apply QStepH.go; conv => whnf) | (refine Both.lit_true ?_; conv => whnf) | (refine Both.lit_false ?_; conv => whnf) | (apply QStep.go; conv => whnf) | (refine Need.au ?_; conv => whnf) | (refine ⟨_, rfl, ?_⟩; conv => whnf)))
    refine ⟨_, _, WeakV.auto ?_, h⟩
    (repeat' ((conv => whnf); first | exact True.intro | (refine And.intro ?_ ?_)))
    all_goals first | rfl | exact .eq rfl
  · rw [if_neg (by omega)] at h
    have hw : IntKind.i64.wrap ((rdV e 8 s : Nat) : Int) = ((rdV e 8 s : Nat) : Int) := wrap_i64 (by omega) (by omega)
    (conv => whnf)
    (repeat (first | (exact Out.same; conv => whnf) | (exact Out1.same; conv => whnf) | (refine QAnd.mk ?_ ?_; conv => whnf) | (apply QStepH.go; conv => whnf) | (refine Both.lit_true ?_; conv => whnf) | (refine Both.lit_false ?_; conv => whnf) | (apply QStep.go; conv => whnf) | (refine Need.au ?_; conv => whnf) | (refine ⟨_, rfl, ?_⟩; conv => whnf)))
    refine ⟨_, _, WeakV.auto ?_, h⟩
    (repeat' ((conv => whnf); first | exact True.intro | (refine And.intro ?_ ?_)))
    all_goals first | rfl | exact .eq rfl | exact congrArg (SV.int .i64) hw
theorem small9_k : Contract Tryz.prog [] 75 small9S := ⟨⟨⟨_, rfl, rfl, rfl⟩⟩, small9_c⟩
theorem smallF_len (e : Int) (s : Bs) : (smallF e s).2.2.length ≤ s.length := by
  unfold smallF
  split <;> exact rdS_len e 8 s
theorem textF_len (e : Int) (s : Bs) : (textF e s).2.2.length ≤ s.length := Nat.le_trans (rdS_len _ _ _) (rdS_len _ _ _)
theorem byteF_len (e : Int) (s : Bs) : (byteF e s).2.2.length ≤ s.length := rdS_len _ _ _
theorem pathF_len : ∀ (n : Nat) (e : Int) (s : Bs) (acc : List Bs), (pathF n e s acc).2.2.length ≤ s.length ∧ (pathF n e s acc).1.length ≤ acc.length + n
  | 0, e, s, acc => ⟨Nat.le_refl _, Nat.le_refl _⟩
  | n + 1, e, s, acc => by
    rw [pathF]
    by_cases he : e = 0
    · rw [if_pos he]
      have := pathF_len n (rdE e 32 s) (rdS e 32 s) (acc ++ [rdT e 32 s])
      rw [List.length_append, List.length_singleton] at this
      exact ⟨Nat.le_trans this.1 (rdS_len _ _ _), by omega⟩
    · rw [if_neg he]
      exact ⟨Nat.le_refl _, by show acc.length ≤ _; omega⟩
def rtextFS : Spec := fun args H Q => match args, H with
  | [.ptr 0 0], [.cells [.int .i64 e, .str s] 129] => s.length < 1000000 ∧ Q (.str (textF e s).1) (rd (textF e s).2.1 (textF e s).2.2)
  | _, _ => False
theorem rtextF_k : Contract Tryz.prog [] 76 rtextFS := rtext_k.imp fun args H Q h => by
  unfold rtextFS at h
  split at h
  case h_2 => exact h.elim
  exact Need.mk h.1 h.2
def rbyteFS : Spec := fun args H Q => match args, H with
  | [.ptr 0 0], [.cells [.int .i64 e, .str s] 129] => s.length < 1000000 ∧ Q (.int .i64 ((byteF e s).1 : Int)) (rd (byteF e s).2.1 (byteF e s).2.2)
  | _, _ => False
theorem rbyteF_k : Contract Tryz.prog [] 41 rbyteFS := rbyte_k.imp fun args H Q h => by
  unfold rbyteFS at h
  split at h
  case h_2 => exact h.elim
  exact Need.mk h.1 h.2
theorem far5 {i c : Int} {k v : Bs} {s n : Nat} {cs : List CV} {f : Bool} : ∀ y ∈ [SV.int .i64 i, SV.int .i64 c, SV.str k, SV.str v, SV.sl s n cs f], isFar y := by
  intro y hy
  simp only [List.mem_cons, List.mem_nil_iff, or_false] at hy
  rcases hy with rfl | rfl | rfl | rfl | rfl <;> trivial
def leaf9S : Spec := fun args H Q => match args, H with
  | [.ptr 0 0], [.cells [.int .i64 e, .str s] 129] => Need (s.length < 1000000) (Q (lfSV (leafF e s).1) (rd (leafF e s).2.1 (leafF e s).2.2))
  | _, _ => False
open Classical in
theorem leaf9_c : Meets Tryz.prog [] 42 leaf9S := by
  refine meets_of Γok Tryz.func42 rfl ?_
  intro args H Q h
  unfold leaf9S at h
  split at h
  case h_2 => exact h.elim
  rename_i e s
  obtain ⟨hs, h⟩ := h
  unfold leafF at h
  have l1 := smallF_len e s
  obtain ⟨A, hA⟩ : ∃ A, smallF e s = A := ⟨_, rfl⟩
  rw [hA] at h l1
  dsimp only at h
  have l2 := smallF_len A.2.1 A.2.2
  obtain ⟨B, hB⟩ : ∃ B, smallF A.2.1 A.2.2 = B := ⟨_, rfl⟩
  rw [hB] at h l2
  have l3 := textF_len B.2.1 B.2.2
  obtain ⟨K, hK⟩ : ∃ K, textF B.2.1 B.2.2 = K := ⟨_, rfl⟩
  rw [hK] at h l3
  have l4 := textF_len K.2.1 K.2.2
  obtain ⟨V, hV⟩ : ∃ V, textF K.2.1 K.2.2 = V := ⟨_, rfl⟩
  rw [hV] at h l4
  have l5 := byteF_len V.2.1 V.2.2
  have hN0 := rdV_lt1 V.2.1 V.2.2
  obtain ⟨N, hN⟩ : ∃ N, byteF V.2.1 V.2.2 = N := ⟨_, rfl⟩
  have hN1 : N.1 < 256 := by rw [← hN]; exact hN0
  rw [hN] at h l5
  obtain ⟨P, hP⟩ : ∃ P, pathF N.1 N.2.1 N.2.2 [] = P := ⟨_, rfl⟩
  have hPl := pathF_len N.1 N.2.1 N.2.2 []
  rw [hP] at h hPl
  have hPp : P.1.length ≤ 9223372036854775807 := by have := hPl.2; simp only [List.length_nil] at this; omega
  have s1 : A.2.2.length < 1000000 := by omega
  have s2 : B.2.2.length < 1000000 := by omega
  have s3 : K.2.2.length < 1000000 := by omega
  have s4 : V.2.2.length < 1000000 := by omega
  have s5 : N.2.2.length < 1000000 := by omega
  (refine sx_sound Γok _ ?_; conv => whnf)
  (repeat (first | (exact Out.same; conv => whnf) | (exact Out1.same; conv => whnf) | (refine QAnd.mk ?_ ?_; conv => whnf) | (apply QStepH.go; conv => whnf) | (refine Both.lit_true ?_; conv => whnf) | (refine Both.lit_false ?_; conv => whnf) | (apply QStep.go; conv => whnf) | (refine Need.au ?_; conv => whnf) | (refine ⟨_, rfl, ?_⟩; conv => whnf)))
  refine CallVC.auto small9_k ⟨rfl, hs, ?_⟩
  rw [hA]
  (conv => whnf)
  (repeat (first | (exact Out.same; conv => whnf) | (exact Out1.same; conv => whnf) | (refine QAnd.mk ?_ ?_; conv => whnf) | (apply QStepH.go; conv => whnf) | (refine Both.lit_true ?_; conv => whnf) | (refine Both.lit_false ?_; conv => whnf) | (apply QStep.go; conv => whnf) | (refine Need.au ?_; conv => whnf) | (refine ⟨_, rfl, ?_⟩; conv => whnf)))
  refine CallVC.auto small9_k ⟨rfl, s1, ?_⟩
  rw [hB]
  (conv => whnf)
  (repeat (first | (exact Out.same; conv => whnf) | (exact Out1.same; conv => whnf) | (refine QAnd.mk ?_ ?_; conv => whnf) | (apply QStepH.go; conv => whnf) | (refine Both.lit_true ?_; conv => whnf) | (refine Both.lit_false ?_; conv => whnf) | (apply QStep.go; conv => whnf) | (refine Need.au ?_; conv => whnf) | (refine ⟨_, rfl, ?_⟩; conv => whnf)))
  refine CallVC.auto rtextF_k ⟨s2, ?_⟩
  rw [hK]
  (conv => whnf)
  (repeat (first | (exact Out.same; conv => whnf) | (exact Out1.same; conv => whnf) | (refine QAnd.mk ?_ ?_; conv => whnf) | (apply QStepH.go; conv => whnf) | (refine Both.lit_true ?_; conv => whnf) | (refine Both.lit_false ?_; conv => whnf) | (apply QStep.go; conv => whnf) | (refine Need.au ?_; conv => whnf) | (refine ⟨_, rfl, ?_⟩; conv => whnf)))
  refine CallVC.auto rtextF_k ⟨s3, ?_⟩
  rw [hV]
  (conv => whnf)
  (repeat (first | (exact Out.same; conv => whnf) | (exact Out1.same; conv => whnf) | (refine QAnd.mk ?_ ?_; conv => whnf) | (apply QStepH.go; conv => whnf) | (refine Both.lit_true ?_; conv => whnf) | (refine Both.lit_false ?_; conv => whnf) | (apply QStep.go; conv => whnf) | (refine Need.au ?_; conv => whnf) | (refine ⟨_, rfl, ?_⟩; conv => whnf)))
  refine CallVC.auto rbyteF_k ⟨s4, ?_⟩
  rw [hN]
  (conv => whnf)
  (repeat (first | (exact Out.same; conv => whnf) | (exact Out1.same; conv => whnf) | (refine QAnd.mk ?_ ?_; conv => whnf) | (apply QStepH.go; conv => whnf) | (refine Both.lit_true ?_; conv => whnf) | (refine Both.lit_false ?_; conv => whnf) | (apply QStep.go; conv => whnf) | (refine Need.au ?_; conv => whnf) | (refine ⟨_, rfl, ?_⟩; conv => whnf)))
  refine LoopVC.postWeak ?_
  refine loop_rule (fun x : Nat × Int × Bs × List Bs => match x with | (n, e, s, acc) => ⟨[.ptr 0 0, .any, .ptr 1 0, .ptr 2 0, .int .i64 (n : Int), .any, .any, .any, .any, .any, .any, .any, .any, .any, .any, .any, .any, .any, .any, .any, .any, .any, .any, .any, .any, .any, .any, .any, .any, .any, .any, .any, .any, .any, .any, .any, .any, .any, .any, .any, .any, .any, .any, .any, .any, .any], [.cells [.int .i64 e, .str s] 129, .cells [.int .i64 0, .int .i64 0, .str [], .str [], .nilsl] 50, .cells [.int .i64 (A.1 : Int), .int .i64 (B.1 : Int), .str K.1, .str V.1, .own 3] 50, .own 9 1 acc.length (strs acc) true]⟩) (fun x => match x with | (n, e, s, acc) => pathF n e s acc = P ∧ s.length < 1000000 ∧ acc.length + n ≤ 255) (fun x => match x with | (n, e, s, acc) => n) (N.1, N.2.1, N.2.2, []) ⟨hP, s5, by show 0 + N.1 ≤ 255; omega⟩ ((Weak.ownNil 2 4 9 1 rfl rfl).trans (Weak.auto ?_)) ?_
  · (repeat' ((conv => whnf); first | exact True.intro | (refine And.intro ?_ ?_)))
    all_goals first | rfl | exact .eq rfl
  rintro ⟨n, e, t, acc⟩ ⟨hI, ht, hna⟩
  (refine sx_sound Γok _ ?_; conv => whnf)
  (repeat (first | (exact Out.same; conv => whnf) | (exact Out1.same; conv => whnf) | (refine QAnd.mk ?_ ?_; conv => whnf) | (apply QStepH.go; conv => whnf) | (refine Both.lit_true ?_; conv => whnf) | (refine Both.lit_false ?_; conv => whnf) | (apply QStep.go; conv => whnf) | (refine Need.au ?_; conv => whnf) | (refine ⟨_, rfl, ?_⟩; conv => whnf)))
  refine Both.dec (fun h1 => ?_) (fun h1 => ?_)
  · obtain ⟨n, rfl⟩ : ∃ n', n = n' + 1 := ⟨n - 1, by omega⟩
    rw [pathF] at hI
    have hn1 : IntKind.i64.wrap (((n + 1 : Nat) : Int) - 1) = (n : Int) := by rw [wrap_i64 (by omega) (by omega)]; omega
    have hcap : (acc.length + 1) * ti9.bytes ≤ 140737488355328 := by
      show (acc.length + 1) * 16 ≤ _
      omega
    have hsl := rdS_len e 32 t
    (conv => whnf)
    (repeat (first | (exact Out.same; conv => whnf) | (exact Out1.same; conv => whnf) | (refine QAnd.mk ?_ ?_; conv => whnf) | (apply QStepH.go; conv => whnf) | (refine Both.lit_true ?_; conv => whnf) | (refine Both.lit_false ?_; conv => whnf) | (apply QStep.go; conv => whnf) | (refine Need.au ?_; conv => whnf) | (refine ⟨_, rfl, ?_⟩; conv => whnf) | (refine CallVC.auto errA_k ?_; conv => whnf)))
    refine Both.dec (fun h2 => ?_) (fun h2 => ?_)
    · rw [if_pos h2] at hI
      have hA1 : (rdS e 32 t).length < 1000000 := by omega
      have hB1 : (acc ++ [rdT e 32 t]).length + n ≤ 255 := by rw [List.length_append, List.length_singleton]; omega
      have end1 : LObj.own 9 1 (acc.length + 1) (strs acc ++ [CV.str (rdT e 32 t)]) true = .own 9 1 (acc ++ [rdT e 32 t]).length (strs (acc ++ [rdT e 32 t])) true := by
        rw [List.length_append, ← strs_app]
        rfl
      (conv => whnf)
      (refine DrawVC.any Γok (by kernel_rfl) (by kernel_rfl) (by kernel_rfl) (by rfl) ?_; conv => whnf)
      (repeat (first | (refine CallVC.auto rraw_k ⟨ht, ?_⟩; conv => whnf) | (refine Need.mk hcap ?_; conv => whnf) | (exact Out.same; conv => whnf) | (exact Out1.same; conv => whnf) | (refine QAnd.mk ?_ ?_; conv => whnf) | (apply QStepH.go; conv => whnf) | (refine Both.lit_true ?_; conv => whnf) | (refine Both.lit_false ?_; conv => whnf) | (apply QStep.go; conv => whnf) | (refine Need.au ?_; conv => whnf) | (refine ⟨_, rfl, ?_⟩; conv => whnf)))
      refine ⟨(n, rdE e 32 t, rdS e 32 t, acc ++ [rdT e 32 t]), ⟨hI, hA1, hB1⟩, Nat.lt_succ_self n, Weak.auto ?_⟩
      (repeat' ((conv => whnf); first | exact True.intro | (refine And.intro ?_ ?_)))
      all_goals first | rfl | exact .eq rfl | exact congrArg (SV.int .i64) hn1 | exact end1 | exact .eq end1
    · rw [if_neg h2] at hI
      subst hI
      have hap : acc.length ≤ 9223372036854775807 := by omega
      (conv => whnf)
      (repeat (first | (exact Out.same; conv => whnf) | (exact Out1.same; conv => whnf) | (refine QAnd.mk ?_ ?_; conv => whnf) | (apply QStepH.go; conv => whnf) | (refine Both.lit_true ?_; conv => whnf) | (refine Both.lit_false ?_; conv => whnf) | (apply QStep.go; conv => whnf) | (refine Need.au ?_; conv => whnf) | (refine ⟨_, rfl, ?_⟩; conv => whnf)))
      refine ⟨_, Weak.pub 3 2 rfl rfl, ?_⟩
      (conv => whnf)
      (repeat (first | (refine CallVC.auto with_k ⟨acc, rfl, rfl, hap, ?_⟩; conv => whnf) | (exact Out.same; conv => whnf) | (exact Out1.same; conv => whnf) | (refine QAnd.mk ?_ ?_; conv => whnf) | (apply QStepH.go; conv => whnf) | (refine Both.lit_true ?_; conv => whnf) | (refine Both.lit_false ?_; conv => whnf) | (apply QStep.go; conv => whnf) | (refine Need.au ?_; conv => whnf) | (refine ⟨_, rfl, ?_⟩; conv => whnf)))
      by_cases hok : okLf ⟨(A.1 : Int), (B.1 : Int), K.1, V.1, acc⟩
      · have c1 : (!decide (okLf ⟨(A.1 : Int), (B.1 : Int), K.1, V.1, acc⟩)) = false := by rw [decide_eq_true hok]; rfl
        rw [if_pos hok] at h
        (repeat (first | (refine Both.of_false c1 ?_; conv => whnf) | (refine Need.mk ⟨rfl, rfl, far5⟩ ?_; conv => whnf) | (exact Out.same; conv => whnf) | (exact Out1.same; conv => whnf) | (refine QAnd.mk ?_ ?_; conv => whnf) | (apply QStepH.go; conv => whnf) | (refine Both.lit_true ?_; conv => whnf) | (refine Both.lit_false ?_; conv => whnf) | (apply QStep.go; conv => whnf) | (refine Need.au ?_; conv => whnf) | (refine ⟨_, rfl, ?_⟩; conv => whnf)))
        refine ⟨_, _, WeakV.auto ?_, h⟩
        (repeat' ((conv => whnf); first | exact True.intro | (refine And.intro ?_ ?_)))
        all_goals first | rfl | exact .eq rfl
      · have c1 : (!decide (okLf ⟨(A.1 : Int), (B.1 : Int), K.1, V.1, acc⟩)) = true := by rw [decide_eq_false hok]; rfl
        rw [if_neg hok] at h
        (repeat (first | (refine Both.of_true c1 ?_; conv => whnf) | (exact Out.same; conv => whnf) | (exact Out1.same; conv => whnf) | (refine QAnd.mk ?_ ?_; conv => whnf) | (apply QStepH.go; conv => whnf) | (refine Both.lit_true ?_; conv => whnf) | (refine Both.lit_false ?_; conv => whnf) | (apply QStep.go; conv => whnf) | (refine Need.au ?_; conv => whnf) | (refine ⟨_, rfl, ?_⟩; conv => whnf)))
        refine CallVC.auto failA_k (fun e' he' => ?_)
        subst he'
        (conv => whnf)
        (repeat (first | (refine Need.mk ⟨rfl, rfl, far5⟩ ?_; conv => whnf) | (exact Out.same; conv => whnf) | (exact Out1.same; conv => whnf) | (refine QAnd.mk ?_ ?_; conv => whnf) | (apply QStepH.go; conv => whnf) | (refine Both.lit_true ?_; conv => whnf) | (refine Both.lit_false ?_; conv => whnf) | (apply QStep.go; conv => whnf) | (refine Need.au ?_; conv => whnf) | (refine ⟨_, rfl, ?_⟩; conv => whnf)))
        refine ⟨_, _, WeakV.auto ?_, h⟩
        (repeat' ((conv => whnf); first | exact True.intro | (refine And.intro ?_ ?_)))
        all_goals first | rfl | exact .eq rfl
  · obtain rfl : n = 0 := by omega
    rw [pathF] at hI
    subst hI
    have hap : acc.length ≤ 9223372036854775807 := by omega
    (conv => whnf)
    (repeat (first | (exact Out.same; conv => whnf) | (exact Out1.same; conv => whnf) | (refine QAnd.mk ?_ ?_; conv => whnf) | (apply QStepH.go; conv => whnf) | (refine Both.lit_true ?_; conv => whnf) | (refine Both.lit_false ?_; conv => whnf) | (apply QStep.go; conv => whnf) | (refine Need.au ?_; conv => whnf) | (refine ⟨_, rfl, ?_⟩; conv => whnf)))
    refine ⟨_, Weak.pub 3 2 rfl rfl, ?_⟩
    (conv => whnf)
    (repeat (first | (refine CallVC.auto with_k ⟨acc, rfl, rfl, hap, ?_⟩; conv => whnf) | (exact Out.same; conv => whnf) | (exact Out1.same; conv => whnf) | (refine QAnd.mk ?_ ?_; conv => whnf) | (apply QStepH.go; conv => whnf) | (refine Both.lit_true ?_; conv => whnf) | (refine Both.lit_false ?_; conv => whnf) | (apply QStep.go; conv => whnf) | (refine Need.au ?_; conv => whnf) | (refine ⟨_, rfl, ?_⟩; conv => whnf)))
    by_cases hok : okLf ⟨(A.1 : Int), (B.1 : Int), K.1, V.1, acc⟩
    · have c1 : (!decide (okLf ⟨(A.1 : Int), (B.1 : Int), K.1, V.1, acc⟩)) = false := by rw [decide_eq_true hok]; rfl
      rw [if_pos hok] at h
      (repeat (first | (refine Both.of_false c1 ?_; conv => whnf) | (refine Need.mk ⟨rfl, rfl, far5⟩ ?_; conv => whnf) | (exact Out.same; conv => whnf) | (exact Out1.same; conv => whnf) | (refine QAnd.mk ?_ ?_; conv => whnf) | (apply QStepH.go; conv => whnf) | (refine Both.lit_true ?_; conv => whnf) | (refine Both.lit_false ?_; conv => whnf) | (apply QStep.go; conv => whnf) | (refine Need.au ?_; conv => whnf) | (refine ⟨_, rfl, ?_⟩; conv => whnf)))
      refine ⟨_, _, WeakV.auto ?_, h⟩
      (repeat' ((conv => whnf); first | exact True.intro | (refine And.intro ?_ ?_)))
      all_goals first | rfl | exact .eq rfl
    · have c1 : (!decide (okLf ⟨(A.1 : Int), (B.1 : Int), K.1, V.1, acc⟩)) = true := by rw [decide_eq_false hok]; rfl
      rw [if_neg hok] at h
      (repeat (first | (refine Both.of_true c1 ?_; conv => whnf) | (exact Out.same; conv => whnf) | (exact Out1.same; conv => whnf) | (refine QAnd.mk ?_ ?_; conv => whnf) | (apply QStepH.go; conv => whnf) | (refine Both.lit_true ?_; conv => whnf) | (refine Both.lit_false ?_; conv => whnf) | (apply QStep.go; conv => whnf) | (refine Need.au ?_; conv => whnf) | (refine ⟨_, rfl, ?_⟩; conv => whnf)))
      refine CallVC.auto failA_k (fun e' he' => ?_)
      subst he'
      (conv => whnf)
      (repeat (first | (refine Need.mk ⟨rfl, rfl, far5⟩ ?_; conv => whnf) | (exact Out.same; conv => whnf) | (exact Out1.same; conv => whnf) | (refine QAnd.mk ?_ ?_; conv => whnf) | (apply QStepH.go; conv => whnf) | (refine Both.lit_true ?_; conv => whnf) | (refine Both.lit_false ?_; conv => whnf) | (apply QStep.go; conv => whnf) | (refine Need.au ?_; conv => whnf) | (refine ⟨_, rfl, ?_⟩; conv => whnf)))
      refine ⟨_, _, WeakV.auto ?_, h⟩
      (repeat' ((conv => whnf); first | exact True.intro | (refine And.intro ?_ ?_)))
      all_goals first | rfl | exact .eq rfl
theorem leaf9_k : Contract Tryz.prog [] 42 leaf9S := ⟨⟨⟨_, rfl, rfl, rfl⟩⟩, leaf9_c⟩
end Go.LX
end
section
set_option maxRecDepth 100000
set_option maxHeartbeats 2000000
set_option autoImplicit false
set_option linter.unusedVariables false
set_option linter.unusedSimpArgs false
namespace Go.LX
open Go.Proofs

theorem leafF_len (e : Int) (s : Bs) : (leafF e s).2.2.length ≤ s.length := by
  unfold leafF
  dsimp only
  have l1 := smallF_len e s
  have l2 := smallF_len (smallF e s).2.1 (smallF e s).2.2
  have l3 := textF_len (smallF (smallF e s).2.1 (smallF e s).2.2).2.1 (smallF (smallF e s).2.1 (smallF e s).2.2).2.2
  have l4 := textF_len (textF (smallF (smallF e s).2.1 (smallF e s).2.2).2.1 (smallF (smallF e s).2.1 (smallF e s).2.2).2.2).2.1 (textF (smallF (smallF e s).2.1 (smallF e s).2.2).2.1 (smallF (smallF e s).2.1 (smallF e s).2.2).2.2).2.2
  refine Nat.le_trans (pathF_len _ _ _ _).1 ?_
  refine Nat.le_trans (byteF_len _ _) ?_
  omega
theorem parse_parts {a : Bool} {L : List Lf} {s : Bs} {A B : Nat × Int × Bs} (hA : byteF 0 s = A) (hB : byteF A.2.1 A.2.2 = B) (hf : fitsX L) (h : bytesX a L = s) : A.1 = (if a then 2 else 1) ∧ B = (L.length, 0, (L.map putL).flatten) := by
  have h1 := (parts_iff hf).1 h
  have l1 := hf.1
  obtain rfl := hA.symm.trans h1
  refine ⟨rfl, ?_⟩
  rw [← hB]
  exact (byte_iff (e := 0) (s := beb L.length 1 ++ (L.map putL).flatten) (s1 := (L.map putL).flatten) (v := L.length)).2 ⟨rfl, by omega, rfl⟩
theorem parse_bad1 {s : Bs} {A B : Nat × Int × Bs} (hA : byteF 0 s = A) (hB : byteF A.2.1 A.2.2 = B) (h : A.1 < 1 ∨ 2 < A.1 ∨ 2 < B.1) : parseV s = ((false, []), 5) := parseV_no fun ⟨r, hf, hr⟩ => by
  obtain ⟨q1, q2⟩ := parse_parts hA hB hf hr
  have l1 := hf.1
  rw [q2] at h
  have h : A.1 < 1 ∨ 2 < A.1 ∨ 2 < r.2.length := h
  cases hr1 : r.1 <;> rw [hr1] at q1 <;> simp at q1 <;> omega
theorem parse_bad2 {s : Bs} {A B : Nat × Int × Bs} {R : List Lf × Int × Bs} (hA : byteF 0 s = A) (hB : byteF A.2.1 A.2.2 = B) (hR : leavesF B.1 B.2.1 B.2.2 [] = R) (h : rdEnd R.2.1 R.2.2 ≠ 0) : parseV s = ((false, []), 5) := parseV_no fun ⟨r, hf, hr⟩ => by
  obtain ⟨q1, q2⟩ := parse_parts hA hB hf hr
  subst q2
  have := (leaves_iff r.2.length 0 ((r.2.map putL).flatten) [] r.2 []).2 ⟨rfl, r.2, rfl, rfl, hf.2, (List.append_nil _).symm⟩
  obtain rfl := hR.symm.trans this
  exact h (end_iff.2 ⟨rfl, rfl⟩)
theorem parse_ok {s : Bs} {A B : Nat × Int × Bs} {R : List Lf × Int × Bs} (hA : byteF 0 s = A) (hB : byteF A.2.1 A.2.2 = B) (hR : leavesF B.1 B.2.1 B.2.2 [] = R) (h1 : 1 ≤ A.1) (h2 : A.1 ≤ 2) (h3 : B.1 ≤ 2) (h : rdEnd R.2.1 R.2.2 = 0) : parseV s = ((decide ((A.1 : Int) = 2), R.1), 0) := by
  obtain ⟨e1, e2⟩ := end_iff.1 h
  have hR2 : leavesF B.1 B.2.1 B.2.2 [] = (R.1, 0, []) := by rw [hR, ← e2]; exact trip e1
  obtain ⟨b0, L, hL, hLl, hok, hs⟩ := (leaves_iff _ _ _ _ _ _).1 hR2
  obtain ⟨a0, bl, az⟩ := byte_iff.1 (hB.trans (trip b0))
  obtain ⟨_, al, ss⟩ := byte_iff.1 (hA.trans (trip a0))
  rw [List.nil_append] at hL
  rw [List.append_nil] at hs
  refine parseV_yes ⟨by rw [hL, hLl]; exact h3, by rw [hL]; exact hok⟩ ?_
  rw [ss, az, hs, hL]
  unfold bytesX
  rw [hLl]
  rcases (show A.1 = 1 ∨ A.1 = 2 by omega) with q | q
  · rw [q]
    rfl
  · rw [q]
    rfl
def pparseS : Spec := fun args H Q => match args, H with
  | [.str s], [] => s.length < 1000000 ∧ ∀ a L e, parseV s = ((a, L), e) → Q (.tuple [prSV a L, .int .i64 e]) []
  | _, _ => False
theorem pparse_c : Meets Tryz.prog [] 19 pparseS := by
  refine meets_of Γok Tryz.func19 rfl ?_
  intro args H Q h
  unfold pparseS at h
  split at h
  case h_2 => exact h.elim
  rename_i s
  obtain ⟨hs, h⟩ := h
  have l1 := byteF_len 0 s
  have hA0 := rdV_lt1 0 s
  obtain ⟨A, hA⟩ : ∃ A, byteF 0 s = A := ⟨_, rfl⟩
  have hA1 : A.1 < 256 := by rw [← hA]; exact hA0
  rw [hA] at l1
  have l2 := byteF_len A.2.1 A.2.2
  have hB0 := rdV_lt1 A.2.1 A.2.2
  obtain ⟨B, hB⟩ : ∃ B, byteF A.2.1 A.2.2 = B := ⟨_, rfl⟩
  have hB1 : B.1 < 256 := by rw [← hB]; exact hB0
  rw [hB] at l2
  obtain ⟨R, hR⟩ : ∃ R, leavesF B.1 B.2.1 B.2.2 [] = R := ⟨_, rfl⟩
  have s1 : A.2.2.length < 1000000 := by omega
  have s2 : B.2.2.length < 1000000 := by omega
  (refine sx_sound Γok _ ?_; conv => whnf)
  (repeat (first | (exact Out.same; conv => whnf) | (exact Out1.same; conv => whnf) | (refine QAnd.mk ?_ ?_; conv => whnf) | (apply QStepH.go; conv => whnf) | (refine Both.lit_true ?_; conv => whnf) | (refine Both.lit_false ?_; conv => whnf) | (apply QStep.go; conv => whnf) | (refine Need.au ?_; conv => whnf) | (refine ⟨_, rfl, ?_⟩; conv => whnf)))
  refine CallVC.auto rnew_k ?_
  (conv => whnf)
  (repeat (first | (exact Out.same; conv => whnf) | (exact Out1.same; conv => whnf) | (refine QAnd.mk ?_ ?_; conv => whnf) | (apply QStepH.go; conv => whnf) | (refine Both.lit_true ?_; conv => whnf) | (refine Both.lit_false ?_; conv => whnf) | (apply QStep.go; conv => whnf) | (refine Need.au ?_; conv => whnf) | (refine ⟨_, rfl, ?_⟩; conv => whnf)))
  refine CallVC.auto rbyteF_k ⟨hs, ?_⟩
  rw [hA]
  (conv => whnf)
  (repeat (first | (exact Out.same; conv => whnf) | (exact Out1.same; conv => whnf) | (refine QAnd.mk ?_ ?_; conv => whnf) | (apply QStepH.go; conv => whnf) | (refine Both.lit_true ?_; conv => whnf) | (refine Both.lit_false ?_; conv => whnf) | (apply QStep.go; conv => whnf) | (refine Need.au ?_; conv => whnf) | (refine ⟨_, rfl, ?_⟩; conv => whnf)))
  refine CallVC.auto rbyteF_k ⟨s1, ?_⟩
  rw [hB]
  (conv => whnf)
  (repeat (first | (exact Out.same; conv => whnf) | (exact Out1.same; conv => whnf) | (refine QAnd.mk ?_ ?_; conv => whnf) | (apply QStepH.go; conv => whnf) | (refine Both.lit_true ?_; conv => whnf) | (refine Both.lit_false ?_; conv => whnf) | (apply QStep.go; conv => whnf) | (refine Need.au ?_; conv => whnf) | (refine ⟨_, rfl, ?_⟩; conv => whnf)))
  refine Both.dec (fun h1 => ?_) (fun h1 => ?_)
  · have h := h _ _ _ (parse_bad1 hA hB (.inl (by omega)))
    (conv => whnf)
    (repeat (first | (exact Out.same; conv => whnf) | (exact Out1.same; conv => whnf) | (refine QAnd.mk ?_ ?_; conv => whnf) | (apply QStepH.go; conv => whnf) | (refine Both.lit_true ?_; conv => whnf) | (refine Both.lit_false ?_; conv => whnf) | (apply QStep.go; conv => whnf) | (refine Need.au ?_; conv => whnf) | (refine ⟨_, rfl, ?_⟩; conv => whnf)))
    exact ⟨_, _, (WeakV.drop rfl).trans (WeakV.val fun E w v => vr_nil2 5), h⟩
  (conv => whnf)
  (repeat (first | (exact Out.same; conv => whnf) | (exact Out1.same; conv => whnf) | (refine QAnd.mk ?_ ?_; conv => whnf) | (apply QStepH.go; conv => whnf) | (refine Both.lit_true ?_; conv => whnf) | (refine Both.lit_false ?_; conv => whnf) | (apply QStep.go; conv => whnf) | (refine Need.au ?_; conv => whnf) | (refine ⟨_, rfl, ?_⟩; conv => whnf)))
  refine Both.dec (fun h2 => ?_) (fun h2 => ?_)
  · have h := h _ _ _ (parse_bad1 hA hB (.inr (.inl (by omega))))
    (conv => whnf)
    (repeat (first | (exact Out.same; conv => whnf) | (exact Out1.same; conv => whnf) | (refine QAnd.mk ?_ ?_; conv => whnf) | (apply QStepH.go; conv => whnf) | (refine Both.lit_true ?_; conv => whnf) | (refine Both.lit_false ?_; conv => whnf) | (apply QStep.go; conv => whnf) | (refine Need.au ?_; conv => whnf) | (refine ⟨_, rfl, ?_⟩; conv => whnf)))
    exact ⟨_, _, (WeakV.drop rfl).trans (WeakV.val fun E w v => vr_nil2 5), h⟩
  (conv => whnf)
  (repeat (first | (exact Out.same; conv => whnf) | (exact Out1.same; conv => whnf) | (refine QAnd.mk ?_ ?_; conv => whnf) | (apply QStepH.go; conv => whnf) | (refine Both.lit_true ?_; conv => whnf) | (refine Both.lit_false ?_; conv => whnf) | (apply QStep.go; conv => whnf) | (refine Need.au ?_; conv => whnf) | (refine ⟨_, rfl, ?_⟩; conv => whnf)))
  refine Both.dec (fun h3 => ?_) (fun h3 => ?_)
  · have h := h _ _ _ (parse_bad1 hA hB (.inr (.inr (by omega))))
    (conv => whnf)
    (repeat (first | (exact Out.same; conv => whnf) | (exact Out1.same; conv => whnf) | (refine QAnd.mk ?_ ?_; conv => whnf) | (apply QStepH.go; conv => whnf) | (refine Both.lit_true ?_; conv => whnf) | (refine Both.lit_false ?_; conv => whnf) | (apply QStep.go; conv => whnf) | (refine Need.au ?_; conv => whnf) | (refine ⟨_, rfl, ?_⟩; conv => whnf)))
    exact ⟨_, _, (WeakV.drop rfl).trans (WeakV.val fun E w v => vr_nil2 5), h⟩
  (conv => whnf)
  (repeat (first | (exact Out.same; conv => whnf) | (exact Out1.same; conv => whnf) | (refine QAnd.mk ?_ ?_; conv => whnf) | (apply QStepH.go; conv => whnf) | (refine Both.lit_true ?_; conv => whnf) | (refine Both.lit_false ?_; conv => whnf) | (apply QStep.go; conv => whnf) | (refine Need.au ?_; conv => whnf) | (refine ⟨_, rfl, ?_⟩; conv => whnf)))
  refine LoopVC.postWeak ?_
  refine loop_rule (fun x : Nat × Int × Bs × List Lf => match x with | (k, e, t, acc) => ⟨[.any, .any, .ptr 0 0, .any, .ptr 1 0, .any, .any, .ptr 2 0, .any, .any, .any, .any, .any, .any, .any, .any, .any, .any, .any, .any, .any, .any, .any, .any, .any, .any, .any, .any, .int .i64 (B.1 : Int), .int .i64 (k : Int), .any, .any, .any, .any, .any, .any, .any, .any, .any, .any, .any, .any, .any, .any], [.cells [.bool false, .nilsl] 42, .cells [.int .i64 e, .str t] 129, .cells [.bool (decide ((A.1 : Int) = 2)), .own 3] 42, .own 50 5 acc.length (flL acc) true]⟩) (fun x => match x with | (k, e, t, acc) => leavesF (B.1 - k) e t acc = R ∧ t.length < 1000000 ∧ acc.length = k ∧ k ≤ B.1) (fun x => match x with | (k, e, t, acc) => B.1 - k) (0, B.2.1, B.2.2, []) ⟨hR, s2, rfl, Nat.zero_le _⟩ ((Weak.ownNil 2 1 50 5 rfl rfl).trans (Weak.auto ?_)) ?_
  · (repeat' ((conv => whnf); first | exact True.intro | (refine And.intro ?_ ?_)))
    all_goals first | rfl | exact .eq rfl
  rintro ⟨k, e, t, acc⟩ ⟨hI, ht, hak, hkB⟩
  (refine sx_sound Γok _ ?_; conv => whnf)
  (repeat (first | (exact Out.same; conv => whnf) | (exact Out1.same; conv => whnf) | (refine QAnd.mk ?_ ?_; conv => whnf) | (apply QStepH.go; conv => whnf) | (refine Both.lit_true ?_; conv => whnf) | (refine Both.lit_false ?_; conv => whnf) | (apply QStep.go; conv => whnf) | (refine Need.au ?_; conv => whnf) | (refine ⟨_, rfl, ?_⟩; conv => whnf)))
  refine Both.dec (fun h4 => ?_) (fun h4 => ?_)
  · have hk1 : IntKind.i64.wrap ((k : Int) + 1) = ((k + 1 : Nat) : Int) := by rw [wrap_i64 (by omega) (by omega)]; rfl
    have hcap : (acc.length + 1) * ti50.bytes ≤ 140737488355328 := by
      show (acc.length + 1) * 72 ≤ _
      omega
    rw [show B.1 - k = (B.1 - (k + 1)) + 1 by omega, leavesF] at hI
    have hA2 : (leafF e t).2.2.length < 1000000 := Nat.lt_of_le_of_lt (leafF_len e t) ht
    have hB2 : (acc ++ [(leafF e t).1]).length = k + 1 := by rw [List.length_append, List.length_singleton, hak]
    have hC2 : k + 1 ≤ B.1 := by omega
    have hD2 : B.1 - (k + 1) < B.1 - k := by omega
    have end1 : LObj.own 50 5 (acc.length + 1) (flL acc ++ [.int .i64 (leafF e t).1.i, .int .i64 (leafF e t).1.c, .str (leafF e t).1.k, .str (leafF e t).1.v, .sl 1 (leafF e t).1.p.length (strs (leafF e t).1.p) false]) true = .own 50 5 (acc ++ [(leafF e t).1]).length (flL (acc ++ [(leafF e t).1])) true := by
      rw [flL_app, flL_one, List.length_append]
      rfl
    (conv => whnf)
    (refine DrawVC.any Γok (by kernel_rfl) (by kernel_rfl) (by kernel_rfl) (by rfl) ?_; conv => whnf)
    (repeat (first | (refine CallVC.auto leaf9_k (Need.mk ht ?_); conv => whnf) | (refine Need.mk hcap ?_; conv => whnf) | (exact Out.same; conv => whnf) | (exact Out1.same; conv => whnf) | (refine QAnd.mk ?_ ?_; conv => whnf) | (apply QStepH.go; conv => whnf) | (refine Both.lit_true ?_; conv => whnf) | (refine Both.lit_false ?_; conv => whnf) | (apply QStep.go; conv => whnf) | (refine Need.au ?_; conv => whnf) | (refine ⟨_, rfl, ?_⟩; conv => whnf)))
    refine ⟨(k + 1, (leafF e t).2.1, (leafF e t).2.2, acc ++ [(leafF e t).1]), ⟨hI, hA2, hB2, hC2⟩, hD2, Weak.auto ?_⟩
    (repeat' ((conv => whnf); first | exact True.intro | (refine And.intro ?_ ?_)))
    all_goals first | rfl | exact .eq rfl | exact congrArg (SV.int .i64) hk1 | exact end1 | exact .eq end1
  have hkB2 : k = B.1 := by omega
  rw [hkB2, Nat.sub_self, leavesF] at hI
  subst hI
  (conv => whnf)
  (repeat (first | (exact Out.same; conv => whnf) | (exact Out1.same; conv => whnf) | (refine QAnd.mk ?_ ?_; conv => whnf) | (apply QStepH.go; conv => whnf) | (refine Both.lit_true ?_; conv => whnf) | (refine Both.lit_false ?_; conv => whnf) | (apply QStep.go; conv => whnf) | (refine Need.au ?_; conv => whnf) | (refine ⟨_, rfl, ?_⟩; conv => whnf)))
  refine ⟨_, Weak.pub 3 2 rfl rfl, ?_⟩
  (conv => whnf)
  (repeat (first | (exact Out.same; conv => whnf) | (exact Out1.same; conv => whnf) | (refine QAnd.mk ?_ ?_; conv => whnf) | (apply QStepH.go; conv => whnf) | (refine Both.lit_true ?_; conv => whnf) | (refine Both.lit_false ?_; conv => whnf) | (apply QStep.go; conv => whnf) | (refine Need.au ?_; conv => whnf) | (refine ⟨_, rfl, ?_⟩; conv => whnf) | (refine CallVC.auto end_k ?_; conv => whnf)))
  refine Both.dec_not (fun h5 => ?_) (fun h5 => ?_)
  · have h := h _ _ _ (parse_bad2 hA hB hR h5)
    (conv => whnf)
    (repeat (first | (exact Out.same; conv => whnf) | (exact Out1.same; conv => whnf) | (refine QAnd.mk ?_ ?_; conv => whnf) | (apply QStepH.go; conv => whnf) | (refine Both.lit_true ?_; conv => whnf) | (refine Both.lit_false ?_; conv => whnf) | (apply QStep.go; conv => whnf) | (refine Need.au ?_; conv => whnf) | (refine ⟨_, rfl, ?_⟩; conv => whnf)))
    exact ⟨_, _, (WeakV.drop rfl).trans (WeakV.val fun E w v => vr_nil2 5), h⟩
  · have h := h _ _ _ (parse_ok hA hB hR (by omega) (by omega) (by omega) h5)
    (conv => whnf)
    (repeat (first | (refine Need.mk ⟨rfl, rfl, far2⟩ ?_; conv => whnf) | (exact Out.same; conv => whnf) | (exact Out1.same; conv => whnf) | (refine QAnd.mk ?_ ?_; conv => whnf) | (apply QStepH.go; conv => whnf) | (refine Both.lit_true ?_; conv => whnf) | (refine Both.lit_false ?_; conv => whnf) | (apply QStep.go; conv => whnf) | (refine Need.au ?_; conv => whnf) | (refine ⟨_, rfl, ?_⟩; conv => whnf)))
    exact ⟨_, _, WeakV.drop rfl, h⟩
theorem pparse_k : Contract Tryz.prog [] 19 pparseS := ⟨⟨⟨_, rfl, rfl, rfl⟩⟩, pparse_c⟩
end Go.LX
end
section
set_option maxRecDepth 100000
set_option maxHeartbeats 4000000
set_option autoImplicit false
set_option linter.unusedVariables false
set_option linter.unusedSimpArgs false
namespace Go.LX
open Go.Proofs

theorem mul_u64 (n : Nat) (b : UInt8) (h : n * 256 + 256 ≤ 18446744073709551616) : IntKind.u64.wrap (IntKind.u64.wrap ((n : Int) * 256) + IntKind.u64.wrap (b.toNat : Int)) = ((n * 256 + b.toNat : Nat) : Int) := by
  have hb := b.toNat_lt
  rw [wrap_u64 (n := (n : Int) * 256) (by omega) (by omega), wrap_u64 (n := (b.toNat : Int)) (by omega) (by omega), wrap_u64 (by omega) (by omega)]
  omega
theorem getD_str (l : List UInt8) {k : Nat} (h : k < l.length) : l.getD ((k : Nat) : Int).toNat 0 = l[k] := by
  rw [Int.toNat_natCast, List.getD_eq_getElem?_getD, List.getElem?_eq_getElem h]
  rfl
def valS : Spec := fun args H Q => match args, H with
  | [.str s], [] => Need (s.length ≤ 8) (Q (.int .u64 (bev s : Int)) [])
  | _, _ => False
theorem val_c : Meets Tryz.prog [] 81 valS := by
  refine meets_of Γok Tryz.func81 rfl ?_
  intro args H Q h
  unfold valS at h
  split at h
  case h_2 => exact h.elim
  rename_i s
  obtain ⟨hs, h⟩ := h
  (refine sx_sound Γok _ ?_; conv => whnf)
  refine loop_rule (fun k : Nat => ⟨[.str s, .any, .any, .int .u64 (bev (s.take k) : Int), .int .i64 (k : Int), .any, .any, .any, .any, .any, .any, .any, .any, .any, .any, .any, .any, .any, .any], []⟩) (fun k => k ≤ s.length) (fun k => s.length - k) 0 (by omega) (Weak.auto ?_) ?_
  · (repeat' ((conv => whnf); first | exact True.intro | (refine And.intro ?_ ?_)))
    all_goals first | rfl | done
  · intro k hk
    (refine sx_sound Γok _ ?_; conv => whnf)
    refine Both.dec (fun hlt => ?_) (fun hge => ?_)
    · have hks : k < s.length := by omega
      (conv => whnf)
      refine Need.mk ⟨by omega, by omega⟩ ?_
      (conv => whnf)
      refine ⟨k + 1, by omega, by omega, Weak.auto ?_⟩
      (repeat' ((conv => whnf); first | exact True.intro | (refine And.intro ?_ ?_)))
      all_goals first | rfl | exact congrArg (SV.int .i64) (by rw [wrap_i64 (by omega) (by omega)]; rfl) | exact congrArg (SV.int .u64) (by rw [getD_str s hks, mul_u64 _ _ (bev_room s hks hs), bev_take s hks])
    · obtain rfl : k = s.length := by omega
      (conv => whnf)
      rw [List.take_length]
      exact ⟨_, _, WeakV.refl _ _ _ _, h⟩
theorem val_k : Contract Tryz.prog [] 81 valS := ⟨⟨⟨_, rfl, rfl, rfl⟩⟩, val_c⟩
def mrd (S : List UInt8) (a : Nat) (e : Int) : List LObj := [.cells [.str S, .int .i64 a, .int .i64 e] 93]
theorem rdOk_of {e n : Int} {s : List UInt8} (h1 : e = 0) (h2 : 0 ≤ n) (h3 : n ≤ s.length) : rdOk e n s = true := decide_eq_true ⟨h1, h2, h3⟩
theorem rdOk_not {e n : Int} {s : List UInt8} (h : ¬ (e = 0 ∧ 0 ≤ n ∧ n ≤ s.length)) : rdOk e n s = false := decide_eq_false h
def takeS : Spec := fun args H Q => match args, H with
  | [.ptr 0 0, .int .i64 n], [.cells [.str S, .int .i64 p, .int .i64 e] 93] => ∃ a : Nat, p = a ∧ a ≤ S.length ∧ S.length < 1000000 ∧
    ∀ a' : Nat, a' ≤ S.length → S.drop a' = rdS e n (S.drop a) → Q (.tuple [.str (rdT e n (S.drop a)), .bool (rdOk e n (S.drop a))]) (mrd S a' (rdE e n (S.drop a)))
  | _, _ => False
theorem take_c : Meets Tryz.prog [] 80 takeS := by
  refine meets_of Γok Tryz.func80 rfl ?_
  intro args H Q h
  unfold takeS at h
  split at h
  case h_2 => exact h.elim
  rename_i n S p e
  obtain ⟨a, rfl, ha, hS, h⟩ := h
  have hdl : (S.drop a).length = S.length - a := by simp
  have bad : ¬ (e = 0 ∧ 0 ≤ n ∧ n ≤ (S.drop a).length) → Q (.tuple [.str [], .bool false]) (mrd S a (if e = 0 then 6 else e)) := by
    intro h0
    have h1 := h a ha (by simp [rdS, rdOk_not h0])
    rw [rdOk_not h0, show rdT e n (S.drop a) = [] by simp [rdT, rdOk_not h0], show rdE e n (S.drop a) = if e = 0 then 6 else e by
      unfold rdE
      by_cases he : e = 0
      · rw [if_pos he, if_pos he, if_neg (by omega)]
      · rw [if_neg he, if_neg he]] at h1
    exact h1
  (refine sx_sound Γok _ ?_; conv => whnf)
  (refine ⟨_, rfl, ?_⟩; conv => whnf)
  refine Both.dec_not (fun he => ?_) (fun he => ?_)
  · (conv => whnf)
    have h1 := bad (by omega)
    rw [if_neg he] at h1
    exact ⟨_, _, WeakV.refl _ _ _ _, h1⟩
  · subst he
    (conv => whnf)
    (refine DrawVC.all Γok (by kernel_rfl) (by kernel_rfl) ?_; conv => whnf)
    have h1 := fun h0 => bad h0
    rw [if_pos rfl] at h1
    (repeat (first | (exact Out.same; conv => whnf) | (exact Out1.same; conv => whnf) | (refine QAnd.mk ?_ ?_; conv => whnf) | (apply QStepH.go; conv => whnf) | (refine Both.lit_true ?_; conv => whnf) | (refine Both.lit_false ?_; conv => whnf) | (apply QStep.go; conv => whnf) | (refine Need.mk ?_ ?_; (focus (first | omega | exact ⟨by omega, by omega⟩ | rfl | exact ⟨rfl, rfl⟩ | exact ⟨rfl, Nat.le_of_ble_eq_true rfl⟩ | exact Nat.le_of_ble_eq_true rfl | (refine ⟨rfl, rfl, ?_⟩; simp [isFar, ofV0, CV.up, SV.renL, SV.ren] <;> fail) | (refine ⟨rfl, Nat.le_of_ble_eq_true rfl, ?_⟩; simp [isFar, ofV0, CV.up, SV.renL, SV.ren] <;> fail) | (simp <;> fail))); conv => whnf)))
    refine Both.dec (fun h0 => ?_) (fun h0 => ?_)
    · (conv => whnf)
      (repeat (first | (exact Out.same; conv => whnf) | (exact Out1.same; conv => whnf) | (refine QAnd.mk ?_ ?_; conv => whnf) | (apply QStepH.go; conv => whnf) | (refine Both.lit_true ?_; conv => whnf) | (refine Both.lit_false ?_; conv => whnf) | (apply QStep.go; conv => whnf) | (refine Need.mk ?_ ?_; (focus (first | omega | exact ⟨by omega, by omega⟩ | rfl | exact ⟨rfl, rfl⟩ | exact ⟨rfl, Nat.le_of_ble_eq_true rfl⟩ | exact Nat.le_of_ble_eq_true rfl | (refine ⟨rfl, rfl, ?_⟩; simp [isFar, ofV0, CV.up, SV.renL, SV.ren] <;> fail) | (refine ⟨rfl, Nat.le_of_ble_eq_true rfl, ?_⟩; simp [isFar, ofV0, CV.up, SV.renL, SV.ren] <;> fail) | (simp <;> fail))); conv => whnf)))
      exact ⟨_, _, WeakV.refl _ _ _ _, h1 (by omega)⟩
    · (conv => whnf)
      (repeat (first | (exact Out.same; conv => whnf) | (exact Out1.same; conv => whnf) | (refine QAnd.mk ?_ ?_; conv => whnf) | (apply QStepH.go; conv => whnf) | (refine Both.lit_true ?_; conv => whnf) | (refine Both.lit_false ?_; conv => whnf) | (apply QStep.go; conv => whnf) | (refine Need.mk ?_ ?_; (focus (first | omega | exact ⟨by omega, by omega⟩ | rfl | exact ⟨rfl, rfl⟩ | exact ⟨rfl, Nat.le_of_ble_eq_true rfl⟩ | exact Nat.le_of_ble_eq_true rfl | (refine ⟨rfl, rfl, ?_⟩; simp [isFar, ofV0, CV.up, SV.renL, SV.ren] <;> fail) | (refine ⟨rfl, Nat.le_of_ble_eq_true rfl, ?_⟩; simp [isFar, ofV0, CV.up, SV.renL, SV.ren] <;> fail) | (simp <;> fail))); conv => whnf)))
      (refine ⟨_, rfl, ?_⟩; conv => whnf)
      (repeat (first | (exact Out.same; conv => whnf) | (exact Out1.same; conv => whnf) | (refine QAnd.mk ?_ ?_; conv => whnf) | (apply QStepH.go; conv => whnf) | (refine Both.lit_true ?_; conv => whnf) | (refine Both.lit_false ?_; conv => whnf) | (apply QStep.go; conv => whnf) | (refine Need.mk ?_ ?_; (focus (first | omega | exact ⟨by omega, by omega⟩ | rfl | exact ⟨rfl, rfl⟩ | exact ⟨rfl, Nat.le_of_ble_eq_true rfl⟩ | exact Nat.le_of_ble_eq_true rfl | (refine ⟨rfl, rfl, ?_⟩; simp [isFar, ofV0, CV.up, SV.renL, SV.ren] <;> fail) | (refine ⟨rfl, Nat.le_of_ble_eq_true rfl, ?_⟩; simp [isFar, ofV0, CV.up, SV.renL, SV.ren] <;> fail) | (simp <;> fail))); conv => whnf)))
      (refine ⟨_, rfl, ?_⟩; conv => whnf)
      (repeat (first | (exact Out.same; conv => whnf) | (exact Out1.same; conv => whnf) | (refine QAnd.mk ?_ ?_; conv => whnf) | (apply QStepH.go; conv => whnf) | (refine Both.lit_true ?_; conv => whnf) | (refine Both.lit_false ?_; conv => whnf) | (apply QStep.go; conv => whnf) | (refine Need.mk ?_ ?_; (focus (first | omega | exact ⟨by omega, by omega⟩ | rfl | exact ⟨rfl, rfl⟩ | exact ⟨rfl, Nat.le_of_ble_eq_true rfl⟩ | exact Nat.le_of_ble_eq_true rfl | (refine ⟨rfl, rfl, ?_⟩; simp [isFar, ofV0, CV.up, SV.renL, SV.ren] <;> fail) | (refine ⟨rfl, Nat.le_of_ble_eq_true rfl, ?_⟩; simp [isFar, ofV0, CV.up, SV.renL, SV.ren] <;> fail) | (simp <;> fail))); conv => whnf)))
      rw [wrap_i64 (n := (S.length : Int) - a) (by omega) (by omega)]
      refine Both.dec (fun h2 => ?_) (fun h2 => ?_)
      · (conv => whnf)
        (repeat (first | (exact Out.same; conv => whnf) | (exact Out1.same; conv => whnf) | (refine QAnd.mk ?_ ?_; conv => whnf) | (apply QStepH.go; conv => whnf) | (refine Both.lit_true ?_; conv => whnf) | (refine Both.lit_false ?_; conv => whnf) | (apply QStep.go; conv => whnf) | (refine Need.mk ?_ ?_; (focus (first | omega | exact ⟨by omega, by omega⟩ | rfl | exact ⟨rfl, rfl⟩ | exact ⟨rfl, Nat.le_of_ble_eq_true rfl⟩ | exact Nat.le_of_ble_eq_true rfl | (refine ⟨rfl, rfl, ?_⟩; simp [isFar, ofV0, CV.up, SV.renL, SV.ren] <;> fail) | (refine ⟨rfl, Nat.le_of_ble_eq_true rfl, ?_⟩; simp [isFar, ofV0, CV.up, SV.renL, SV.ren] <;> fail) | (simp <;> fail))); conv => whnf)))
        exact ⟨_, _, WeakV.refl _ _ _ _, h1 (by omega)⟩
      · (conv => whnf)
        (repeat (first | (exact Out.same; conv => whnf) | (exact Out1.same; conv => whnf) | (refine QAnd.mk ?_ ?_; conv => whnf) | (apply QStepH.go; conv => whnf) | (refine Both.lit_true ?_; conv => whnf) | (refine Both.lit_false ?_; conv => whnf) | (apply QStep.go; conv => whnf) | (refine Need.mk ?_ ?_; (focus (first | omega | exact ⟨by omega, by omega⟩ | rfl | exact ⟨rfl, rfl⟩ | exact ⟨rfl, Nat.le_of_ble_eq_true rfl⟩ | exact Nat.le_of_ble_eq_true rfl | (refine ⟨rfl, rfl, ?_⟩; simp [isFar, ofV0, CV.up, SV.renL, SV.ren] <;> fail) | (refine ⟨rfl, Nat.le_of_ble_eq_true rfl, ?_⟩; simp [isFar, ofV0, CV.up, SV.renL, SV.ren] <;> fail) | (simp <;> fail))); conv => whnf)))
        obtain ⟨m, rfl⟩ : ∃ m : Nat, n = m := ⟨n.toNat, by omega⟩
        have hok : rdOk 0 m (S.drop a) = true := rdOk_of rfl (by omega) (by omega)
        have h3 := h (a + m) (by omega) (by simp [rdS, hok])
        rw [hok, show rdT 0 m (S.drop a) = (S.drop a).take m by simp [rdT, hok], show rdE 0 m (S.drop a) = 0 by unfold rdE; rw [if_pos rfl, if_pos (by omega)]] at h3
        (refine ⟨_, rfl, ?_⟩; conv => whnf)
        rw [wrap_i64 (n := (a : Int) + m) (by omega) (by omega)]
        have hw : IntKind.i64.wrap ((a : Int) + m - m) = a := by rw [wrap_i64 (by omega) (by omega)]; omega
        (repeat (first | (refine Both.lit_true ?_; conv => whnf) | (refine Both.lit_false ?_; conv => whnf) | (refine Need.mk ?_ ?_; (focus (first | omega | exact ⟨by omega, by omega⟩ | rfl | exact ⟨rfl, rfl⟩ | exact ⟨rfl, Nat.le_of_ble_eq_true rfl⟩ | exact Nat.le_of_ble_eq_true rfl | (refine ⟨rfl, rfl, ?_⟩; simp [isFar, ofV0, CV.up, SV.renL, SV.ren] <;> fail) | (refine ⟨rfl, Nat.le_of_ble_eq_true rfl, ?_⟩; simp [isFar, ofV0, CV.up, SV.renL, SV.ren] <;> fail) | (simp <;> fail))); conv => whnf)))
        (refine DrawVC.all Γok (by kernel_rfl) (by kernel_rfl) ?_; conv => whnf)
        (repeat (first | (exact Out.same; conv => whnf) | (exact Out1.same; conv => whnf) | (refine QAnd.mk ?_ ?_; conv => whnf) | (apply QStepH.go; conv => whnf) | (refine Both.lit_true ?_; conv => whnf) | (refine Both.lit_false ?_; conv => whnf) | (apply QStep.go; conv => whnf) | (refine Need.mk ?_ ?_; (focus (first | omega | exact ⟨by omega, by omega⟩ | rfl | exact ⟨rfl, rfl⟩ | exact ⟨rfl, Nat.le_of_ble_eq_true rfl⟩ | exact Nat.le_of_ble_eq_true rfl | (refine ⟨rfl, rfl, ?_⟩; simp [isFar, ofV0, CV.up, SV.renL, SV.ren] <;> fail) | (refine ⟨rfl, Nat.le_of_ble_eq_true rfl, ?_⟩; simp [isFar, ofV0, CV.up, SV.renL, SV.ren] <;> fail) | (simp <;> fail))); conv => whnf)))
        (refine ⟨_, rfl, ?_⟩; conv => whnf)
        (repeat (first | (exact Out.same; conv => whnf) | (exact Out1.same; conv => whnf) | (refine QAnd.mk ?_ ?_; conv => whnf) | (apply QStepH.go; conv => whnf) | (refine Both.lit_true ?_; conv => whnf) | (refine Both.lit_false ?_; conv => whnf) | (apply QStep.go; conv => whnf) | (refine Need.mk ?_ ?_; (focus (first | omega | exact ⟨by omega, by omega⟩ | rfl | exact ⟨rfl, rfl⟩ | exact ⟨rfl, Nat.le_of_ble_eq_true rfl⟩ | exact Nat.le_of_ble_eq_true rfl | (refine ⟨rfl, rfl, ?_⟩; simp [isFar, ofV0, CV.up, SV.renL, SV.ren] <;> fail) | (refine ⟨rfl, Nat.le_of_ble_eq_true rfl, ?_⟩; simp [isFar, ofV0, CV.up, SV.renL, SV.ren] <;> fail) | (simp <;> fail))); conv => whnf)))
        (refine ⟨_, rfl, ?_⟩; conv => whnf)
        (repeat (first | (exact Out.same; conv => whnf) | (exact Out1.same; conv => whnf) | (refine QAnd.mk ?_ ?_; conv => whnf) | (apply QStepH.go; conv => whnf) | (refine Both.lit_true ?_; conv => whnf) | (refine Both.lit_false ?_; conv => whnf) | (apply QStep.go; conv => whnf) | (refine Need.mk ?_ ?_; (focus (first | omega | exact ⟨by omega, by omega⟩ | rfl | exact ⟨rfl, rfl⟩ | exact ⟨rfl, Nat.le_of_ble_eq_true rfl⟩ | exact Nat.le_of_ble_eq_true rfl | (refine ⟨rfl, rfl, ?_⟩; simp [isFar, ofV0, CV.up, SV.renL, SV.ren] <;> fail) | (refine ⟨rfl, Nat.le_of_ble_eq_true rfl, ?_⟩; simp [isFar, ofV0, CV.up, SV.renL, SV.ren] <;> fail) | (simp <;> fail))); conv => whnf)))
        (refine ⟨_, rfl, ?_⟩; conv => whnf)
        (repeat (first | (exact Out.same; conv => whnf) | (exact Out1.same; conv => whnf) | (refine QAnd.mk ?_ ?_; conv => whnf) | (apply QStepH.go; conv => whnf) | (refine Both.lit_true ?_; conv => whnf) | (refine Both.lit_false ?_; conv => whnf) | (apply QStep.go; conv => whnf) | (refine Need.mk ?_ ?_; (focus (first | omega | exact ⟨by omega, by omega⟩ | rfl | exact ⟨rfl, rfl⟩ | exact ⟨rfl, Nat.le_of_ble_eq_true rfl⟩ | exact Nat.le_of_ble_eq_true rfl | (refine ⟨rfl, rfl, ?_⟩; simp [isFar, ofV0, CV.up, SV.renL, SV.ren] <;> fail) | (refine ⟨rfl, Nat.le_of_ble_eq_true rfl, ?_⟩; simp [isFar, ofV0, CV.up, SV.renL, SV.ren] <;> fail) | (simp <;> fail))); conv => whnf)))
        refine ⟨_, _, WeakV.auto ?_, h3⟩
        (repeat' ((conv => whnf); first | exact True.intro | (refine And.intro ?_ ?_)))
        · refine congrArg (fun x => SV.tuple [.str x, .bool true]) ?_
          rw [hw, show ((a : Int) + m).toNat = a + m by omega, Int.toNat_natCast, List.drop_take]
          congr 1
          omega
        all_goals first | rfl | exact .eq rfl | skip
theorem take_k : Contract Tryz.prog [] 80 takeS := ⟨⟨⟨_, rfl, rfl, rfl⟩⟩, take_c⟩
end Go.LX
end
section
set_option maxRecDepth 100000
set_option maxHeartbeats 4000000
set_option autoImplicit false
set_option linter.unusedVariables false
set_option linter.unusedSimpArgs false
namespace Go.LX
open Go.Proofs

structure Call where
  kind : Int
  k : Int
  n : BitVec 64
  s : List UInt8
def doV (c : Call) (e : Int) (s : List UInt8) : Nat := if c.kind = 0 then rdV e 1 s else if c.kind = 1 then rdV e 8 s else 0
def doT (c : Call) (e : Int) (s : List UInt8) : List UInt8 := if c.kind = 2 then rdT (rdE e 2 s) (rdV e 2 s) (rdS e 2 s) else if c.kind = 3 then rdT e c.k s else []
def doE (c : Call) (e : Int) (s : List UInt8) : Int := if c.kind = 0 then rdE e 1 s else if c.kind = 1 then rdE e 8 s else if c.kind = 2 then rdE (rdE e 2 s) (rdV e 2 s) (rdS e 2 s) else if c.kind = 3 then rdE e c.k s else if e = 0 then c.k else e
def doS (c : Call) (e : Int) (s : List UInt8) : List UInt8 := if c.kind = 0 then rdS e 1 s else if c.kind = 1 then rdS e 8 s else if c.kind = 2 then rdS (rdE e 2 s) (rdV e 2 s) (rdS e 2 s) else if c.kind = 3 then rdS e c.k s else s
theorem rd_bad {e n : Int} {s : List UInt8} (h : e ≠ 0) : rdOk e n s = false ∧ rdT e n s = [] ∧ rdE e n s = e ∧ rdS e n s = s := by
  have h1 : rdOk e n s = false := rdOk_not (by omega)
  exact ⟨h1, by simp [rdT, h1], by simp [rdE, h], by simp [rdS, h1]⟩
theorem rdE_ok {e n : Int} {s : List UInt8} : rdOk e n s = decide (rdE e n s = 0) := by
  unfold rdOk rdE
  by_cases he : e = 0
  · subst he
    by_cases h : 0 ≤ n ∧ n ≤ (s.length : Int) <;> simp [h]
  · simp [he]
def mdoS : Spec := fun args H Q => match args, H with
  | [.ptr 0 0, .agg [.int .i64 kind, .int .i64 k, .int .u64 n, .str t]], [.cells [.str S, .int .i64 p, .int .i64 e] 93] => ∃ (a : Nat) (c : Call), kind = c.kind ∧ k = c.k ∧ p = a ∧ a ≤ S.length ∧ S.length < 1000000 ∧
    ∀ a' : Nat, a' ≤ S.length → S.drop a' = doS c e (S.drop a) → Q (.tuple [.int .u64 (doV c e (S.drop a) : Int), .str (doT c e (S.drop a))]) (mrd S a' (doE c e (S.drop a)))
  | _, _ => False
theorem mdo_c : Meets Tryz.prog [] 49 mdoS := by
  refine meets_of Γok Tryz.func49 rfl ?_
  intro args H Q h
  unfold mdoS at h
  split at h
  case h_2 => exact h.elim
  rename_i kind k n t S p e
  obtain ⟨a, c, rfl, rfl, rfl, ha, hS, h⟩ := h
  (refine sx_sound Γok _ ?_; conv => whnf)
  (refine ⟨_, rfl, ?_⟩; conv => whnf)
  refine Both.dec (fun h0 => ?_) (fun h0 => ?_)
  · (conv => whnf)
    refine CallVC.auto take_k ?_
    refine ⟨a, rfl, ha, hS, fun a' ha' hd => ?_⟩
    have h1 := h a' ha' (by simp [doS, h0, hd])
    simp only [doV, doT, doE, h0, if_true, if_false] at h1
    (conv => whnf)
    (repeat (first | (exact Out.same; conv => whnf) | (exact Out1.same; conv => whnf) | (refine QAnd.mk ?_ ?_; conv => whnf) | (apply QStepH.go; conv => whnf) | (refine Both.lit_true ?_; conv => whnf) | (refine Both.lit_false ?_; conv => whnf) | (apply QStep.go; conv => whnf) | (refine Need.au ?_; conv => whnf) | (refine ⟨_, rfl, ?_⟩; conv => whnf) | (refine CallVC.auto val_k ?_; conv => whnf)))
    have hl := rdT_len e 1 (S.drop a)
    refine Need.mk (by omega) ?_
    (conv => whnf)
    refine ⟨_, _, WeakV.auto ?_, h1⟩
    (repeat' ((conv => whnf); first | exact True.intro | (refine And.intro ?_ ?_)))
    all_goals first | rfl | exact .eq rfl | skip
  · (conv => whnf)
    refine Both.dec (fun h1 => ?_) (fun h1 => ?_)
    · (conv => whnf)
      refine CallVC.auto take_k ?_
      refine ⟨a, rfl, ha, hS, fun a' ha' hd => ?_⟩
      have h2 := h a' ha' (by simp [doS, h1, hd])
      simp only [doV, doT, doE, h1, if_true, if_false, reduceCtorEq, Int.reduceEq] at h2
      (conv => whnf)
      have hl := rdT_len e 8 (S.drop a)
      (repeat (first | (exact Out.same; conv => whnf) | (exact Out1.same; conv => whnf) | (refine QAnd.mk ?_ ?_; conv => whnf) | (apply QStepH.go; conv => whnf) | (refine Both.lit_true ?_; conv => whnf) | (refine Both.lit_false ?_; conv => whnf) | (apply QStep.go; conv => whnf) | (refine Need.au ?_; conv => whnf) | (refine ⟨_, rfl, ?_⟩; conv => whnf) | (refine CallVC.auto val_k ?_; conv => whnf)))
      refine ⟨_, _, WeakV.auto ?_, h2⟩
      (repeat' ((conv => whnf); first | exact True.intro | (refine And.intro ?_ ?_)))
      all_goals first | rfl | exact .eq rfl
    · (conv => whnf)
      refine Both.dec (fun h2 => ?_) (fun h2 => ?_)
      · (conv => whnf)
        refine CallVC.auto take_k ?_
        refine ⟨a, rfl, ha, hS, fun a1 ha1 hd1 => ?_⟩
        (conv => whnf)
        refine Both.cases (fun h3 => ?_) (fun h3 => ?_)
        · have hne : rdE e 2 (S.drop a) ≠ 0 := by
            intro h4
            rw [rdE_ok, h4] at h3
            simp at h3
          have ht : rdT e 2 (S.drop a) = [] := by
            rw [rdT, if_neg]
            simpa using h3
          obtain ⟨_, b1, b2, b3⟩ := rd_bad (n := (rdV e 2 (S.drop a) : Int)) (s := rdS e 2 (S.drop a)) hne
          have h4 := h a1 ha1 (by simp [doS, h2, hd1, b3])
          simp only [doV, doT, doE, h2, if_true, if_false, reduceCtorEq, Int.reduceEq, b1, b2] at h4
          (conv => whnf)
          refine ⟨_, _, WeakV.auto ?_, h4⟩
          (repeat' ((conv => whnf); first | exact True.intro | (refine And.intro ?_ ?_)))
          all_goals first | rfl | exact .eq rfl
        · (conv => whnf)
          have hl := rdT_len e 2 (S.drop a)
          (repeat (first | (exact Out.same; conv => whnf) | (exact Out1.same; conv => whnf) | (refine QAnd.mk ?_ ?_; conv => whnf) | (apply QStepH.go; conv => whnf) | (refine Both.lit_true ?_; conv => whnf) | (refine Both.lit_false ?_; conv => whnf) | (apply QStep.go; conv => whnf) | (refine Need.au ?_; conv => whnf) | (refine ⟨_, rfl, ?_⟩; conv => whnf) | (refine CallVC.auto val_k ?_; conv => whnf)))
          have hv := rdV_lt2 e (S.drop a)
          rw [show IntKind.i64.wrap (bev (rdT e 2 (S.drop a)) : Int) = (rdV e 2 (S.drop a) : Int) from wrap_i64 (n := (rdV e 2 (S.drop a) : Int)) (by omega) (by omega)]
          refine CallVC.auto take_k ?_
          refine ⟨a1, rfl, ha1, hS, fun a2 ha2 hd2 => ?_⟩
          rw [hd1] at hd2 ⊢
          have h4 := h a2 ha2 (by simp [doS, h2, hd2])
          simp only [doV, doT, doE, h2, if_true, if_false, reduceCtorEq, Int.reduceEq] at h4
          (conv => whnf)
          refine ⟨_, _, WeakV.auto ?_, h4⟩
          (repeat' ((conv => whnf); first | exact True.intro | (refine And.intro ?_ ?_)))
          all_goals first | rfl | exact .eq rfl
      · (conv => whnf)
        refine Both.dec (fun h3 => ?_) (fun h3 => ?_)
        · (conv => whnf)
          (refine ⟨_, rfl, ?_⟩; conv => whnf)
          refine CallVC.auto take_k ?_
          refine ⟨a, rfl, ha, hS, fun a' ha' hd => ?_⟩
          have h4 := h a' ha' (by simp [doS, h3, hd])
          simp only [doV, doT, doE, h3, if_true, if_false, reduceCtorEq, Int.reduceEq] at h4
          (conv => whnf)
          refine ⟨_, _, WeakV.auto ?_, h4⟩
          (repeat' ((conv => whnf); first | exact True.intro | (refine And.intro ?_ ?_)))
          all_goals first | rfl | exact .eq rfl
        · (conv => whnf)
          have h4 := h a ha (by simp [doS, h0, h1, h2, h3])
          simp only [doV, doT, doE, h0, h1, h2, h3, if_true, if_false] at h4
          (refine ⟨_, rfl, ?_⟩; conv => whnf)
          refine Both.dec (fun he => ?_) (fun he => ?_)
          · (conv => whnf)
            rw [if_pos he] at h4
            (repeat (first | (exact Out.same; conv => whnf) | (exact Out1.same; conv => whnf) | (refine QAnd.mk ?_ ?_; conv => whnf) | (apply QStepH.go; conv => whnf) | (refine Both.lit_true ?_; conv => whnf) | (refine Both.lit_false ?_; conv => whnf) | (apply QStep.go; conv => whnf) | (refine Need.au ?_; conv => whnf) | (refine ⟨_, rfl, ?_⟩; conv => whnf)))
            refine ⟨_, _, WeakV.auto ?_, h4⟩
            (repeat' ((conv => whnf); first | exact True.intro | (refine And.intro ?_ ?_)))
            all_goals first | rfl | exact .eq rfl
          · (conv => whnf)
            rw [if_neg he] at h4
            refine ⟨_, _, WeakV.auto ?_, h4⟩
            (repeat' ((conv => whnf); first | exact True.intro | (refine And.intro ?_ ?_)))
            all_goals first | rfl | exact .eq rfl
theorem mdo_k : Contract Tryz.prog [] 49 mdoS := ⟨⟨⟨_, rfl, rfl, rfl⟩⟩, mdo_c⟩
end Go.LX
end
section
set_option maxRecDepth 100000
set_option maxHeartbeats 2000000
set_option autoImplicit false
set_option linter.unusedVariables false
set_option linter.unusedSimpArgs false
namespace Go.LX
open Go.Proofs

def mdoKS : Spec := fun args H Q => match args, H with
  | [.ptr 0 0, .agg [.int .i64 kind, .int .i64 k, .int .u64 n, .str t]], [.cells [.str S, .int .i64 p, .int .i64 e] 93] => ∃ a : Nat, p = a ∧ a ≤ S.length ∧ S.length < 1000000 ∧
    ((kind = 0 ∧ ∀ a' : Nat, a' ≤ S.length → S.drop a' = (byteF e (S.drop a)).2.2 → Q (.tuple [.int .u64 ((byteF e (S.drop a)).1 : Int), .str []]) (mrd S a' (byteF e (S.drop a)).2.1)) ∨
     (kind = 1 ∧ ∀ a' : Nat, a' ≤ S.length → S.drop a' = rdS e 8 (S.drop a) → Q (.tuple [.int .u64 (rdV e 8 (S.drop a) : Int), .str []]) (mrd S a' (rdE e 8 (S.drop a)))) ∨
     (kind = 2 ∧ ∀ a' : Nat, a' ≤ S.length → S.drop a' = (textF e (S.drop a)).2.2 → Q (.tuple [.int .u64 0, .str (textF e (S.drop a)).1]) (mrd S a' (textF e (S.drop a)).2.1)) ∨
     (kind = 3 ∧ k = 32 ∧ ∀ a' : Nat, a' ≤ S.length → S.drop a' = rdS e 32 (S.drop a) → Q (.tuple [.int .u64 0, .str (rdT e 32 (S.drop a))]) (mrd S a' (rdE e 32 (S.drop a)))))
  | _, _ => False
theorem mdoK_k : Contract Tryz.prog [] 49 mdoKS := mdo_k.imp fun args H Q h => by
  unfold mdoKS at h
  split at h
  case h_2 => exact h.elim
  rename_i kind k n t S p e
  obtain ⟨a, rfl, ha, hS, h⟩ := h
  rcases h with ⟨rfl, h⟩ | ⟨rfl, h⟩ | ⟨rfl, h⟩ | ⟨rfl, rfl, h⟩
  · exact ⟨a, ⟨0, k, 0#64, []⟩, rfl, rfl, rfl, ha, hS, h⟩
  · exact ⟨a, ⟨1, k, 0#64, []⟩, rfl, rfl, rfl, ha, hS, h⟩
  · exact ⟨a, ⟨2, k, 0#64, []⟩, rfl, rfl, rfl, ha, hS, h⟩
  · exact ⟨a, ⟨3, 32, 0#64, []⟩, rfl, rfl, rfl, ha, hS, h⟩
def numF (e : Int) (s : Bs) : Nat × Int × Bs := (rdV e 8 s % 1000000, rdE e 8 s, rdS e 8 s)
def dbyteS : Spec := fun args H Q => match args, H with
  | [.ptr 0 0], [.cells [.str S, .int .i64 p, .int .i64 e] 93] => ∃ a : Nat, p = a ∧ a ≤ S.length ∧ S.length < 1000000 ∧
    ∀ a' : Nat, a' ≤ S.length → S.drop a' = (byteF e (S.drop a)).2.2 → Q (.int .i64 ((byteF e (S.drop a)).1 : Int)) (mrd S a' (byteF e (S.drop a)).2.1)
  | _, _ => False
theorem dbyte_c : Meets Tryz.prog [] 46 dbyteS := by
  refine meets_of Γok Tryz.func46 rfl ?_
  intro args H Q h
  unfold dbyteS at h
  split at h
  case h_2 => exact h.elim
  rename_i S p e
  obtain ⟨a, rfl, ha, hS, h⟩ := h
  have hv := rdV_lt1 e (S.drop a)
  have hw : IntKind.i64.wrap (((byteF e (S.drop a)).1 : Nat) : Int) = (((byteF e (S.drop a)).1 : Nat) : Int) := wrap_i64 (by omega) (by have : (byteF e (S.drop a)).1 = rdV e 1 (S.drop a) := rfl; omega)
  (refine sx_sound Γok _ ?_; conv => whnf)
  (repeat (first | (exact Out.same; conv => whnf) | (exact Out1.same; conv => whnf) | (refine QAnd.mk ?_ ?_; conv => whnf) | (apply QStepH.go; conv => whnf) | (refine Both.lit_true ?_; conv => whnf) | (refine Both.lit_false ?_; conv => whnf) | (apply QStep.go; conv => whnf) | (refine Need.au ?_; conv => whnf) | (refine ⟨_, rfl, ?_⟩; conv => whnf)))
  refine CallVC.auto mdoK_k ⟨a, rfl, ha, hS, .inl ⟨rfl, fun a' ha' hd => ?_⟩⟩
  have h := h a' ha' hd
  (conv => whnf)
  (repeat (first | (exact Out.same; conv => whnf) | (exact Out1.same; conv => whnf) | (refine QAnd.mk ?_ ?_; conv => whnf) | (apply QStepH.go; conv => whnf) | (refine Both.lit_true ?_; conv => whnf) | (refine Both.lit_false ?_; conv => whnf) | (apply QStep.go; conv => whnf) | (refine Need.au ?_; conv => whnf) | (refine ⟨_, rfl, ?_⟩; conv => whnf)))
  refine ⟨_, _, WeakV.auto ?_, h⟩
  (repeat' ((conv => whnf); first | exact True.intro | (refine And.intro ?_ ?_)))
  all_goals first | rfl | exact .eq rfl | exact congrArg (SV.int .i64) hw
theorem dbyte_k : Contract Tryz.prog [] 46 dbyteS := ⟨⟨⟨_, rfl, rfl, rfl⟩⟩, dbyte_c⟩
def dnumS : Spec := fun args H Q => match args, H with
  | [.ptr 0 0], [.cells [.str S, .int .i64 p, .int .i64 e] 93] => ∃ a : Nat, p = a ∧ a ≤ S.length ∧ S.length < 1000000 ∧
    ∀ a' : Nat, a' ≤ S.length → S.drop a' = (numF e (S.drop a)).2.2 → Q (.int .i64 ((numF e (S.drop a)).1 : Int)) (mrd S a' (numF e (S.drop a)).2.1)
  | _, _ => False
theorem dnum_c : Meets Tryz.prog [] 47 dnumS := by
  refine meets_of Γok Tryz.func47 rfl ?_
  intro args H Q h
  unfold dnumS at h
  split at h
  case h_2 => exact h.elim
  rename_i S p e
  obtain ⟨a, rfl, ha, hS, h⟩ := h
  have hw : IntKind.i64.wrap (((rdV e 8 (S.drop a) : Nat) : Int).tmod 1000000) = (((numF e (S.drop a)).1 : Nat) : Int) := by
    have e1 : ((rdV e 8 (S.drop a) : Nat) : Int).tmod 1000000 = (((numF e (S.drop a)).1 : Nat) : Int) := rfl
    have e2 : (numF e (S.drop a)).1 < 1000000 := Nat.mod_lt _ (by decide)
    rw [e1, wrap_i64 (by omega) (by omega)]
  (refine sx_sound Γok _ ?_; conv => whnf)
  (repeat (first | (exact Out.same; conv => whnf) | (exact Out1.same; conv => whnf) | (refine QAnd.mk ?_ ?_; conv => whnf) | (apply QStepH.go; conv => whnf) | (refine Both.lit_true ?_; conv => whnf) | (refine Both.lit_false ?_; conv => whnf) | (apply QStep.go; conv => whnf) | (refine Need.au ?_; conv => whnf) | (refine ⟨_, rfl, ?_⟩; conv => whnf)))
  refine CallVC.auto mdoK_k ⟨a, rfl, ha, hS, .inr (.inl ⟨rfl, fun a' ha' hd => ?_⟩)⟩
  have h := h a' ha' hd
  (conv => whnf)
  (repeat (first | (exact Out.same; conv => whnf) | (exact Out1.same; conv => whnf) | (refine QAnd.mk ?_ ?_; conv => whnf) | (apply QStepH.go; conv => whnf) | (refine Both.lit_true ?_; conv => whnf) | (refine Both.lit_false ?_; conv => whnf) | (apply QStep.go; conv => whnf) | (refine Need.au ?_; conv => whnf) | (refine ⟨_, rfl, ?_⟩; conv => whnf)))
  refine ⟨_, _, WeakV.auto ?_, h⟩
  (repeat' ((conv => whnf); first | exact True.intro | (refine And.intro ?_ ?_)))
  all_goals first | rfl | exact .eq rfl | exact congrArg (SV.int .i64) hw
theorem dnum_k : Contract Tryz.prog [] 47 dnumS := ⟨⟨⟨_, rfl, rfl, rfl⟩⟩, dnum_c⟩
def dtextS : Spec := fun args H Q => match args, H with
  | [.ptr 0 0], [.cells [.str S, .int .i64 p, .int .i64 e] 93] => ∃ a : Nat, p = a ∧ a ≤ S.length ∧ S.length < 1000000 ∧
    ∀ a' : Nat, a' ≤ S.length → S.drop a' = (textF e (S.drop a)).2.2 → Q (.str (textF e (S.drop a)).1) (mrd S a' (textF e (S.drop a)).2.1)
  | _, _ => False
theorem dtext_c : Meets Tryz.prog [] 48 dtextS := by
  refine meets_of Γok Tryz.func48 rfl ?_
  intro args H Q h
  unfold dtextS at h
  split at h
  case h_2 => exact h.elim
  rename_i S p e
  obtain ⟨a, rfl, ha, hS, h⟩ := h
  (refine sx_sound Γok _ ?_; conv => whnf)
  (repeat (first | (exact Out.same; conv => whnf) | (exact Out1.same; conv => whnf) | (refine QAnd.mk ?_ ?_; conv => whnf) | (apply QStepH.go; conv => whnf) | (refine Both.lit_true ?_; conv => whnf) | (refine Both.lit_false ?_; conv => whnf) | (apply QStep.go; conv => whnf) | (refine Need.au ?_; conv => whnf) | (refine ⟨_, rfl, ?_⟩; conv => whnf)))
  refine CallVC.auto mdoK_k ⟨a, rfl, ha, hS, .inr (.inr (.inl ⟨rfl, fun a' ha' hd => ?_⟩))⟩
  have h := h a' ha' hd
  (conv => whnf)
  (repeat (first | (exact Out.same; conv => whnf) | (exact Out1.same; conv => whnf) | (refine QAnd.mk ?_ ?_; conv => whnf) | (apply QStepH.go; conv => whnf) | (refine Both.lit_true ?_; conv => whnf) | (refine Both.lit_false ?_; conv => whnf) | (apply QStep.go; conv => whnf) | (refine Need.au ?_; conv => whnf) | (refine ⟨_, rfl, ?_⟩; conv => whnf)))
  refine ⟨_, _, WeakV.auto ?_, h⟩
  (repeat' ((conv => whnf); first | exact True.intro | (refine And.intro ?_ ?_)))
  all_goals first | rfl | exact .eq rfl
theorem dtext_k : Contract Tryz.prog [] 48 dtextS := ⟨⟨⟨_, rfl, rfl, rfl⟩⟩, dtext_c⟩
def dpathF : Nat → Int → Bs → List Bs → List Bs × Int × Bs
  | 0, e, s, acc => (acc, e, s)
  | n + 1, e, s, acc => dpathF n (rdE e 32 s) (rdS e 32 s) (acc ++ [rdT e 32 s])
def dleafF (e : Int) (s : Bs) : Lf × Int × Bs :=
  let A := numF e s
  let B := numF A.2.1 A.2.2
  let K := textF B.2.1 B.2.2
  let V := textF K.2.1 K.2.2
  let N := byteF V.2.1 V.2.2
  let P := dpathF (min N.1 17) N.2.1 N.2.2 []
  (⟨(A.1 : Int), (B.1 : Int), K.1, V.1, P.1⟩, P.2.1, P.2.2)
def dleavesF : Nat → Int → Bs → List Lf → List Lf × Int × Bs
  | 0, e, s, acc => (acc, e, s)
  | n + 1, e, s, acc => dleavesF n (dleafF e s).2.1 (dleafF e s).2.2 (acc ++ [(dleafF e s).1])
theorem dpath_back : ∀ (p : List Bs) (acc : List Bs) (s1 : Bs), (∀ d ∈ p, d.length = 32) → dpathF p.length 0 (p.flatten ++ s1) acc = (acc ++ p, 0, s1)
  | [], acc, s1, _ => by rw [List.append_nil]; rfl
  | d :: p, acc, s1, hd => by
    have h := (raw_iff9 (e := 0) (n := 32) (s := (d :: p).flatten ++ s1) (t := d) (s1 := p.flatten ++ s1)).2 ⟨rfl, hd d (List.mem_cons_self ..), by rw [List.flatten_cons, List.append_assoc]⟩
    obtain ⟨a, b⟩ := Prod.mk.inj h
    obtain ⟨b, c⟩ := Prod.mk.inj b
    have a : rdT 0 32 ((d :: p).flatten ++ s1) = d := a
    have b : rdE 0 32 ((d :: p).flatten ++ s1) = 0 := b
    have c : rdS 0 32 ((d :: p).flatten ++ s1) = p.flatten ++ s1 := c
    rw [List.length_cons, dpathF, a, b, c, dpath_back p _ s1 (fun x hx => hd x (List.mem_cons_of_mem _ hx)), List.append_assoc]
    rfl
theorem dnum_back {v : Nat} {s1 : Bs} (h : v ≤ 4096) : numF 0 (beb v 8 ++ s1) = (v, 0, s1) := by
  have := (num_iff (k := 8) (e := 0) (s := beb v 8 ++ s1) (s1 := s1) (v := v) (by omega)).2 ⟨rfl, Nat.lt_of_le_of_lt h (by decide), rfl⟩
  obtain ⟨a, b⟩ := Prod.mk.inj this
  obtain ⟨b, c⟩ := Prod.mk.inj b
  have a : rdV 0 8 (beb v 8 ++ s1) = v := a
  have b : rdE 0 8 (beb v 8 ++ s1) = 0 := b
  have c : rdS 0 8 (beb v 8 ++ s1) = s1 := c
  unfold numF
  rw [a, b, c, Nat.mod_eq_of_lt (by omega)]
theorem dleaf_back {x : Lf} {s1 : Bs} (hx : okLf x) : dleafF 0 (putL x ++ s1) = (x, 0, s1) := by
  have hi := hx.i
  have hc := hx.c
  have ek := hx.k
  have ev := hx.v
  have ep := hx.p
  have h0 : putL x ++ s1 = beb x.i.toNat 8 ++ (beb x.c.toNat 8 ++ (beb x.k.length 2 ++ x.k ++ (beb x.v.length 2 ++ x.v ++ (beb x.p.length 1 ++ (x.p.flatten ++ s1))))) := by unfold putL headL; simp only [List.append_assoc]
  unfold dleafF
  rw [h0, dnum_back (by omega)]
  dsimp only
  rw [dnum_back (by omega)]
  dsimp only
  rw [(text_iff (t := x.k) (s1 := beb x.v.length 2 ++ x.v ++ (beb x.p.length 1 ++ (x.p.flatten ++ s1)))).2 ⟨rfl, by omega, rfl⟩]
  dsimp only
  rw [(text_iff (t := x.v) (s1 := beb x.p.length 1 ++ (x.p.flatten ++ s1))).2 ⟨rfl, by omega, rfl⟩]
  dsimp only
  rw [(byte_iff (v := x.p.length) (s1 := x.p.flatten ++ s1)).2 ⟨rfl, by omega, rfl⟩]
  dsimp only
  rw [Nat.min_eq_left (by omega), dpath_back x.p [] s1 hx.d, List.nil_append]
  have h1 : ((x.i.toNat : Nat) : Int) = x.i := Int.toNat_of_nonneg hi.1
  have h2 : ((x.c.toNat : Nat) : Int) = x.c := Int.toNat_of_nonneg hc.1
  rw [h1, h2]
theorem dleaves_back : ∀ (L : List Lf) (acc : List Lf) (s1 : Bs), (∀ x ∈ L, okLf x) → dleavesF L.length 0 ((L.map putL).flatten ++ s1) acc = (acc ++ L, 0, s1)
  | [], acc, s1, _ => by rw [List.append_nil]; rfl
  | x :: L, acc, s1, h => by
    rw [List.length_cons, dleavesF, List.map_cons, List.flatten_cons, List.append_assoc, dleaf_back (h x (List.mem_cons_self ..))]
    rw [dleaves_back L _ s1 (fun y hy => h y (List.mem_cons_of_mem _ hy)), List.append_assoc]
    rfl
open Classical in
theorem dparse_law {s : Bs} {A B : Nat × Int × Bs} {R : List Lf × Int × Bs} (hA : byteF 0 s = A) (hB : byteF A.2.1 A.2.2 = B) (hR : dleavesF (min B.1 3) B.2.1 B.2.2 [] = R) :
    parseV s = if bytesV (decide ((A.1 : Int) = 2)) R.1 = (s, 0) then ((decide ((A.1 : Int) = 2), R.1), 0) else ((false, []), 5) := by
  by_cases h : ∃ r : Bool × List Lf, fitsX r.2 ∧ bytesX r.1 r.2 = s
  · obtain ⟨⟨a, L⟩, hf, hr⟩ := h
    obtain ⟨q1, q2⟩ := parse_parts hA hB hf hr
    have l1 := hf.1
    have l1 : L.length ≤ 2 := l1
    subst q2
    have hback := dleaves_back L [] [] hf.2
    rw [List.append_nil, List.nil_append] at hback
    have hR2 : dleavesF (min L.length 3) 0 ((L.map putL).flatten) [] = R := hR
    rw [Nat.min_eq_left (by omega), hback] at hR2
    subst hR2
    have hd : decide ((A.1 : Int) = 2) = a := by
      have q1 : A.1 = if a then 2 else 1 := q1
      rw [q1]
      cases a <;> rfl
    rw [hd, if_pos (by unfold bytesV; rw [if_pos hf, hr]), parseV_yes hf hr]
  · rw [parseV_no h, if_neg ?_]
    intro q
    unfold bytesV at q
    split at q
    · rename_i hf
      exact h ⟨(_, _), hf, (Prod.mk.inj q).1⟩
    · cases (Prod.mk.inj q).2
end Go.LX
end
section
set_option maxRecDepth 100000
set_option maxHeartbeats 2000000
set_option autoImplicit false
set_option linter.unusedVariables false
set_option linter.unusedSimpArgs false
namespace Go.LX
open Go.Proofs

open Classical in
theorem rparse_c : Meets Tryz.prog [] 21 pparseS := by
  refine meets_of Γok Tryz.func21 rfl ?_
  intro args H Q h
  unfold pparseS at h
  split at h
  case h_2 => exact h.elim
  rename_i S
  obtain ⟨hS, h⟩ := h
  have hd0 : S.drop 0 = S := List.drop_zero
  have hA0 := rdV_lt1 0 S
  obtain ⟨A, hA⟩ : ∃ A, byteF 0 S = A := ⟨_, rfl⟩
  have hA1 : A.1 < 256 := by rw [← hA]; exact hA0
  have hB0 := rdV_lt1 A.2.1 A.2.2
  obtain ⟨B, hB⟩ : ∃ B, byteF A.2.1 A.2.2 = B := ⟨_, rfl⟩
  have hB1 : B.1 < 256 := by rw [← hB]; exact hB0
  obtain ⟨R, hR⟩ : ∃ R, dleavesF (min B.1 3) B.2.1 B.2.2 [] = R := ⟨_, rfl⟩
  have hlaw := dparse_law hA hB hR
  (refine sx_sound Γok _ ?_; conv => whnf)
  (repeat (first | (exact Out.same; conv => whnf) | (exact Out1.same; conv => whnf) | (refine QAnd.mk ?_ ?_; conv => whnf) | (apply QStepH.go; conv => whnf) | (refine Both.lit_true ?_; conv => whnf) | (refine Both.lit_false ?_; conv => whnf) | (apply QStep.go; conv => whnf) | (refine Need.au ?_; conv => whnf) | (refine ⟨_, rfl, ?_⟩; conv => whnf)))
  refine CallVC.auto dbyte_k ⟨0, rfl, Nat.zero_le _, hS, fun a1 ha1 hd1 => ?_⟩
  rw [hd0, hA] at hd1 ⊢
  (conv => whnf)
  (repeat (first | (exact Out.same; conv => whnf) | (exact Out1.same; conv => whnf) | (refine QAnd.mk ?_ ?_; conv => whnf) | (apply QStepH.go; conv => whnf) | (refine Both.lit_true ?_; conv => whnf) | (refine Both.lit_false ?_; conv => whnf) | (apply QStep.go; conv => whnf) | (refine Need.au ?_; conv => whnf) | (refine ⟨_, rfl, ?_⟩; conv => whnf)))
  refine CallVC.auto dbyte_k ⟨a1, rfl, ha1, hS, fun a2 ha2 hd2 => ?_⟩
  rw [hd1, hB] at hd2 ⊢
  (conv => whnf)
  (repeat (first | (exact Out.same; conv => whnf) | (exact Out1.same; conv => whnf) | (refine QAnd.mk ?_ ?_; conv => whnf) | (apply QStepH.go; conv => whnf) | (refine Both.lit_true ?_; conv => whnf) | (refine Both.lit_false ?_; conv => whnf) | (apply QStep.go; conv => whnf) | (refine Need.au ?_; conv => whnf) | (refine ⟨_, rfl, ?_⟩; conv => whnf)))
  refine LoopVC.postWeak ?_
  refine loop_rule (fun x : Nat × Int × Nat × List Lf => match x with | (i, e, a, acc) => ⟨[.str S, .any, .ptr 0 0, .any, .ptr 1 0, .ptr 2 0, .int .i64 (B.1 : Int), .int .i64 (i : Int), .any, .any, .any, .any, .any, .any, .any, .any, .any, .any, .any, .any, .any, .any, .any, .any, .any, .any, .any, .any, .any, .any, .any, .any, .any, .any, .any, .any, .any, .any, .any, .any, .any, .any, .any, .any, .any, .any, .any, .any, .any, .any, .any, .any, .any, .any, .any, .any, .any, .any, .any, .any, .any, .any, .any, .any, .any, .any, .any, .any, .any, .any, .any, .any, .any, .any, .any, .any, .any, .any, .any, .any, .any, .any, .any, .any, .any, .any, .any, .any, .any], [.cells [.bool false, .nilsl] 42, .cells [.str S, .int .i64 (a : Int), .int .i64 e] 93, .cells [.bool (decide ((A.1 : Int) = 2)), .own 3] 42, .own 50 5 acc.length (flL acc) true]⟩) (fun x => match x with | (i, e, a, acc) => dleavesF (min B.1 3 - i) e (S.drop a) acc = R ∧ a ≤ S.length ∧ acc.length = i ∧ i ≤ min B.1 3 ∧ ∀ x ∈ acc, x.p.length ≤ 17) (fun x => match x with | (i, e, a, acc) => 3 - i) (0, B.2.1, a2, []) ⟨by rw [hd2]; exact hR, ha2, rfl, Nat.zero_le _, fun x hx => by cases hx⟩ ((Weak.ownNil 2 1 50 5 rfl rfl).trans (Weak.auto ?_)) ?_
  · (repeat' ((conv => whnf); first | exact True.intro | (refine And.intro ?_ ?_)))
    all_goals first | rfl | exact .eq rfl
  rintro ⟨i, e, a, acc⟩ ⟨hI, ha, hai, hiB, hp⟩
  have e0e : True := trivial
  (refine sx_sound Γok _ ?_; conv => whnf)
  (repeat (first | (exact Out.same; conv => whnf) | (exact Out1.same; conv => whnf) | (refine QAnd.mk ?_ ?_; conv => whnf) | (apply QStepH.go; conv => whnf) | (refine Both.lit_true ?_; conv => whnf) | (refine Both.lit_false ?_; conv => whnf) | (apply QStep.go; conv => whnf) | (refine Need.au ?_; conv => whnf) | (refine ⟨_, rfl, ?_⟩; conv => whnf)))
  refine Both.dec (fun h1 => ?_) (fun h1 => ?_)
  case refine_2 =>
    have hend : min B.1 3 - i = 0 := by omega
    rw [hend, dleavesF] at hI
    subst hI
    have hL6 : acc.length ≤ 1000000 := by omega
    have hpm : ∀ x ∈ acc, x.p.length ≤ 9223372036854775807 := fun x hx => Nat.le_trans (hp x hx) (by decide)
    (conv => whnf)
    (repeat (first | (exact Out.same; conv => whnf) | (exact Out1.same; conv => whnf) | (refine QAnd.mk ?_ ?_; conv => whnf) | (apply QStepH.go; conv => whnf) | (refine Both.lit_true ?_; conv => whnf) | (refine Both.lit_false ?_; conv => whnf) | (apply QStep.go; conv => whnf) | (refine Need.au ?_; conv => whnf) | (refine ⟨_, rfl, ?_⟩; conv => whnf)))
    refine ⟨_, Weak.pub 3 2 rfl rfl, ?_⟩
    (conv => whnf)
    (repeat (first | (exact Out.same; conv => whnf) | (exact Out1.same; conv => whnf) | (refine QAnd.mk ?_ ?_; conv => whnf) | (apply QStepH.go; conv => whnf) | (refine Both.lit_true ?_; conv => whnf) | (refine Both.lit_false ?_; conv => whnf) | (apply QStep.go; conv => whnf) | (refine Need.au ?_; conv => whnf) | (refine ⟨_, rfl, ?_⟩; conv => whnf)))
    refine CallVC.auto rbytes9_k ⟨acc, rfl, rfl, hL6, hpm, fun t f htf => ?_⟩
    have htf : (t, f) = bytesV (decide ((A.1 : Int) = 2)) acc := htf
    have hlaw : parseV S = if (t, f) = (S, (0 : Int)) then ((decide ((A.1 : Int) = 2), acc), 0) else ((false, []), 5) := by rw [htf]; exact hlaw
    by_cases hf0 : f = 0
    · by_cases hts : t = S
      · rw [if_pos (by rw [hf0, hts])] at hlaw
        have h := h _ _ _ hlaw
        have c1 : (!decide (f = 0)) = false := by rw [decide_eq_true hf0]; rfl
        have c2 : (!decide (t = S)) = false := by rw [decide_eq_true hts]; rfl
        (conv => whnf)
        (repeat (first | (refine Both.of_false c1 ?_; conv => whnf) | (refine Both.of_false c2 ?_; conv => whnf) | (refine Need.mk ⟨rfl, rfl, far2⟩ ?_; conv => whnf) | (exact Out.same; conv => whnf) | (exact Out1.same; conv => whnf) | (refine QAnd.mk ?_ ?_; conv => whnf) | (apply QStepH.go; conv => whnf) | (refine Both.lit_true ?_; conv => whnf) | (refine Both.lit_false ?_; conv => whnf) | (apply QStep.go; conv => whnf) | (refine Need.au ?_; conv => whnf) | (refine ⟨_, rfl, ?_⟩; conv => whnf)))
        exact ⟨_, _, WeakV.drop rfl, h⟩
      · rw [if_neg (fun q => hts (Prod.mk.inj q).1)] at hlaw
        have h := h _ _ _ hlaw
        have c1 : (!decide (f = 0)) = false := by rw [decide_eq_true hf0]; rfl
        have c2 : (!decide (t = S)) = true := by rw [decide_eq_false hts]; rfl
        (conv => whnf)
        (repeat (first | (refine Both.of_false c1 ?_; conv => whnf) | (refine Both.of_true c2 ?_; conv => whnf) | (exact Out.same; conv => whnf) | (exact Out1.same; conv => whnf) | (refine QAnd.mk ?_ ?_; conv => whnf) | (apply QStepH.go; conv => whnf) | (refine Both.lit_true ?_; conv => whnf) | (refine Both.lit_false ?_; conv => whnf) | (apply QStep.go; conv => whnf) | (refine Need.au ?_; conv => whnf) | (refine ⟨_, rfl, ?_⟩; conv => whnf)))
        exact ⟨_, _, (WeakV.drop rfl).trans (WeakV.val fun E w v => vr_nil2 5), h⟩
    · rw [if_neg (fun q => hf0 (Prod.mk.inj q).2)] at hlaw
      have h := h _ _ _ hlaw
      have c1 : (!decide (f = 0)) = true := by rw [decide_eq_false hf0]; rfl
      (conv => whnf)
      (repeat (first | (refine Both.of_true c1 ?_; conv => whnf) | (exact Out.same; conv => whnf) | (exact Out1.same; conv => whnf) | (refine QAnd.mk ?_ ?_; conv => whnf) | (apply QStepH.go; conv => whnf) | (refine Both.lit_true ?_; conv => whnf) | (refine Both.lit_false ?_; conv => whnf) | (apply QStep.go; conv => whnf) | (refine Need.au ?_; conv => whnf) | (refine ⟨_, rfl, ?_⟩; conv => whnf)))
      exact ⟨_, _, (WeakV.drop rfl).trans (WeakV.val fun E w v => vr_nil2 5), h⟩
  (conv => whnf)
  (repeat (first | (exact Out.same; conv => whnf) | (exact Out1.same; conv => whnf) | (refine QAnd.mk ?_ ?_; conv => whnf) | (apply QStepH.go; conv => whnf) | (refine Both.lit_true ?_; conv => whnf) | (refine Both.lit_false ?_; conv => whnf) | (apply QStep.go; conv => whnf) | (refine Need.au ?_; conv => whnf) | (refine ⟨_, rfl, ?_⟩; conv => whnf)))
  refine Both.dec (fun h2 => ?_) (fun h2 => ?_)
  case refine_2 =>
    have hend : min B.1 3 - i = 0 := by omega
    rw [hend, dleavesF] at hI
    subst hI
    have hL6 : acc.length ≤ 1000000 := by omega
    have hpm : ∀ x ∈ acc, x.p.length ≤ 9223372036854775807 := fun x hx => Nat.le_trans (hp x hx) (by decide)
    (conv => whnf)
    (repeat (first | (exact Out.same; conv => whnf) | (exact Out1.same; conv => whnf) | (refine QAnd.mk ?_ ?_; conv => whnf) | (apply QStepH.go; conv => whnf) | (refine Both.lit_true ?_; conv => whnf) | (refine Both.lit_false ?_; conv => whnf) | (apply QStep.go; conv => whnf) | (refine Need.au ?_; conv => whnf) | (refine ⟨_, rfl, ?_⟩; conv => whnf)))
    refine ⟨_, Weak.pub 3 2 rfl rfl, ?_⟩
    (conv => whnf)
    (repeat (first | (exact Out.same; conv => whnf) | (exact Out1.same; conv => whnf) | (refine QAnd.mk ?_ ?_; conv => whnf) | (apply QStepH.go; conv => whnf) | (refine Both.lit_true ?_; conv => whnf) | (refine Both.lit_false ?_; conv => whnf) | (apply QStep.go; conv => whnf) | (refine Need.au ?_; conv => whnf) | (refine ⟨_, rfl, ?_⟩; conv => whnf)))
    refine CallVC.auto rbytes9_k ⟨acc, rfl, rfl, hL6, hpm, fun t f htf => ?_⟩
    have htf : (t, f) = bytesV (decide ((A.1 : Int) = 2)) acc := htf
    have hlaw : parseV S = if (t, f) = (S, (0 : Int)) then ((decide ((A.1 : Int) = 2), acc), 0) else ((false, []), 5) := by rw [htf]; exact hlaw
    by_cases hf0 : f = 0
    · by_cases hts : t = S
      · rw [if_pos (by rw [hf0, hts])] at hlaw
        have h := h _ _ _ hlaw
        have c1 : (!decide (f = 0)) = false := by rw [decide_eq_true hf0]; rfl
        have c2 : (!decide (t = S)) = false := by rw [decide_eq_true hts]; rfl
        (conv => whnf)
        (repeat (first | (refine Both.of_false c1 ?_; conv => whnf) | (refine Both.of_false c2 ?_; conv => whnf) | (refine Need.mk ⟨rfl, rfl, far2⟩ ?_; conv => whnf) | (exact Out.same; conv => whnf) | (exact Out1.same; conv => whnf) | (refine QAnd.mk ?_ ?_; conv => whnf) | (apply QStepH.go; conv => whnf) | (refine Both.lit_true ?_; conv => whnf) | (refine Both.lit_false ?_; conv => whnf) | (apply QStep.go; conv => whnf) | (refine Need.au ?_; conv => whnf) | (refine ⟨_, rfl, ?_⟩; conv => whnf)))
        exact ⟨_, _, WeakV.drop rfl, h⟩
      · rw [if_neg (fun q => hts (Prod.mk.inj q).1)] at hlaw
        have h := h _ _ _ hlaw
        have c1 : (!decide (f = 0)) = false := by rw [decide_eq_true hf0]; rfl
        have c2 : (!decide (t = S)) = true := by rw [decide_eq_false hts]; rfl
        (conv => whnf)
        (repeat (first | (refine Both.of_false c1 ?_; conv => whnf) | (refine Both.of_true c2 ?_; conv => whnf) | (exact Out.same; conv => whnf) | (exact Out1.same; conv => whnf) | (refine QAnd.mk ?_ ?_; conv => whnf) | (apply QStepH.go; conv => whnf) | (refine Both.lit_true ?_; conv => whnf) | (refine Both.lit_false ?_; conv => whnf) | (apply QStep.go; conv => whnf) | (refine Need.au ?_; conv => whnf) | (refine ⟨_, rfl, ?_⟩; conv => whnf)))
        exact ⟨_, _, (WeakV.drop rfl).trans (WeakV.val fun E w v => vr_nil2 5), h⟩
    · rw [if_neg (fun q => hf0 (Prod.mk.inj q).2)] at hlaw
      have h := h _ _ _ hlaw
      have c1 : (!decide (f = 0)) = true := by rw [decide_eq_false hf0]; rfl
      (conv => whnf)
      (repeat (first | (refine Both.of_true c1 ?_; conv => whnf) | (exact Out.same; conv => whnf) | (exact Out1.same; conv => whnf) | (refine QAnd.mk ?_ ?_; conv => whnf) | (apply QStepH.go; conv => whnf) | (refine Both.lit_true ?_; conv => whnf) | (refine Both.lit_false ?_; conv => whnf) | (apply QStep.go; conv => whnf) | (refine Need.au ?_; conv => whnf) | (refine ⟨_, rfl, ?_⟩; conv => whnf)))
      exact ⟨_, _, (WeakV.drop rfl).trans (WeakV.val fun E w v => vr_nil2 5), h⟩
  have hi1 : IntKind.i64.wrap ((i : Int) + 1) = ((i + 1 : Nat) : Int) := by rw [wrap_i64 (by omega) (by omega)]; rfl
  have hcap : (acc.length + 1) * ti50.bytes ≤ 140737488355328 := by
    show (acc.length + 1) * 72 ≤ _
    omega
  rw [show min B.1 3 - i = (min B.1 3 - (i + 1)) + 1 by omega, dleavesF] at hI
  have hD0 : dleafF e (S.drop a) = dleafF e (S.drop a) := rfl
  obtain ⟨e0, he0⟩ : ∃ e0, e = e0 := ⟨_, rfl⟩
  subst he0
  have hD : dleafF e (S.drop a) = dleafF e (S.drop a) := rfl
  conv at hD => rhs; unfold dleafF
  obtain ⟨X1, hX1⟩ : ∃ X, numF e (S.drop a) = X := ⟨_, rfl⟩
  rw [hX1] at hD
  dsimp only at hD
  obtain ⟨X2, hX2⟩ : ∃ X, numF X1.2.1 X1.2.2 = X := ⟨_, rfl⟩
  rw [hX2] at hD
  obtain ⟨X3, hX3⟩ : ∃ X, textF X2.2.1 X2.2.2 = X := ⟨_, rfl⟩
  rw [hX3] at hD
  obtain ⟨X4, hX4⟩ : ∃ X, textF X3.2.1 X3.2.2 = X := ⟨_, rfl⟩
  rw [hX4] at hD
  have hN0 := rdV_lt1 X4.2.1 X4.2.2
  obtain ⟨N, hN⟩ : ∃ N, byteF X4.2.1 X4.2.2 = N := ⟨_, rfl⟩
  have hN1 : N.1 < 256 := by rw [← hN]; exact hN0
  rw [hN] at hD
  obtain ⟨P, hP⟩ : ∃ P, dpathF (min N.1 17) N.2.1 N.2.2 [] = P := ⟨_, rfl⟩
  rw [hP] at hD
  (conv => whnf)
  (repeat (first | (exact Out.same; conv => whnf) | (exact Out1.same; conv => whnf) | (refine QAnd.mk ?_ ?_; conv => whnf) | (apply QStepH.go; conv => whnf) | (refine Both.lit_true ?_; conv => whnf) | (refine Both.lit_false ?_; conv => whnf) | (apply QStep.go; conv => whnf) | (refine Need.au ?_; conv => whnf) | (refine ⟨_, rfl, ?_⟩; conv => whnf)))
  refine CallVC.auto dnum_k ⟨a, rfl, ha, hS, fun b1 hb1 hr1 => ?_⟩
  rw [hX1] at hr1 ⊢
  (conv => whnf)
  (repeat (first | (exact Out.same; conv => whnf) | (exact Out1.same; conv => whnf) | (refine QAnd.mk ?_ ?_; conv => whnf) | (apply QStepH.go; conv => whnf) | (refine Both.lit_true ?_; conv => whnf) | (refine Both.lit_false ?_; conv => whnf) | (apply QStep.go; conv => whnf) | (refine Need.au ?_; conv => whnf) | (refine ⟨_, rfl, ?_⟩; conv => whnf)))
  refine CallVC.auto dnum_k ⟨b1, rfl, hb1, hS, fun b2 hb2 hr2 => ?_⟩
  rw [hr1, hX2] at hr2 ⊢
  (conv => whnf)
  (repeat (first | (exact Out.same; conv => whnf) | (exact Out1.same; conv => whnf) | (refine QAnd.mk ?_ ?_; conv => whnf) | (apply QStepH.go; conv => whnf) | (refine Both.lit_true ?_; conv => whnf) | (refine Both.lit_false ?_; conv => whnf) | (apply QStep.go; conv => whnf) | (refine Need.au ?_; conv => whnf) | (refine ⟨_, rfl, ?_⟩; conv => whnf)))
  refine CallVC.auto dtext_k ⟨b2, rfl, hb2, hS, fun b3 hb3 hr3 => ?_⟩
  rw [hr2, hX3] at hr3 ⊢
  (conv => whnf)
  (repeat (first | (exact Out.same; conv => whnf) | (exact Out1.same; conv => whnf) | (refine QAnd.mk ?_ ?_; conv => whnf) | (apply QStepH.go; conv => whnf) | (refine Both.lit_true ?_; conv => whnf) | (refine Both.lit_false ?_; conv => whnf) | (apply QStep.go; conv => whnf) | (refine Need.au ?_; conv => whnf) | (refine ⟨_, rfl, ?_⟩; conv => whnf)))
  refine CallVC.auto dtext_k ⟨b3, rfl, hb3, hS, fun b4 hb4 hr4 => ?_⟩
  rw [hr3, hX4] at hr4 ⊢
  (conv => whnf)
  (repeat (first | (exact Out.same; conv => whnf) | (exact Out1.same; conv => whnf) | (refine QAnd.mk ?_ ?_; conv => whnf) | (apply QStepH.go; conv => whnf) | (refine Both.lit_true ?_; conv => whnf) | (refine Both.lit_false ?_; conv => whnf) | (apply QStep.go; conv => whnf) | (refine Need.au ?_; conv => whnf) | (refine ⟨_, rfl, ?_⟩; conv => whnf)))
  refine CallVC.auto dbyte_k ⟨b4, rfl, hb4, hS, fun b5 hb5 hr5 => ?_⟩
  rw [hr4, hN] at hr5 ⊢
  (conv => whnf)
  (repeat (first | (exact Out.same; conv => whnf) | (exact Out1.same; conv => whnf) | (refine QAnd.mk ?_ ?_; conv => whnf) | (apply QStepH.go; conv => whnf) | (refine Both.lit_true ?_; conv => whnf) | (refine Both.lit_false ?_; conv => whnf) | (apply QStep.go; conv => whnf) | (refine Need.au ?_; conv => whnf) | (refine ⟨_, rfl, ?_⟩; conv => whnf)))
  have ha0 := ha
  obtain ⟨e0, he0⟩ : ∃ e0, e = e0 := ⟨_, rfl⟩
  refine LoopVC.postWeak ?_
  refine loop_rule (fun x : Nat × Int × Nat × List Bs => match x with | (m, e, b, q) => ⟨[.str S, .any, .ptr 0 0, .any, .ptr 1 0, .ptr 2 0, .int .i64 (B.1 : Int), .int .i64 (i : Int), .ptr 4 0, .int .i64 (N.1 : Int), .int .i64 (m : Int), .any, .any, .any, .any, .any, .any, .any, .any, .any, .any, .any, .any, .any, .any, .any, .any, .any, .any, .any, .any, .any, .any, .any, .any, .any, .any, .any, .any, .any, .any, .any, .any, .any, .any, .any, .any, .any, .any, .any, .any, .any, .any, .any, .any, .any, .any, .any, .any, .any, .any, .any, .any, .any, .any, .any, .any, .any, .any, .any, .any, .any, .any, .any, .any, .any, .any, .any, .any, .any, .any, .any, .any, .any, .any, .any, .any, .any, .any], [.cells [.bool false, .nilsl] 42, .cells [.str S, .int .i64 (b : Int), .int .i64 e] 93, .cells [.bool (decide ((A.1 : Int) = 2)), .own 3] 42, .own 50 5 acc.length (flL acc) true, .cells [.int .i64 (X1.1 : Int), .int .i64 (X2.1 : Int), .str X3.1, .str X4.1, .own 5] 50, .own 9 1 q.length (strs q) true]⟩) (fun x => match x with | (m, e, b, q) => dpathF (min N.1 17 - m) e (S.drop b) q = P ∧ b ≤ S.length ∧ q.length = m ∧ m ≤ min N.1 17) (fun x => match x with | (m, e, b, q) => 17 - m) (0, N.2.1, b5, []) ⟨by rw [hr5]; exact hP, hb5, rfl, Nat.zero_le _⟩ ((Weak.ownNil 4 4 9 1 rfl rfl).trans (Weak.auto ?_)) ?_
  · (repeat' ((conv => whnf); first | exact True.intro | (refine And.intro ?_ ?_)))
    all_goals first | rfl | exact .eq rfl
  subst he0
  obtain ⟨e0, he0⟩ : ∃ e0, e = e0 := ⟨_, rfl⟩
  rw [he0] at hI hD
  rintro ⟨m, e, b, q⟩ ⟨hJ, hb, hqm, hmN⟩
  (refine sx_sound Γok _ ?_; conv => whnf)
  (repeat (first | (exact Out.same; conv => whnf) | (exact Out1.same; conv => whnf) | (refine QAnd.mk ?_ ?_; conv => whnf) | (apply QStepH.go; conv => whnf) | (refine Both.lit_true ?_; conv => whnf) | (refine Both.lit_false ?_; conv => whnf) | (apply QStep.go; conv => whnf) | (refine Need.au ?_; conv => whnf) | (refine ⟨_, rfl, ?_⟩; conv => whnf)))
  refine Both.dec (fun g1 => ?_) (fun g1 => ?_)
  case refine_2 =>
    have hend2 : min N.1 17 - m = 0 := by omega
    rw [hend2, dpathF] at hJ
    subst hJ
    have hDe : dleafF e0 (S.drop a) = (⟨(X1.1 : Int), (X2.1 : Int), X3.1, X4.1, q⟩, e, S.drop b) := by rw [hD]
    rw [hDe] at hI
    dsimp only at hI
    have hB2 : (acc ++ [(⟨(X1.1 : Int), (X2.1 : Int), X3.1, X4.1, q⟩ : Lf)]).length = i + 1 := by rw [List.length_append, List.length_singleton, hai]
    have hC2 : i + 1 ≤ min B.1 3 := by omega
    have hD2 : 3 - (i + 1) < 3 - i := by omega
    have hp2 : ∀ x ∈ acc ++ [(⟨(X1.1 : Int), (X2.1 : Int), X3.1, X4.1, q⟩ : Lf)], x.p.length ≤ 17 := fun x hx => by
      rcases List.mem_append.1 hx with hx | hx
      · exact hp x hx
      · rw [List.mem_singleton.1 hx]
        show q.length ≤ 17
        omega
    have end1 : LObj.own 50 5 (acc.length + 1) (flL acc ++ [.int .i64 (X1.1 : Int), .int .i64 (X2.1 : Int), .str X3.1, .str X4.1, .sl 1 q.length (strs q) false]) true = .own 50 5 (acc ++ [(⟨(X1.1 : Int), (X2.1 : Int), X3.1, X4.1, q⟩ : Lf)]).length (flL (acc ++ [(⟨(X1.1 : Int), (X2.1 : Int), X3.1, X4.1, q⟩ : Lf)])) true := by
      rw [flL_app, flL_one, List.length_append]
      rfl
    (conv => whnf)
    (repeat (first | (exact Out.same; conv => whnf) | (exact Out1.same; conv => whnf) | (refine QAnd.mk ?_ ?_; conv => whnf) | (apply QStepH.go; conv => whnf) | (refine Both.lit_true ?_; conv => whnf) | (refine Both.lit_false ?_; conv => whnf) | (apply QStep.go; conv => whnf) | (refine Need.au ?_; conv => whnf) | (refine ⟨_, rfl, ?_⟩; conv => whnf)))
    refine ⟨_, Weak.pub 5 4 rfl rfl, ?_⟩
    (conv => whnf)
    (repeat (first | (refine Need.mk hcap ?_; conv => whnf) | (exact Out.same; conv => whnf) | (exact Out1.same; conv => whnf) | (refine QAnd.mk ?_ ?_; conv => whnf) | (apply QStepH.go; conv => whnf) | (refine Both.lit_true ?_; conv => whnf) | (refine Both.lit_false ?_; conv => whnf) | (apply QStep.go; conv => whnf) | (refine Need.au ?_; conv => whnf) | (refine ⟨_, rfl, ?_⟩; conv => whnf)))
    refine ⟨(i + 1, e, b, acc ++ [(⟨(X1.1 : Int), (X2.1 : Int), X3.1, X4.1, q⟩ : Lf)]), ⟨hI, hb, hB2, hC2, hp2⟩, hD2, Weak.auto ?_⟩
    (repeat' ((conv => whnf); first | exact True.intro | (refine And.intro ?_ ?_)))
    all_goals first | rfl | exact .eq rfl | exact congrArg (SV.int .i64) hi1 | exact end1 | exact .eq end1
  (conv => whnf)
  (repeat (first | (exact Out.same; conv => whnf) | (exact Out1.same; conv => whnf) | (refine QAnd.mk ?_ ?_; conv => whnf) | (apply QStepH.go; conv => whnf) | (refine Both.lit_true ?_; conv => whnf) | (refine Both.lit_false ?_; conv => whnf) | (apply QStep.go; conv => whnf) | (refine Need.au ?_; conv => whnf) | (refine ⟨_, rfl, ?_⟩; conv => whnf)))
  refine Both.dec (fun g2 => ?_) (fun g2 => ?_)
  case refine_2 =>
    have hend2 : min N.1 17 - m = 0 := by omega
    rw [hend2, dpathF] at hJ
    subst hJ
    have hDe : dleafF e0 (S.drop a) = (⟨(X1.1 : Int), (X2.1 : Int), X3.1, X4.1, q⟩, e, S.drop b) := by rw [hD]
    rw [hDe] at hI
    dsimp only at hI
    have hB2 : (acc ++ [(⟨(X1.1 : Int), (X2.1 : Int), X3.1, X4.1, q⟩ : Lf)]).length = i + 1 := by rw [List.length_append, List.length_singleton, hai]
    have hC2 : i + 1 ≤ min B.1 3 := by omega
    have hD2 : 3 - (i + 1) < 3 - i := by omega
    have hp2 : ∀ x ∈ acc ++ [(⟨(X1.1 : Int), (X2.1 : Int), X3.1, X4.1, q⟩ : Lf)], x.p.length ≤ 17 := fun x hx => by
      rcases List.mem_append.1 hx with hx | hx
      · exact hp x hx
      · rw [List.mem_singleton.1 hx]
        show q.length ≤ 17
        omega
    have end1 : LObj.own 50 5 (acc.length + 1) (flL acc ++ [.int .i64 (X1.1 : Int), .int .i64 (X2.1 : Int), .str X3.1, .str X4.1, .sl 1 q.length (strs q) false]) true = .own 50 5 (acc ++ [(⟨(X1.1 : Int), (X2.1 : Int), X3.1, X4.1, q⟩ : Lf)]).length (flL (acc ++ [(⟨(X1.1 : Int), (X2.1 : Int), X3.1, X4.1, q⟩ : Lf)])) true := by
      rw [flL_app, flL_one, List.length_append]
      rfl
    (conv => whnf)
    (repeat (first | (exact Out.same; conv => whnf) | (exact Out1.same; conv => whnf) | (refine QAnd.mk ?_ ?_; conv => whnf) | (apply QStepH.go; conv => whnf) | (refine Both.lit_true ?_; conv => whnf) | (refine Both.lit_false ?_; conv => whnf) | (apply QStep.go; conv => whnf) | (refine Need.au ?_; conv => whnf) | (refine ⟨_, rfl, ?_⟩; conv => whnf)))
    refine ⟨_, Weak.pub 5 4 rfl rfl, ?_⟩
    (conv => whnf)
    (repeat (first | (refine Need.mk hcap ?_; conv => whnf) | (exact Out.same; conv => whnf) | (exact Out1.same; conv => whnf) | (refine QAnd.mk ?_ ?_; conv => whnf) | (apply QStepH.go; conv => whnf) | (refine Both.lit_true ?_; conv => whnf) | (refine Both.lit_false ?_; conv => whnf) | (apply QStep.go; conv => whnf) | (refine Need.au ?_; conv => whnf) | (refine ⟨_, rfl, ?_⟩; conv => whnf)))
    refine ⟨(i + 1, e, b, acc ++ [(⟨(X1.1 : Int), (X2.1 : Int), X3.1, X4.1, q⟩ : Lf)]), ⟨hI, hb, hB2, hC2, hp2⟩, hD2, Weak.auto ?_⟩
    (repeat' ((conv => whnf); first | exact True.intro | (refine And.intro ?_ ?_)))
    all_goals first | rfl | exact .eq rfl | exact congrArg (SV.int .i64) hi1 | exact end1 | exact .eq end1
  have hm1 : IntKind.i64.wrap ((m : Int) + 1) = ((m + 1 : Nat) : Int) := by rw [wrap_i64 (by omega) (by omega)]; rfl
  have hcap2 : (q.length + 1) * ti9.bytes ≤ 140737488355328 := by
    show (q.length + 1) * 16 ≤ _
    omega
  rw [show min N.1 17 - m = (min N.1 17 - (m + 1)) + 1 by omega, dpathF] at hJ
  (conv => whnf)
  (repeat (first | (exact Out.same; conv => whnf) | (exact Out1.same; conv => whnf) | (refine QAnd.mk ?_ ?_; conv => whnf) | (apply QStepH.go; conv => whnf) | (refine Both.lit_true ?_; conv => whnf) | (refine Both.lit_false ?_; conv => whnf) | (apply QStep.go; conv => whnf) | (refine Need.au ?_; conv => whnf) | (refine ⟨_, rfl, ?_⟩; conv => whnf)))
  refine CallVC.auto mdoK_k ⟨b, rfl, hb, hS, .inr (.inr (.inr ⟨rfl, rfl, fun b' hb' hr' => ?_⟩))⟩
  rw [← hr'] at hJ
  have gA : (q ++ [rdT e 32 (S.drop b)]).length = m + 1 := by rw [List.length_append, List.length_singleton, hqm]
  have gB : m + 1 ≤ min N.1 17 := by omega
  have gC : 17 - (m + 1) < 17 - m := by omega
  have end3 : LObj.own 9 1 (q.length + 1) (strs q ++ [CV.str (rdT e 32 (S.drop b))]) true = .own 9 1 (q ++ [rdT e 32 (S.drop b)]).length (strs (q ++ [rdT e 32 (S.drop b)])) true := by
    rw [List.length_append, ← strs_app]
    rfl
  (conv => whnf)
  (repeat (first | (refine Need.mk hcap2 ?_; conv => whnf) | (exact Out.same; conv => whnf) | (exact Out1.same; conv => whnf) | (refine QAnd.mk ?_ ?_; conv => whnf) | (apply QStepH.go; conv => whnf) | (refine Both.lit_true ?_; conv => whnf) | (refine Both.lit_false ?_; conv => whnf) | (apply QStep.go; conv => whnf) | (refine Need.au ?_; conv => whnf) | (refine ⟨_, rfl, ?_⟩; conv => whnf)))
  refine ⟨(m + 1, rdE e 32 (S.drop b), b', q ++ [rdT e 32 (S.drop b)]), ⟨hJ, hb', gA, gB⟩, gC, Weak.auto ?_⟩
  (repeat' ((conv => whnf); first | exact True.intro | (refine And.intro ?_ ?_)))
  all_goals first | rfl | exact .eq rfl | exact congrArg (SV.int .i64) hm1 | exact end3 | exact .eq end3
theorem rparse_k : Contract Tryz.prog [] 21 pparseS := ⟨⟨⟨_, rfl, rfl, rfl⟩⟩, rparse_c⟩
end Go.LX
end
section
set_option maxRecDepth 100000
set_option maxHeartbeats 1000000
set_option autoImplicit false
set_option linter.unusedVariables false
set_option linter.unusedSimpArgs false
namespace Go.LX
open Go.Proofs Go.RowKit Go.ChangeShapes Go.WideShapes Go.ChangeAt
section
variable {H : Type} {enc : TypeId × Value → H} {W : World}
structure Lf.inR (x : Lf) : Prop where
  i : -9223372036854775808 ≤ x.i ∧ x.i ≤ 9223372036854775807
  c : -9223372036854775808 ≤ x.c ∧ x.c ≤ 9223372036854775807
  p : x.p.length ≤ 9223372036854775807
structure PrA where
  a : Bool
  L : List Lf
structure PrA.ok (r : PrA) : Prop where
  L : r.L.length ≤ 9223372036854775807
  p : ∀ x ∈ r.L, x.inR
end
end Go.LX
end
section
set_option maxRecDepth 100000
set_option maxHeartbeats 2000000
set_option autoImplicit false
set_option linter.unusedVariables false
set_option linter.unusedSimpArgs false
namespace Go.LX
open Go.Proofs

theorem parseV_cases (s : Bs) : (∃ a L, fitsX L ∧ bytesX a L = s ∧ parseV s = ((a, L), 0)) ∨ parseV s = ((false, []), 5) := by
  by_cases h : ∃ r : Bool × List Lf, fitsX r.2 ∧ bytesX r.1 r.2 = s
  · obtain ⟨⟨a, L⟩, hf, hr⟩ := h
    exact .inl ⟨a, L, hf, hr, parseV_yes hf hr⟩
  · exact .inr (parseV_no h)
theorem fits_sm {L : List Lf} (h : fitsX L) : L.length ≤ 1000000 ∧ L.length < 1000000 ∧ ∀ x ∈ L, x.p.length ≤ 9223372036854775807 := by
  have := h.1
  exact ⟨by omega, by omega, fun x hx => Nat.le_trans (h.2 x hx).p (by decide)⟩
end Go.LX
end
section
set_option maxRecDepth 100000
set_option maxHeartbeats 2000000
set_option autoImplicit false
set_option linter.unusedVariables false
set_option linter.unusedSimpArgs false
namespace Go.LX
open Go.Proofs

def goodC (root : Bs) (x : Lf) : Bool := (climbP (txLeaf (x.k, x.v)) x.i x.c x.p).2 && decide ((climbP (txLeaf (x.k, x.v)) x.i x.c x.p).1 = root)
def clb1S : Spec := fun args H Q => match args, H with
  | [.agg [.int .i64 i, .int .i64 c, .str k, .str v, .sl 1 n cs false], .ptr 0 0], [.cells [.str root] 9] => ∃ p : List Bs, cs = strs p ∧ n = p.length ∧ p.length < 1000000 ∧ k.length < 50000 ∧ v.length < 50000 ∧
      Q (.bool (!goodC root ⟨i, c, k, v, p⟩)) [.cells [.str root] 9]
  | _, _ => False
theorem clb1_c {y0 : CV} {cs0 : List CV} (hK : KAt y0 cs0) : Meets Tryz.prog [(0, y0 :: cs0)] 44 clb1S := by
  refine meets_of Γok Tryz.func44 rfl ?_
  intro args H Q h
  unfold clb1S at h
  split at h
  case h_2 => exact h.elim
  rename_i i c k v n cs root
  obtain ⟨p, rfl, rfl, hp, hk, hv, h⟩ := h
  unfold goodC at h
  dsimp only at h
  obtain ⟨X, hX⟩ : ∃ X, climbP (txLeaf (k, v)) i c p = X := ⟨_, rfl⟩
  rw [hX] at h
  (refine sx_sound Γok _ ?_; conv => whnf)
  (repeat (first | (exact Out.same; conv => whnf) | (exact Out1.same; conv => whnf) | (refine QAnd.mk ?_ ?_; conv => whnf) | (apply QStepH.go; conv => whnf) | (refine Both.lit_true ?_; conv => whnf) | (refine Both.lit_false ?_; conv => whnf) | (apply QStep.go; conv => whnf) | (refine Need.au ?_; conv => whnf) | (refine ⟨_, rfl, ?_⟩; conv => whnf)))
  refine CallVC.auto (climb_k hK) ⟨p, rfl, rfl, hp, hk, hv, ?_⟩
  rw [hX]
  cases hx2 : X.2 with
  | false =>
    rw [hx2] at h
    (conv => whnf)
    (repeat (first | (exact Out.same; conv => whnf) | (exact Out1.same; conv => whnf) | (refine QAnd.mk ?_ ?_; conv => whnf) | (apply QStepH.go; conv => whnf) | (refine Both.lit_true ?_; conv => whnf) | (refine Both.lit_false ?_; conv => whnf) | (apply QStep.go; conv => whnf) | (refine Need.au ?_; conv => whnf) | (refine ⟨_, rfl, ?_⟩; conv => whnf)))
    refine ⟨_, _, WeakV.auto ?_, h⟩
    (repeat' ((conv => whnf); first | exact True.intro | (refine And.intro ?_ ?_)))
    all_goals first | rfl | exact .eq rfl
  | true =>
    rw [hx2] at h
    have h : Q (.bool (!decide (X.1 = root))) [.cells [.str root] 9] := h
    (conv => whnf)
    (repeat (first | (exact Out.same; conv => whnf) | (exact Out1.same; conv => whnf) | (refine QAnd.mk ?_ ?_; conv => whnf) | (apply QStepH.go; conv => whnf) | (refine Both.lit_true ?_; conv => whnf) | (refine Both.lit_false ?_; conv => whnf) | (apply QStep.go; conv => whnf) | (refine Need.au ?_; conv => whnf) | (refine ⟨_, rfl, ?_⟩; conv => whnf)))
    refine ⟨_, _, WeakV.auto ?_, h⟩
    (repeat' ((conv => whnf); first | exact True.intro | (refine And.intro ?_ ?_)))
    all_goals first | rfl | exact .eq rfl
theorem clb1_k {y0 : CV} {cs0 : List CV} (hK : KAt y0 cs0) : Contract Tryz.prog [(0, y0 :: cs0)] 44 clb1S := ⟨⟨⟨_, rfl, rfl, rfl⟩⟩, clb1_c hK⟩
def idx3S : Spec := fun args H Q => match args, H with
  | [.sl 5 n cs f, .func (.func 44) [.ptr 0 0]], [.cells [.str root] 9] => ∃ L : List Lf, cs = flL L ∧ n = L.length ∧ L.length ≤ 1000000 ∧ (∀ x ∈ L, okLf x) ∧ ∀ r : Int, (0 ≤ r ↔ ¬ ∀ x ∈ L, goodC root x = true) → Q (.int .i64 r) [.cells [.str root] 9]
  | _, _ => False
theorem idx3_c {y0 : CV} {cs0 : List CV} (hK : KAt y0 cs0) : Meets Tryz.prog [(0, y0 :: cs0)] 65 idx3S := by
  refine meets_of Γok Tryz.func65 rfl ?_
  intro args H Q h
  unfold idx3S at h
  split at h
  case h_2 => exact h.elim
  rename_i n cs f root
  obtain ⟨L, rfl, rfl, hL, hok, h⟩ := h
  (refine sx_sound Γok _ ?_; conv => whnf)
  (repeat (first | (exact Out.same; conv => whnf) | (exact Out1.same; conv => whnf) | (refine QAnd.mk ?_ ?_; conv => whnf) | (apply QStepH.go; conv => whnf) | (refine Both.lit_true ?_; conv => whnf) | (refine Both.lit_false ?_; conv => whnf) | (apply QStep.go; conv => whnf) | (refine Need.au ?_; conv => whnf) | (refine ⟨_, rfl, ?_⟩; conv => whnf)))
  refine loop_rule (fun k : Nat => ⟨[.sl 5 L.length (flL L) f, .func (.func 44) [.ptr 0 0], .any, .any, .any, .any, .any, .int .i64 ((L.length : Nat) : Int), .int .i64 (k : Int), .any, .any, .any, .any, .any, .any, .any, .any, .any, .any], [.cells [.str root] 9]⟩) (fun k => k ≤ L.length ∧ ∀ j, j < k → goodC root (L.getD j lf0) = true) (fun k => L.length - k) 0 ⟨Nat.zero_le _, fun j hj => absurd hj (by omega)⟩ (Weak.auto ?_) ?_
  · (repeat' ((conv => whnf); first | exact True.intro | (refine And.intro ?_ ?_)))
    all_goals first | rfl | exact .eq rfl
  rintro k ⟨hk, hall⟩
  (refine sx_sound Γok _ ?_; conv => whnf)
  (repeat (first | (exact Out.same; conv => whnf) | (exact Out1.same; conv => whnf) | (refine QAnd.mk ?_ ?_; conv => whnf) | (apply QStepH.go; conv => whnf) | (refine Both.lit_true ?_; conv => whnf) | (refine Both.lit_false ?_; conv => whnf) | (apply QStep.go; conv => whnf) | (refine Need.au ?_; conv => whnf) | (refine ⟨_, rfl, ?_⟩; conv => whnf)))
  refine Both.dec (fun hlt => ?_) (fun hge => ?_)
  · have hkl : k < L.length := by omega
    have hat := flL_at L hkl lf0
    obtain ⟨x, hx⟩ : ∃ x, L.getD k lf0 = x := ⟨_, rfl⟩
    have hxg : L[k] = x := by rw [← hx, List.getD_eq_getElem?_getD, List.getElem?_eq_getElem hkl]; rfl
    have hxm : x ∈ L := by rw [← hxg]; exact List.getElem_mem hkl
    have hxo := hok x hxm
    have e1 := hxo.k
    have e2 := hxo.v
    have e3 := hxo.p
    have m1 : x.p.length < 1000000 := by omega
    have m2 : x.k.length < 50000 := by omega
    have m3 : x.v.length < 50000 := by omega
    rw [hx] at hat
    have hat : ((flL L).drop (((k : Nat) : Int).toNat * 5)).take 5 = [CV.int .i64 x.i, .int .i64 x.c, .str x.k, .str x.v, .sl 1 x.p.length (strs x.p) false] := hat
    have hix : ti50.size = 5 ∧ (0 : Int) ≤ (k : Int) ∧ (k : Int) < ((L.length : Nat) : Int) := ⟨rfl, by omega, by omega⟩
    have hk1 : IntKind.i64.wrap ((k : Int) + 1) = ((k + 1 : Nat) : Int) := by rw [wrap_i64 (by omega) (by omega)]; rfl
    cases hg : goodC root x with
    | true =>
      have c1 : (!goodC root ⟨x.i, x.c, x.k, x.v, x.p⟩) = false := by rw [show goodC root ⟨x.i, x.c, x.k, x.v, x.p⟩ = true from hg]; rfl
      have hnext : ∀ j, j < k + 1 → goodC root (L.getD j lf0) = true := fun j hj => by
        rcases Nat.lt_or_ge j k with q | q
        · exact hall j q
        · rw [show j = k by omega, hx]
          exact hg
      (conv => whnf)
      (repeat (first | (refine Need.mk hix ?_; conv => whnf) | (refine ⟨_, hat, ?_⟩; conv => whnf) | (refine CallClo.auto (clb1_k hK) ⟨x.p, rfl, rfl, m1, m2, m3, ?_⟩; conv => whnf) | (refine Both.of_false c1 ?_; conv => whnf) | (exact Out.same; conv => whnf) | (exact Out1.same; conv => whnf) | (refine QAnd.mk ?_ ?_; conv => whnf) | (apply QStepH.go; conv => whnf) | (refine Both.lit_true ?_; conv => whnf) | (refine Both.lit_false ?_; conv => whnf) | (apply QStep.go; conv => whnf) | (refine Need.au ?_; conv => whnf) | (refine ⟨_, rfl, ?_⟩; conv => whnf)))
      refine ⟨k + 1, ⟨hkl, hnext⟩, by omega, Weak.auto ?_⟩
      (repeat' ((conv => whnf); first | exact True.intro | (refine And.intro ?_ ?_)))
      all_goals first | rfl | exact .eq rfl | exact congrArg (SV.int .i64) hk1
    | false =>
      have c1 : (!goodC root ⟨x.i, x.c, x.k, x.v, x.p⟩) = true := by rw [show goodC root ⟨x.i, x.c, x.k, x.v, x.p⟩ = false from hg]; rfl
      have h := h (k : Int) ⟨fun _ q => (by rw [q x hxm] at hg; cases hg), fun _ => by omega⟩
      (conv => whnf)
      (repeat (first | (refine Need.mk hix ?_; conv => whnf) | (refine ⟨_, hat, ?_⟩; conv => whnf) | (refine CallClo.auto (clb1_k hK) ⟨x.p, rfl, rfl, m1, m2, m3, ?_⟩; conv => whnf) | (refine Both.of_true c1 ?_; conv => whnf) | (exact Out.same; conv => whnf) | (exact Out1.same; conv => whnf) | (refine QAnd.mk ?_ ?_; conv => whnf) | (apply QStepH.go; conv => whnf) | (refine Both.lit_true ?_; conv => whnf) | (refine Both.lit_false ?_; conv => whnf) | (apply QStep.go; conv => whnf) | (refine Need.au ?_; conv => whnf) | (refine ⟨_, rfl, ?_⟩; conv => whnf)))
      refine ⟨_, _, WeakV.auto ?_, h⟩
      (repeat' ((conv => whnf); first | exact True.intro | (refine And.intro ?_ ?_)))
      all_goals first | rfl | exact .eq rfl
  · have h := h (-1) ⟨fun q => absurd q (by decide), fun q => absurd (fun x hx => by
      obtain ⟨j, hj, rfl⟩ := List.mem_iff_getElem.1 hx
      have := hall j (by omega)
      rw [List.getD_eq_getElem?_getD, List.getElem?_eq_getElem hj] at this
      exact this) q⟩
    (conv => whnf)
    (repeat (first | (exact Out.same; conv => whnf) | (exact Out1.same; conv => whnf) | (refine QAnd.mk ?_ ?_; conv => whnf) | (apply QStepH.go; conv => whnf) | (refine Both.lit_true ?_; conv => whnf) | (refine Both.lit_false ?_; conv => whnf) | (apply QStep.go; conv => whnf) | (refine Need.au ?_; conv => whnf) | (refine ⟨_, rfl, ?_⟩; conv => whnf)))
    refine ⟨_, _, WeakV.auto ?_, h⟩
    (repeat' ((conv => whnf); first | exact True.intro | (refine And.intro ?_ ?_)))
    all_goals first | rfl | exact .eq rfl
theorem idx3_k {y0 : CV} {cs0 : List CV} (hK : KAt y0 cs0) : Contract Tryz.prog [(0, y0 :: cs0)] 65 idx3S := ⟨⟨⟨_, rfl, rfl, rfl⟩⟩, idx3_c hK⟩
def con3S : Spec := fun args H Q => match args, H with
  | [.sl 5 n cs f, .func (.func 44) [.ptr 0 0]], [.cells [.str root] 9] => ∃ L : List Lf, cs = flL L ∧ n = L.length ∧ L.length ≤ 1000000 ∧ (∀ x ∈ L, okLf x) ∧ Q (.bool (decide (¬ ∀ x ∈ L, goodC root x = true))) [.cells [.str root] 9]
  | _, _ => False
theorem con3_c {y0 : CV} {cs0 : List CV} (hK : KAt y0 cs0) : Meets Tryz.prog [(0, y0 :: cs0)] 30 con3S := by
  refine meets_of Γok Tryz.func30 rfl ?_
  intro args H Q h
  unfold con3S at h
  split at h
  case h_2 => exact h.elim
  rename_i n cs f root
  obtain ⟨L, rfl, rfl, hL, hok, h⟩ := h
  (refine sx_sound Γok _ ?_; conv => whnf)
  (repeat (first | (exact Out.same; conv => whnf) | (exact Out1.same; conv => whnf) | (refine QAnd.mk ?_ ?_; conv => whnf) | (apply QStepH.go; conv => whnf) | (refine Both.lit_true ?_; conv => whnf) | (refine Both.lit_false ?_; conv => whnf) | (apply QStep.go; conv => whnf) | (refine Need.au ?_; conv => whnf) | (refine ⟨_, rfl, ?_⟩; conv => whnf)))
  refine CallVC.auto (idx3_k hK) ⟨L, rfl, rfl, hL, hok, fun r hr => ?_⟩
  have e : decide (0 ≤ r) = decide (¬ ∀ x ∈ L, goodC root x = true) := decide_eq_decide.2 hr
  rw [← e] at h
  (conv => whnf)
  (repeat (first | (exact Out.same; conv => whnf) | (exact Out1.same; conv => whnf) | (refine QAnd.mk ?_ ?_; conv => whnf) | (apply QStepH.go; conv => whnf) | (refine Both.lit_true ?_; conv => whnf) | (refine Both.lit_false ?_; conv => whnf) | (apply QStep.go; conv => whnf) | (refine Need.au ?_; conv => whnf) | (refine ⟨_, rfl, ?_⟩; conv => whnf)))
  refine ⟨_, _, WeakV.auto ?_, h⟩
  (repeat' ((conv => whnf); first | exact True.intro | (refine And.intro ?_ ?_)))
  all_goals first | rfl | exact .eq rfl
theorem con3_k {y0 : CV} {cs0 : List CV} (hK : KAt y0 cs0) : Contract Tryz.prog [(0, y0 :: cs0)] 30 con3S := ⟨⟨⟨_, rfl, rfl, rfl⟩⟩, con3_c hK⟩
def climb9S : Spec := fun args H Q => match args, H with
  | [.str root, .sl 5 n cs f], [] => ∃ L : List Lf, cs = flL L ∧ n = L.length ∧ L.length ≤ 1000000 ∧ (∀ x ∈ L, okLf x) ∧ Q (.bool (decide (∀ x ∈ L, goodC root x = true))) []
  | _, _ => False
theorem climb9_c {y0 : CV} {cs0 : List CV} (hK : KAt y0 cs0) : Meets Tryz.prog [(0, y0 :: cs0)] 20 climb9S := by
  refine meets_of Γok Tryz.func20 rfl ?_
  intro args H Q h
  unfold climb9S at h
  split at h
  case h_2 => exact h.elim
  rename_i root n cs f
  obtain ⟨L, rfl, rfl, hL, hok, h⟩ := h
  have e : (!decide (¬ ∀ x ∈ L, goodC root x = true)) = decide (∀ x ∈ L, goodC root x = true) := by
    by_cases q : ∀ x ∈ L, goodC root x = true
    · rw [decide_eq_false (fun u => u q), decide_eq_true q]
      rfl
    · rw [decide_eq_true q, decide_eq_false q]
      rfl
  rw [← e] at h
  (refine sx_sound Γok _ ?_; conv => whnf)
  (repeat (first | (refine CallVC.auto (con3_k hK) ⟨L, rfl, rfl, hL, hok, ?_⟩; conv => whnf) | (exact Out.same; conv => whnf) | (exact Out1.same; conv => whnf) | (refine QAnd.mk ?_ ?_; conv => whnf) | (apply QStepH.go; conv => whnf) | (refine Both.lit_true ?_; conv => whnf) | (refine Both.lit_false ?_; conv => whnf) | (apply QStep.go; conv => whnf) | (refine Need.au ?_; conv => whnf) | (refine ⟨_, rfl, ?_⟩; conv => whnf)))
  exact ⟨_, _, WeakV.drop rfl, h⟩
theorem climb9_k {y0 : CV} {cs0 : List CV} (hK : KAt y0 cs0) : Contract Tryz.prog [(0, y0 :: cs0)] 20 climb9S := ⟨⟨⟨_, rfl, rfl, rfl⟩⟩, climb9_c hK⟩
end Go.LX
end
section
set_option maxRecDepth 100000
set_option maxHeartbeats 2000000
set_option autoImplicit false
set_option linter.unusedVariables false
set_option linter.unusedSimpArgs false
namespace Go.LX
open Go.Proofs

def hasP (root s key value : Bs) : Prop := ∃ x : Lf, parseV s = ((false, [x]), 0) ∧ (x.k = key ∧ x.v = value) ∧ goodC root x = true
open Classical in
def hasS : Spec := fun args H Q => match args, H with
  | [.str root, .str s, .str key, .str value], [] => s.length < 1000000 ∧ Q (.bool (decide (hasP root s key value))) []
  | _, _ => False
open Classical in
theorem has_c {y0 : CV} {cs0 : List CV} (hK : KAt y0 cs0) : Meets Tryz.prog [(0, y0 :: cs0)] 8 hasS := by
  refine meets_of Γok Tryz.func8 rfl ?_
  intro args H Q h
  unfold hasS at h
  split at h
  case h_2 => exact h.elim
  rename_i root s key value
  obtain ⟨hs, h⟩ := h
  have cz : decide ((0 : Int) = 0) = true := rfl
  have c5 : decide ((5 : Int) = 0) = false := rfl
  have hno : (¬ hasP root s key value) → Q (.bool false) [] := fun q => by rw [decide_eq_false q] at h; exact h
  have hyes : hasP root s key value → Q (.bool true) [] := fun q => by rw [decide_eq_true q] at h; exact h
  clear h
  rcases parseV_cases s with ⟨a, L, hf, hr, hp⟩ | hp
  case inr =>
    have h := hno (fun ⟨x, q, _⟩ => by
      have := (Prod.mk.inj (hp.symm.trans q)).2
      cases this)
    (refine sx_sound Γok _ ?_; conv => whnf)
    (repeat (first | (exact Out.same; conv => whnf) | (exact Out1.same; conv => whnf) | (refine QAnd.mk ?_ ?_; conv => whnf) | (apply QStepH.go; conv => whnf) | (refine Both.lit_true ?_; conv => whnf) | (refine Both.lit_false ?_; conv => whnf) | (apply QStep.go; conv => whnf) | (refine Need.au ?_; conv => whnf) | (refine ⟨_, rfl, ?_⟩; conv => whnf)))
    refine CallVC.auto pparse_k.gl ⟨hs, fun a1 L1 e1 h1 => ?_⟩
    obtain ⟨u1, u3⟩ := Prod.mk.inj (h1.symm.trans hp)
    obtain ⟨u1, u2⟩ := Prod.mk.inj u1
    clear h1
    subst u1 u2 u3
    (conv => whnf)
    (repeat (first | (refine Both.of_false c5 ?_; conv => whnf) | (exact Out.same; conv => whnf) | (exact Out1.same; conv => whnf) | (refine QAnd.mk ?_ ?_; conv => whnf) | (apply QStepH.go; conv => whnf) | (refine Both.lit_true ?_; conv => whnf) | (refine Both.lit_false ?_; conv => whnf) | (apply QStep.go; conv => whnf) | (refine Need.au ?_; conv => whnf) | (refine ⟨_, rfl, ?_⟩; conv => whnf)))
    exact ⟨_, _, WeakV.drop rfl, h⟩
  (refine sx_sound Γok _ ?_; conv => whnf)
  (repeat (first | (exact Out.same; conv => whnf) | (exact Out1.same; conv => whnf) | (refine QAnd.mk ?_ ?_; conv => whnf) | (apply QStepH.go; conv => whnf) | (refine Both.lit_true ?_; conv => whnf) | (refine Both.lit_false ?_; conv => whnf) | (apply QStep.go; conv => whnf) | (refine Need.au ?_; conv => whnf) | (refine ⟨_, rfl, ?_⟩; conv => whnf)))
  refine CallVC.auto pparse_k.gl ⟨hs, fun a1 L1 e1 h1 => ?_⟩
  obtain ⟨u1, u3⟩ := Prod.mk.inj (h1.symm.trans hp)
  obtain ⟨u1, u2⟩ := Prod.mk.inj u1
  clear h1
  subst u1 u2 u3
  cases a1 with
  | true =>
    have h := hno (fun ⟨x, q, _⟩ => by
      have := (Prod.mk.inj (Prod.mk.inj (hp.symm.trans q)).1).1
      cases this)
    (conv => whnf)
    (repeat (first | (refine Both.of_true cz ?_; conv => whnf) | (exact Out.same; conv => whnf) | (exact Out1.same; conv => whnf) | (refine QAnd.mk ?_ ?_; conv => whnf) | (apply QStepH.go; conv => whnf) | (refine Both.lit_true ?_; conv => whnf) | (refine Both.lit_false ?_; conv => whnf) | (apply QStep.go; conv => whnf) | (refine Need.au ?_; conv => whnf) | (refine ⟨_, rfl, ?_⟩; conv => whnf)))
    exact ⟨_, _, WeakV.drop rfl, h⟩
  | false =>
  by_cases hl : L1.length = 1
  case neg =>
    have cl : decide (((L1.length : Nat) : Int) = 1) = false := decide_eq_false (by omega)
    have h := hno (fun ⟨x, q, _⟩ => by
      have := (Prod.mk.inj (Prod.mk.inj (hp.symm.trans q)).1).2
      rw [this] at hl
      exact hl rfl)
    (conv => whnf)
    (repeat (first | (refine Both.of_true cz ?_; conv => whnf) | (refine Both.of_false cl ?_; conv => whnf) | (exact Out.same; conv => whnf) | (exact Out1.same; conv => whnf) | (refine QAnd.mk ?_ ?_; conv => whnf) | (apply QStepH.go; conv => whnf) | (refine Both.lit_true ?_; conv => whnf) | (refine Both.lit_false ?_; conv => whnf) | (apply QStep.go; conv => whnf) | (refine Need.au ?_; conv => whnf) | (refine ⟨_, rfl, ?_⟩; conv => whnf)))
    exact ⟨_, _, WeakV.drop rfl, h⟩
  obtain ⟨x, rfl⟩ : ∃ x, L1 = [x] := List.length_eq_one_iff.1 hl
  have hxo := hf.2 x (List.mem_singleton.2 rfl)
  have cl : decide (((([x] : List Lf).length : Nat) : Int) = 1) = true := rfl
  have hat : ((flL [x]).drop ((0 : Int).toNat * 5)).take 5 = [CV.int .i64 x.i, .int .i64 x.c, .str x.k, .str x.v, .sl 1 x.p.length (strs x.p) false] := rfl
  have hix : ti50.size = 5 ∧ (0 : Int) ≤ 0 ∧ (0 : Int) < ((([x] : List Lf).length : Nat) : Int) := ⟨rfl, by omega, by simp⟩
  have ho1 : ([x] : List Lf).length ≤ 1000000 := by show 1 ≤ 1000000; decide
  have hoA : ∀ z ∈ [x], okLf z := fun z hz => by rw [List.mem_singleton.1 hz]; exact hxo
  by_cases hkv : x.k = key ∧ x.v = value
  case neg =>
    have ck : (decide (x.k = key) && (decide (x.v = value) && true)) = false := by
      by_cases q1 : x.k = key
      · rw [decide_eq_false (fun q2 : x.v = value => hkv ⟨q1, q2⟩)]
        simp
      · rw [decide_eq_false q1]
        rfl
    have h := hno (fun ⟨z, q, q2, _⟩ => by
      have := (Prod.mk.inj (Prod.mk.inj (hp.symm.trans q)).1).2
      obtain rfl : x = z := by simpa using this
      exact hkv q2)
    (conv => whnf)
    (repeat (first | (refine Both.of_true cz ?_; conv => whnf) | (refine Both.of_true cl ?_; conv => whnf) | (refine Need.mk hix ?_; conv => whnf) | (refine ⟨_, hat, ?_⟩; conv => whnf) | (refine Both.of_false ck ?_; conv => whnf) | (exact Out.same; conv => whnf) | (exact Out1.same; conv => whnf) | (refine QAnd.mk ?_ ?_; conv => whnf) | (apply QStepH.go; conv => whnf) | (refine Both.lit_true ?_; conv => whnf) | (refine Both.lit_false ?_; conv => whnf) | (apply QStep.go; conv => whnf) | (refine Need.au ?_; conv => whnf) | (refine ⟨_, rfl, ?_⟩; conv => whnf)))
    exact ⟨_, _, WeakV.drop rfl, h⟩
  have ck : (decide (x.k = key) && (decide (x.v = value) && true)) = true := by rw [decide_eq_true hkv.1, decide_eq_true hkv.2]; rfl
  have hfin : Q (.bool (decide (∀ z ∈ [x], goodC root z = true))) [] := by
    by_cases hg : goodC root x = true
    · rw [decide_eq_true (show ∀ z ∈ [x], goodC root z = true from fun z hz => by rw [List.mem_singleton.1 hz]; exact hg)]
      exact hyes ⟨x, hp, hkv, hg⟩
    · rw [decide_eq_false (fun q : ∀ z ∈ [x], goodC root z = true => hg (q x (List.mem_singleton.2 rfl)))]
      exact hno (fun ⟨z, q, _, q3⟩ => by
        have := (Prod.mk.inj (Prod.mk.inj (hp.symm.trans q)).1).2
        obtain rfl : x = z := by simpa using this
        exact hg q3)
  (conv => whnf)
  (repeat (first | (refine Both.of_true cz ?_; conv => whnf) | (refine Both.of_true cl ?_; conv => whnf) | (refine Need.mk hix ?_; conv => whnf) | (refine ⟨_, hat, ?_⟩; conv => whnf) | (refine Both.of_true ck ?_; conv => whnf) | (exact Out.same; conv => whnf) | (exact Out1.same; conv => whnf) | (refine QAnd.mk ?_ ?_; conv => whnf) | (apply QStepH.go; conv => whnf) | (refine Both.lit_true ?_; conv => whnf) | (refine Both.lit_false ?_; conv => whnf) | (apply QStep.go; conv => whnf) | (refine Need.au ?_; conv => whnf) | (refine ⟨_, rfl, ?_⟩; conv => whnf)))
  refine CallVC.auto (climb9_k hK) ⟨[x], rfl, rfl, ho1, hoA, ?_⟩
  (conv => whnf)
  (repeat (first | (exact Out.same; conv => whnf) | (exact Out1.same; conv => whnf) | (refine QAnd.mk ?_ ?_; conv => whnf) | (apply QStepH.go; conv => whnf) | (refine Both.lit_true ?_; conv => whnf) | (refine Both.lit_false ?_; conv => whnf) | (apply QStep.go; conv => whnf) | (refine Need.au ?_; conv => whnf) | (refine ⟨_, rfl, ?_⟩; conv => whnf)))
  exact ⟨_, _, WeakV.drop rfl, hfin⟩
theorem has_k {y0 : CV} {cs0 : List CV} (hK : KAt y0 cs0) : Contract Tryz.prog [(0, y0 :: cs0)] 8 hasS := ⟨⟨⟨_, rfl, rfl, rfl⟩⟩, has_c hK⟩
end Go.LX
end
