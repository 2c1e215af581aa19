/- Own texts of this claim, in build order: Vg2, Lo, VO, Ru. -/
import Derived.Test.YtpimpjcknammfaaGreatDoorY6
import Derived.Test.YtpimpjcknammfaaGreatDoorRows
import Derived.Lib.LaidTab
import Derived.MakeChecks
import Derived.LaidMore
section
set_option maxRecDepth 100000
set_option maxHeartbeats 4000000
set_option autoImplicit false
set_option linter.unusedVariables false
set_option linter.unusedSimpArgs false
namespace Go.LX
open Go.Proofs

theorem oleH_refl : ∀ H : List LObj, leH H H
  | [] => trivial
  | .cells c e :: r => ⟨.eq rfl, rfl, oleH_refl r⟩
  | .own .. :: r => ⟨rfl, oleH_refl r⟩
  | .map .. :: r => ⟨rfl, oleH_refl r⟩
  | .gone :: r => oleH_refl r
theorem oleH_set {c c' : List SV} {e : TypeId} (hle : leT c c') : ∀ (H : List LObj) (i : Nat), H[i]? = some (.cells c e) → leH H (H.set i (.cells c' e))
  | [], i, h => by cases h
  | x :: r, 0, h => by
    cases h
    exact ⟨.pt hle, rfl, oleH_refl r⟩
  | x :: r, i + 1, h => by
    have ih := oleH_set hle r i h
    cases x with
    | cells c0 e0 => exact ⟨.eq rfl, rfl, ih⟩
    | own => exact ⟨rfl, ih⟩
    | map => exact ⟨rfl, ih⟩
    | gone => exact ih
theorem oleT_refl : ∀ l : List SV, leT l l
  | [] => trivial
  | x :: r => by
    cases x <;> first | exact oleT_refl r | exact ⟨rfl, oleT_refl r⟩ | exact ⟨⟨rfl, rfl⟩, oleT_refl r⟩
theorem Weak.ocells {G : Gl} {N : Nat} {s : LS} (i : Nat) {c c' : List SV} {e : TypeId} (hi : s.h[i]? = some (.cells c e)) (hle : leT c c') : Weak G N s ⟨s.t, s.h.set i (.cells c' e)⟩ := Weak.le (oleT_refl _) (oleH_set hle _ _ hi)
def owB (D : Dsk) (w : W7) : List LObj := [.cells [.ptr 1 0, .ptr 4 0, .any, .any, .any, .any] 33,
      .cells [.int .i64 (D.sz : Int), .int .i64 (D.sc : Int), .own 2, .own 3, .int .i64 (D.ar : Int)] 79, .own 9 1 D.st.length (D.st.map CV.str) true, .own 91 2 D.buf.length (D.buf.flatMap wrEn) true,
      .cells [.ptr 1 0, .int .u64 (w.g : Int), .int .i64 w.sg, .int .i64 w.slot, .int .i64 (w.used : Int), .int .u64 (w.sn : Int), .bool w.ready, .bool w.broken] 74]
structure O7 (D : Dsk) (w : W7) (now : List Bs) (k : Nat) : Prop where
  inv : Inv7 D w now
  g : w.g ≤ k + 1
theorem O7.up {D : Dsk} {w : W7} {now : List Bs} {k : Nat} (h : O7 D w now k) : O7 D w now (k + 1) := ⟨h.inv, by have := h.g; omega⟩
theorem old_app {D : Dsk} {w : W7} {now : List Bs} {k : Nat} {s : Bs} (h : O7 D w now k) : (∃ D' w', appL D w s = (0, D', w') ∧ O7 D' w' (now ++ [s]) (k + 1)) ∨ ∃ e, e ≠ 0 ∧ e ≠ 13 ∧ appL D w s = (e, D, w) := by
  by_cases hc : w.ready = true ∧ partsV D.sz s.length ≠ 0 ∧ fitsW D w s.length
  · have hpf := parts_facts hc.2.1
    obtain ⟨D', h1, h2, _, _⟩ := inv_app (s := s) h.inv hpf.2.2.1 hc.1 hc.2.2
    exact .inl ⟨D', _, h1, h2, by have := h.g; show w.g ≤ k + 1 + 1; omega⟩
  · exact .inr (app_no h.inv.br hc)
theorem old_chk {D : Dsk} {w : W7} {now : List Bs} {k : Nat} {s : Bs} (h : O7 D w now k) (hk : k ≤ 1000) : (∃ D' w', chkL D w s = (0, D', w') ∧ O7 D' w' [s] (k + 1)) ∨ ∃ e, e ≠ 0 ∧ e ≠ 13 ∧ chkL D w s = (e, D, w) := by
  have hg := h.g
  by_cases hc : partsV D.sz s.length = 0 ∨ segV D < partsV D.sz s.length
  · exact .inr (chk_no h.inv.br hc)
  · have h0 : partsV D.sz s.length ≠ 0 := fun q => hc (.inl q)
    have hpf := parts_facts h0
    obtain ⟨D', h1, h2, _, _⟩ := inv_chk (s := s) h.inv hpf.2.2.1 (by omega) (by omega)
    exact .inl ⟨D', _, h1, h2, by show w.g + 1 ≤ k + 1 + 1; omega⟩
def lawOld7S : Spec := fun args H Q => match args, H with
  | [.int .i64 z, .int .i64 c, .sl 5 n cs f], [] => ∃ l : List Act7, n = l.length ∧ cs = l.flatMap enC ∧ Q (.bool true) []
  | _, _ => False
theorem old7_law : Meets Tryz.prog [] 4 lawOld7S := by
  refine meets_of Γok Tryz.func4 rfl ?_
  intro args H Q h
  unfold lawOld7S at h
  split at h
  case h_2 => exact h.elim
  rename_i z c n cs f
  obtain ⟨l, rfl, rfl, h⟩ := h
  (refine sx_sound Γok _ ?_; conv => whnf)
  (repeat (first | (exact Out.same; conv => whnf) | (exact Out1.same; conv => whnf) | (refine QAnd.mk ?_ ?_; conv => whnf) | (apply QStepH.go; conv => whnf) | (refine Both.lit_true ?_; conv => whnf) | (refine Both.lit_false ?_; conv => whnf) | (apply QStep.go; conv => whnf) | (refine Need.au ?_; conv => whnf) | (refine ⟨_, rfl, ?_⟩; conv => whnf) | (refine CallVC.auto awake7_k ?_; conv => whnf)))
  refine CallVC.auto few7_k ⟨l, rfl, rfl, ?_⟩
  intro b1 hb1
  cases b1
  · (conv => whnf)
    (repeat (first | (exact Out.same; conv => whnf) | (exact Out1.same; conv => whnf) | (refine QAnd.mk ?_ ?_; conv => whnf) | (apply QStepH.go; conv => whnf) | (refine Both.lit_true ?_; conv => whnf) | (refine Both.lit_false ?_; conv => whnf) | (apply QStep.go; conv => whnf) | (refine Need.au ?_; conv => whnf) | (refine ⟨_, rfl, ?_⟩; conv => whnf) | (refine Both.of_false ?_ ?_; (focus (first | rfl | (simp <;> fail))); conv => whnf) | (refine Both.of_true ?_ ?_; (focus (first | rfl | (simp <;> fail))); conv => whnf)))
    exact ⟨_, _, WeakV.drop rfl, h⟩
  obtain ⟨hz, hc, hlen, hsm⟩ := hb1 rfl
  clear hb1
  have hokg : okG z c = true := decide_eq_true (by omega)
  (conv => whnf)
  (repeat (first | (exact Out.same; conv => whnf) | (exact Out1.same; conv => whnf) | (refine QAnd.mk ?_ ?_; conv => whnf) | (apply QStepH.go; conv => whnf) | (refine Both.lit_true ?_; conv => whnf) | (refine Both.lit_false ?_; conv => whnf) | (apply QStep.go; conv => whnf) | (refine Need.au ?_; conv => whnf) | (refine ⟨_, rfl, ?_⟩; conv => whnf)))
  refine Both.dec (fun hc4 => ?_) (fun hc4 => ?_)
  · (conv => whnf)
    (repeat (first | (exact Out.same; conv => whnf) | (exact Out1.same; conv => whnf) | (refine QAnd.mk ?_ ?_; conv => whnf) | (apply QStepH.go; conv => whnf) | (refine Both.lit_true ?_; conv => whnf) | (refine Both.lit_false ?_; conv => whnf) | (apply QStep.go; conv => whnf) | (refine Need.au ?_; conv => whnf) | (refine ⟨_, rfl, ?_⟩; conv => whnf) | (refine Both.of_false ?_ ?_; (focus (first | rfl | (simp <;> fail))); conv => whnf) | (refine Both.of_true ?_ ?_; (focus (first | rfl | (simp <;> fail))); conv => whnf)))
    exact ⟨_, _, WeakV.drop rfl, h⟩
  obtain ⟨D0, hm, hi0, _, _⟩ := madeV_inv (z := z.toNat) (c := c.toNat) (by omega) (by omega)
  obtain ⟨w0, hw0⟩ : ∃ w0 : W7, (⟨1, 0, 1, 0, 0, false, false⟩ : W7) = w0 := ⟨_, rfl⟩
  have hg0 : w0.g ≤ 0 + 1 := by rw [← hw0]; exact Nat.le_refl _
  rw [hw0] at hm hi0
  have hO0 : O7 D0 w0 [] 0 := ⟨hi0, hg0⟩
  clear hw0 hg0
  (conv => whnf)
  (repeat (first | (refine CallVC.auto made7_k ⟨hokg, ?_⟩; conv => whnf) | (exact Out.same; conv => whnf) | (exact Out1.same; conv => whnf) | (refine QAnd.mk ?_ ?_; conv => whnf) | (apply QStepH.go; conv => whnf) | (refine Both.lit_true ?_; conv => whnf) | (refine Both.lit_false ?_; conv => whnf) | (apply QStep.go; conv => whnf) | (refine Need.au ?_; conv => whnf) | (refine ⟨_, rfl, ?_⟩; conv => whnf)))
  rw [hm]
  (conv => whnf)
  (repeat (first | (exact Out.same; conv => whnf) | (exact Out1.same; conv => whnf) | (refine QAnd.mk ?_ ?_; conv => whnf) | (apply QStepH.go; conv => whnf) | (refine Both.lit_true ?_; conv => whnf) | (refine Both.lit_false ?_; conv => whnf) | (apply QStep.go; conv => whnf) | (refine Need.au ?_; conv => whnf) | (refine ⟨_, rfl, ?_⟩; conv => whnf)))
  refine loop_rule (fun x : Nat × Dsk × W7 × List Bs × Bool => match x with | (k, D, w, now, fl) => ⟨[.any, .any, .sl 5 l.length (l.flatMap enC) f, .any, .any, .any, .any, .ptr 0 0, .sl 1 now.length (now.map CV.str) fl, .int .i64 (k : Int), .any, .any, .any, .any, .any, .any, .any, .any, .any, .any, .any, .any, .any, .any, .any, .any, .any, .any, .any, .any, .any, .any, .any, .any, .any, .any, .any, .any, .any, .any, .any, .any, .any, .any, .any, .any, .any, .any, .any, .any, .any, .any, .any, .any, .any, .any, .any, .any, .any, .any, .any, .any, .any, .any, .any, .any, .any, .any, .any, .any, .any, .any, .any, .any, .any, .any, .any, .any, .any, .any, .any, .any, .any, .any, .any, .any, .any, .any, .any, .any, .any, .any, .any, .any, .any, .any, .any, .any, .any, .any, .any, .any, .any, .any, .any, .any, .any, .any, .any, .any, .any, .any, .any, .any, .any, .any, .any, .any, .any, .any, .any, .any, .any, .any, .any, .any, .any, .any, .any, .any, .any, .any, .any, .any, .any, .any, .any, .any, .any, .any, .any, .any, .any, .any, .any, .any, .any, .any, .any, .any], owB D w⟩) (fun x => x.1 ≤ l.length ∧ O7 x.2.1 x.2.2.1 x.2.2.2.1 x.1) (fun x => l.length - x.1) (0, D0, w0, [], false) ⟨Nat.zero_le _, hO0⟩ ((Weak.ocells 0 (c' := [.ptr 1 0, .ptr 4 0, .any, .any, .any, .any]) rfl (by exact ⟨rfl, rfl, trivial⟩)).trans ((Weak.nilSlT 8 1 false rfl).trans (Weak.auto ?_))) ?_
  · (repeat' ((conv => whnf); first | exact True.intro | (refine And.intro ?_ ?_)))
    all_goals first | rfl | exact .eq rfl
  clear hO0 hm hi0
  rintro ⟨k, D, w, now, fl⟩ ⟨hkl0, hO⟩
  dsimp only at hkl0 hO
  (refine sx_sound Γok _ ?_; conv => whnf)
  (repeat (first | (exact Out.same; conv => whnf) | (exact Out1.same; conv => whnf) | (refine QAnd.mk ?_ ?_; conv => whnf) | (apply QStepH.go; conv => whnf) | (refine Both.lit_true ?_; conv => whnf) | (refine Both.lit_false ?_; conv => whnf) | (apply QStep.go; conv => whnf) | (refine Need.au ?_; conv => whnf) | (refine ⟨_, rfl, ?_⟩; conv => whnf)))
  refine Both.dec (fun hlt => ?_) (fun hge => ?_)
  rotate_left
  · (conv => whnf)
    (repeat (first | (exact Out.same; conv => whnf) | (exact Out1.same; conv => whnf) | (refine QAnd.mk ?_ ?_; conv => whnf) | (apply QStepH.go; conv => whnf) | (refine Both.lit_true ?_; conv => whnf) | (refine Both.lit_false ?_; conv => whnf) | (apply QStep.go; conv => whnf) | (refine Need.au ?_; conv => whnf) | (refine ⟨_, rfl, ?_⟩; conv => whnf)))
    exact ⟨_, _, WeakV.drop rfl, h⟩
  have hkl : k < l.length := by omega
  have hr : ((l.flatMap enC).drop (((k : Int)).toNat * 5)).take 5 = enC l[k] := rows_at (en := enC) (z := 5) (fun _ => rfl) l k hkl
  have has := hsm _ (List.getElem_mem hkl)
  have hwr : IntKind.i64.wrap ((k : Int) + 1) = ((k + 1 : Nat) : Int) := by rw [wrap_i64 (by omega) (by omega)]; rfl
  have hix : (5 : Nat) = 5 ∧ (0 : Int) ≤ (k : Int) ∧ (k : Int) < ((l.length : Nat) : Int) := by omega
  revert hr has
  generalize l[k] = a
  intro hr has
  have hs6 : a.s.length ≤ 1000000 := by have := has.1; omega
  have hb0 : D.buf.length ≤ 900000 := by rw [hO.inv.calm.buf]; exact Nat.zero_le _
  have ho := hO.inv.calm.ok
  have hwo := hO.inv.wok
  (conv => whnf)
  (repeat (first | (refine ⟨enC a, hr, ?_⟩; conv => whnf) | (exact Out.same; conv => whnf) | (exact Out1.same; conv => whnf) | (refine QAnd.mk ?_ ?_; conv => whnf) | (apply QStepH.go; conv => whnf) | (refine Both.lit_true ?_; conv => whnf) | (refine Both.lit_false ?_; conv => whnf) | (apply QStep.go; conv => whnf) | (refine Need.au ?_; conv => whnf) | (refine ⟨_, rfl, ?_⟩; conv => whnf)))
  refine Both.dec (fun hkd => ?_) (fun hkd => ?_)
  · have hO' := hO.up
    (conv => whnf)
    (repeat (first | (exact Out.same; conv => whnf) | (exact Out1.same; conv => whnf) | (refine QAnd.mk ?_ ?_; conv => whnf) | (apply QStepH.go; conv => whnf) | (refine Both.lit_true ?_; conv => whnf) | (refine Both.lit_false ?_; conv => whnf) | (apply QStep.go; conv => whnf) | (refine Need.au ?_; conv => whnf) | (refine ⟨_, rfl, ?_⟩; conv => whnf)))
    refine ⟨(k + 1, D, w, now, fl), ⟨hkl, hO'⟩, by show l.length - (k + 1) < l.length - k; omega, Weak.auto ?_⟩
    (repeat' ((conv => whnf); first | exact True.intro | (refine And.intro ?_ ?_)))
    all_goals first | rfl | exact .eq rfl | exact congrArg (SV.int .i64) hwr
  (conv => whnf)
  (repeat (first | (refine ⟨enC a, hr, ?_⟩; conv => whnf) | (exact Out.same; conv => whnf) | (exact Out1.same; conv => whnf) | (refine QAnd.mk ?_ ?_; conv => whnf) | (apply QStepH.go; conv => whnf) | (refine Both.lit_true ?_; conv => whnf) | (refine Both.lit_false ?_; conv => whnf) | (apply QStep.go; conv => whnf) | (refine Need.au ?_; conv => whnf) | (refine ⟨_, rfl, ?_⟩; conv => whnf)))
  refine Both.dec (fun hk0 => ?_) (fun hk0 => ?_)
  · rcases old_app (s := a.s) hO with ⟨D1, w1, hk1, hO1⟩ | ⟨e, he0, he13, hk1⟩
    · have ho1 := hO1.inv.calm.ok
      have hcal1 := hO1.inv.calm
      have hwo1 := hO1.inv.wok
      have hbk1 := hO1.inv.br
      have hll1 : (now ++ [a.s]).length ≤ 9223372036854775807 := by
        have h1 := hO1.inv.sn
        have h2 := hwo1.sn
        have h3 := hwo1.used
        have h4 := seg_bd ho1
        omega
      have hop1 := inv_open hO1.inv
      have hwn : (⟨w1.g, w1.sg, w1.slot, w1.used, w1.sn, false, false⟩ : W7).Ok D1 := ⟨hwo1.sc, hwo1.g, hwo1.sg, hwo1.slot, hwo1.used, hwo1.sn⟩
      have n1 : (!decide (((w1.g : Nat) : Int) = ((w1.g : Nat) : Int))) = false := by simp
      have n2 : (!decide (((w1.used : Nat) : Int) = ((w1.used : Nat) : Int))) = false := by simp
      have hcs2 : now.map CV.str ++ [CV.str a.s] = strL (now ++ [a.s]) := by simp
      have hln2 : 0 + now.length + 1 = (now ++ [a.s]).length := by simp
      have hsl2 : SV.sl 1 (0 + now.length + 1) (now.map CV.str ++ [CV.str a.s]) false = SV.sl 1 (now ++ [a.s]).length ((now ++ [a.s]).map CV.str) false := by rw [hcs2, hln2]
      have hnl : now.length ≤ 2047 := by
        have h1 := hO.inv.sn
        have h2 := hwo.sn
        have h3 := hwo.used
        have h4 := seg_bd ho
        omega
      (conv => whnf)
      (refine DrawVC.any Γok (by kernel_rfl) (by kernel_rfl) (by kernel_rfl) (by rfl) ?_; conv => whnf)
      (repeat (first | (refine Need.mk hix ?_; conv => whnf) | (refine ⟨enC a, hr, ?_⟩; conv => whnf) | (refine CallVC.auto appW_kE (wIn_mk ho hwo ⟨hs6, hb0, 0, D1, w1, hk1.symm, ?_⟩); conv => whnf) | (exact Out.same; conv => whnf) | (exact Out1.same; conv => whnf) | (refine QAnd.mk ?_ ?_; conv => whnf) | (apply QStepH.go; conv => whnf) | (refine Both.lit_true ?_; conv => whnf) | (refine Both.lit_false ?_; conv => whnf) | (apply QStep.go; conv => whnf) | (refine Need.au ?_; conv => whnf) | (refine ⟨_, rfl, ?_⟩; conv => whnf)))
      have hnb : (0 + now.length) * ti9.bytes ≤ 140737488355328 := by
        show (0 + now.length) * 16 ≤ 140737488355328
        omega
      have hnb2 : (0 + now.length + 1) * ti9.bytes ≤ 140737488355328 := by
        show (0 + now.length + 1) * 16 ≤ 140737488355328
        omega
      refine DrawVC.postWeak ?_
      (refine DrawVC.quiet [8] Γok (by kernel_rfl) (by kernel_rfl) (by kernel_rfl) (by rfl) ?_; conv => whnf)
      (repeat (first | (refine Need.mk hix ?_; conv => whnf) | (refine ⟨enC a, hr, ?_⟩; conv => whnf) | (refine Need.mk hnb ?_; conv => whnf) | (refine Need.mk hnb2 ?_; conv => whnf) | (exact Out.same; conv => whnf) | (exact Out1.same; conv => whnf) | (refine QAnd.mk ?_ ?_; conv => whnf) | (apply QStepH.go; conv => whnf) | (refine Both.lit_true ?_; conv => whnf) | (refine Both.lit_false ?_; conv => whnf) | (apply QStep.go; conv => whnf) | (refine Need.au ?_; conv => whnf) | (refine ⟨_, rfl, ?_⟩; conv => whnf)))
      refine ⟨_, Weak.pubT 8 rfl, ?_⟩
      (conv => whnf)
      (repeat (first | (refine CallVC.auto w7broken_k (wIn_mk ho1 hwo1 ?_); conv => whnf) | (refine Both.of_false hbk1 ?_; conv => whnf) | (refine CallVC.auto ccrash_k (dIn_mk ho1 ⟨hcal1, ?_⟩); conv => whnf) | (exact Out.same; conv => whnf) | (exact Out1.same; conv => whnf) | (refine QAnd.mk ?_ ?_; conv => whnf) | (apply QStepH.go; conv => whnf) | (refine Both.lit_true ?_; conv => whnf) | (refine Both.lit_false ?_; conv => whnf) | (apply QStep.go; conv => whnf) | (refine Need.au ?_; conv => whnf) | (refine ⟨_, rfl, ?_⟩; conv => whnf)))
      (repeat (first | (refine CallVC.auto copen_k (dIn_mk ho1 ⟨hcal1, D1, ⟨w1.g, w1.sg, w1.slot, w1.used, w1.sn, false, false⟩, (now ++ [a.s]), hop1, ?_⟩); conv => whnf) | (exact Out.same; conv => whnf) | (exact Out1.same; conv => whnf) | (refine QAnd.mk ?_ ?_; conv => whnf) | (apply QStepH.go; conv => whnf) | (refine Both.lit_true ?_; conv => whnf) | (refine Both.lit_false ?_; conv => whnf) | (apply QStep.go; conv => whnf) | (refine Need.au ?_; conv => whnf) | (refine ⟨_, rfl, ?_⟩; conv => whnf)))
      (refine DrawVC.any Γok (by kernel_rfl) (by kernel_rfl) (by kernel_rfl) (by rfl) ?_; conv => whnf)
      (repeat (first | (refine CallVC.auto like_k ⟨(now ++ [a.s]), rfl, hcs2, rfl, hln2, hll1, ?_⟩; conv => whnf) | (exact Out.same; conv => whnf) | (exact Out1.same; conv => whnf) | (refine QAnd.mk ?_ ?_; conv => whnf) | (apply QStepH.go; conv => whnf) | (refine Both.lit_true ?_; conv => whnf) | (refine Both.lit_false ?_; conv => whnf) | (apply QStep.go; conv => whnf) | (refine Need.au ?_; conv => whnf) | (refine ⟨_, rfl, ?_⟩; conv => whnf)))
      refine CallVC.auto w7gen_k (wIn_mk ho1 hwn ?_)
      (conv => whnf)
      (repeat (first | (exact Out.same; conv => whnf) | (exact Out1.same; conv => whnf) | (refine QAnd.mk ?_ ?_; conv => whnf) | (apply QStepH.go; conv => whnf) | (refine Both.lit_true ?_; conv => whnf) | (refine Both.lit_false ?_; conv => whnf) | (apply QStep.go; conv => whnf) | (refine Need.au ?_; conv => whnf) | (refine ⟨_, rfl, ?_⟩; conv => whnf)))
      refine CallVC.auto w7gen_k (wIn_mk ho1 hwo1 ?_)
      (conv => whnf)
      (repeat (first | (refine Both.of_false n1 ?_; conv => whnf) | (exact Out.same; conv => whnf) | (exact Out1.same; conv => whnf) | (refine QAnd.mk ?_ ?_; conv => whnf) | (apply QStepH.go; conv => whnf) | (refine Both.lit_true ?_; conv => whnf) | (refine Both.lit_false ?_; conv => whnf) | (apply QStep.go; conv => whnf) | (refine Need.au ?_; conv => whnf) | (refine ⟨_, rfl, ?_⟩; conv => whnf)))
      refine CallVC.auto w7used_k (wIn_mk ho1 hwn ?_)
      (conv => whnf)
      (repeat (first | (exact Out.same; conv => whnf) | (exact Out1.same; conv => whnf) | (refine QAnd.mk ?_ ?_; conv => whnf) | (apply QStepH.go; conv => whnf) | (refine Both.lit_true ?_; conv => whnf) | (refine Both.lit_false ?_; conv => whnf) | (apply QStep.go; conv => whnf) | (refine Need.au ?_; conv => whnf) | (refine ⟨_, rfl, ?_⟩; conv => whnf)))
      refine CallVC.auto w7used_k (wIn_mk ho1 hwo1 ?_)
      (conv => whnf)
      (repeat (first | (refine Both.of_false n2 ?_; conv => whnf) | (exact Out.same; conv => whnf) | (exact Out1.same; conv => whnf) | (refine QAnd.mk ?_ ?_; conv => whnf) | (apply QStepH.go; conv => whnf) | (refine Both.lit_true ?_; conv => whnf) | (refine Both.lit_false ?_; conv => whnf) | (apply QStep.go; conv => whnf) | (refine Need.au ?_; conv => whnf) | (refine ⟨_, rfl, ?_⟩; conv => whnf)))
      refine ⟨(k + 1, D1, w1, (now ++ [a.s]), false), ⟨hkl, hO1⟩, by show l.length - (k + 1) < l.length - k; omega, Weak.auto ?_⟩
      (repeat' ((conv => whnf); first | exact True.intro | (refine And.intro ?_ ?_)))
      all_goals first | rfl | exact .eq rfl | exact congrArg (SV.int .i64) hwr | exact hsl2
    · have hO1 := hO.up
      have ho1 := hO1.inv.calm.ok
      have hcal1 := hO1.inv.calm
      have hwo1 := hO1.inv.wok
      have hbk1 := hO1.inv.br
      have hll1 : now.length ≤ 9223372036854775807 := by
        have h1 := hO1.inv.sn
        have h2 := hwo1.sn
        have h3 := hwo1.used
        have h4 := seg_bd ho1
        omega
      have hop1 := inv_open hO1.inv
      have hwn : (⟨w.g, w.sg, w.slot, w.used, w.sn, false, false⟩ : W7).Ok D := ⟨hwo1.sc, hwo1.g, hwo1.sg, hwo1.slot, hwo1.used, hwo1.sn⟩
      have n1 : (!decide (((w.g : Nat) : Int) = ((w.g : Nat) : Int))) = false := by simp
      have n2 : (!decide (((w.used : Nat) : Int) = ((w.used : Nat) : Int))) = false := by simp
      have c0 : decide (e = 0) = false := decide_eq_false he0
      have c13 : decide (e = 13) = false := decide_eq_false he13
      (conv => whnf)
      (refine DrawVC.any Γok (by kernel_rfl) (by kernel_rfl) (by kernel_rfl) (by rfl) ?_; conv => whnf)
      (repeat (first | (refine Need.mk hix ?_; conv => whnf) | (refine ⟨enC a, hr, ?_⟩; conv => whnf) | (refine CallVC.auto appW_kE (wIn_mk ho hwo ⟨hs6, hb0, e, D, w, hk1.symm, ?_⟩); conv => whnf) | (refine Both.of_false c0 ?_; conv => whnf) | (refine Both.of_false c13 ?_; conv => whnf) | (exact Out.same; conv => whnf) | (exact Out1.same; conv => whnf) | (refine QAnd.mk ?_ ?_; conv => whnf) | (apply QStepH.go; conv => whnf) | (refine Both.lit_true ?_; conv => whnf) | (refine Both.lit_false ?_; conv => whnf) | (apply QStep.go; conv => whnf) | (refine Need.au ?_; conv => whnf) | (refine ⟨_, rfl, ?_⟩; conv => whnf)))
      (repeat (first | (refine CallVC.auto w7broken_k (wIn_mk ho1 hwo1 ?_); conv => whnf) | (refine Both.of_false hbk1 ?_; conv => whnf) | (refine CallVC.auto ccrash_k (dIn_mk ho1 ⟨hcal1, ?_⟩); conv => whnf) | (exact Out.same; conv => whnf) | (exact Out1.same; conv => whnf) | (refine QAnd.mk ?_ ?_; conv => whnf) | (apply QStepH.go; conv => whnf) | (refine Both.lit_true ?_; conv => whnf) | (refine Both.lit_false ?_; conv => whnf) | (apply QStep.go; conv => whnf) | (refine Need.au ?_; conv => whnf) | (refine ⟨_, rfl, ?_⟩; conv => whnf)))
      (repeat (first | (refine CallVC.auto copen_k (dIn_mk ho1 ⟨hcal1, D, ⟨w.g, w.sg, w.slot, w.used, w.sn, false, false⟩, now, hop1, ?_⟩); conv => whnf) | (exact Out.same; conv => whnf) | (exact Out1.same; conv => whnf) | (refine QAnd.mk ?_ ?_; conv => whnf) | (apply QStepH.go; conv => whnf) | (refine Both.lit_true ?_; conv => whnf) | (refine Both.lit_false ?_; conv => whnf) | (apply QStep.go; conv => whnf) | (refine Need.au ?_; conv => whnf) | (refine ⟨_, rfl, ?_⟩; conv => whnf)))
      (refine DrawVC.any Γok (by kernel_rfl) (by kernel_rfl) (by kernel_rfl) (by rfl) ?_; conv => whnf)
      (repeat (first | (refine CallVC.auto like_k ⟨now, rfl, rfl, rfl, rfl, hll1, ?_⟩; conv => whnf) | (exact Out.same; conv => whnf) | (exact Out1.same; conv => whnf) | (refine QAnd.mk ?_ ?_; conv => whnf) | (apply QStepH.go; conv => whnf) | (refine Both.lit_true ?_; conv => whnf) | (refine Both.lit_false ?_; conv => whnf) | (apply QStep.go; conv => whnf) | (refine Need.au ?_; conv => whnf) | (refine ⟨_, rfl, ?_⟩; conv => whnf)))
      refine CallVC.auto w7gen_k (wIn_mk ho1 hwn ?_)
      (conv => whnf)
      (repeat (first | (exact Out.same; conv => whnf) | (exact Out1.same; conv => whnf) | (refine QAnd.mk ?_ ?_; conv => whnf) | (apply QStepH.go; conv => whnf) | (refine Both.lit_true ?_; conv => whnf) | (refine Both.lit_false ?_; conv => whnf) | (apply QStep.go; conv => whnf) | (refine Need.au ?_; conv => whnf) | (refine ⟨_, rfl, ?_⟩; conv => whnf)))
      refine CallVC.auto w7gen_k (wIn_mk ho1 hwo1 ?_)
      (conv => whnf)
      (repeat (first | (refine Both.of_false n1 ?_; conv => whnf) | (exact Out.same; conv => whnf) | (exact Out1.same; conv => whnf) | (refine QAnd.mk ?_ ?_; conv => whnf) | (apply QStepH.go; conv => whnf) | (refine Both.lit_true ?_; conv => whnf) | (refine Both.lit_false ?_; conv => whnf) | (apply QStep.go; conv => whnf) | (refine Need.au ?_; conv => whnf) | (refine ⟨_, rfl, ?_⟩; conv => whnf)))
      refine CallVC.auto w7used_k (wIn_mk ho1 hwn ?_)
      (conv => whnf)
      (repeat (first | (exact Out.same; conv => whnf) | (exact Out1.same; conv => whnf) | (refine QAnd.mk ?_ ?_; conv => whnf) | (apply QStepH.go; conv => whnf) | (refine Both.lit_true ?_; conv => whnf) | (refine Both.lit_false ?_; conv => whnf) | (apply QStep.go; conv => whnf) | (refine Need.au ?_; conv => whnf) | (refine ⟨_, rfl, ?_⟩; conv => whnf)))
      refine CallVC.auto w7used_k (wIn_mk ho1 hwo1 ?_)
      (conv => whnf)
      (repeat (first | (refine Both.of_false n2 ?_; conv => whnf) | (exact Out.same; conv => whnf) | (exact Out1.same; conv => whnf) | (refine QAnd.mk ?_ ?_; conv => whnf) | (apply QStepH.go; conv => whnf) | (refine Both.lit_true ?_; conv => whnf) | (refine Both.lit_false ?_; conv => whnf) | (apply QStep.go; conv => whnf) | (refine Need.au ?_; conv => whnf) | (refine ⟨_, rfl, ?_⟩; conv => whnf)))
      refine ⟨(k + 1, D, w, now, fl), ⟨hkl, hO1⟩, by show l.length - (k + 1) < l.length - k; omega, Weak.auto ?_⟩
      (repeat' ((conv => whnf); first | exact True.intro | (refine And.intro ?_ ?_)))
      all_goals first | rfl | exact .eq rfl | exact congrArg (SV.int .i64) hwr
  · rcases old_chk (s := a.s) hO (by omega) with ⟨D1, w1, hk1, hO1⟩ | ⟨e, he0, he13, hk1⟩
    · have ho1 := hO1.inv.calm.ok
      have hcal1 := hO1.inv.calm
      have hwo1 := hO1.inv.wok
      have hbk1 := hO1.inv.br
      have hll1 : ([a.s] : List Bs).length ≤ 9223372036854775807 := by
        have h1 := hO1.inv.sn
        have h2 := hwo1.sn
        have h3 := hwo1.used
        have h4 := seg_bd ho1
        omega
      have hop1 := inv_open hO1.inv
      have hwn : (⟨w1.g, w1.sg, w1.slot, w1.used, w1.sn, false, false⟩ : W7).Ok D1 := ⟨hwo1.sc, hwo1.g, hwo1.sg, hwo1.slot, hwo1.used, hwo1.sn⟩
      have n1 : (!decide (((w1.g : Nat) : Int) = ((w1.g : Nat) : Int))) = false := by simp
      have n2 : (!decide (((w1.used : Nat) : Int) = ((w1.used : Nat) : Int))) = false := by simp
      (conv => whnf)
      (refine DrawVC.any Γok (by kernel_rfl) (by kernel_rfl) (by kernel_rfl) (by rfl) ?_; conv => whnf)
      (repeat (first | (refine Need.mk hix ?_; conv => whnf) | (refine ⟨enC a, hr, ?_⟩; conv => whnf) | (refine CallVC.auto chkW_kE (wIn_mk ho hwo ⟨hs6, hb0, 0, D1, w1, hk1.symm, ?_⟩); conv => whnf) | (exact Out.same; conv => whnf) | (exact Out1.same; conv => whnf) | (refine QAnd.mk ?_ ?_; conv => whnf) | (apply QStepH.go; conv => whnf) | (refine Both.lit_true ?_; conv => whnf) | (refine Both.lit_false ?_; conv => whnf) | (apply QStep.go; conv => whnf) | (refine Need.au ?_; conv => whnf) | (refine ⟨_, rfl, ?_⟩; conv => whnf)))
      (repeat (first | (refine Need.mk hix ?_; conv => whnf) | (refine ⟨enC a, hr, ?_⟩; conv => whnf) | (exact Out.same; conv => whnf) | (exact Out1.same; conv => whnf) | (refine QAnd.mk ?_ ?_; conv => whnf) | (apply QStepH.go; conv => whnf) | (refine Both.lit_true ?_; conv => whnf) | (refine Both.lit_false ?_; conv => whnf) | (apply QStep.go; conv => whnf) | (refine Need.au ?_; conv => whnf) | (refine ⟨_, rfl, ?_⟩; conv => whnf)))
      (repeat (first | (refine CallVC.auto w7broken_k (wIn_mk ho1 hwo1 ?_); conv => whnf) | (refine Both.of_false hbk1 ?_; conv => whnf) | (refine CallVC.auto ccrash_k (dIn_mk ho1 ⟨hcal1, ?_⟩); conv => whnf) | (exact Out.same; conv => whnf) | (exact Out1.same; conv => whnf) | (refine QAnd.mk ?_ ?_; conv => whnf) | (apply QStepH.go; conv => whnf) | (refine Both.lit_true ?_; conv => whnf) | (refine Both.lit_false ?_; conv => whnf) | (apply QStep.go; conv => whnf) | (refine Need.au ?_; conv => whnf) | (refine ⟨_, rfl, ?_⟩; conv => whnf)))
      (repeat (first | (refine CallVC.auto copen_k (dIn_mk ho1 ⟨hcal1, D1, ⟨w1.g, w1.sg, w1.slot, w1.used, w1.sn, false, false⟩, ([a.s] : List Bs), hop1, ?_⟩); conv => whnf) | (exact Out.same; conv => whnf) | (exact Out1.same; conv => whnf) | (refine QAnd.mk ?_ ?_; conv => whnf) | (apply QStepH.go; conv => whnf) | (refine Both.lit_true ?_; conv => whnf) | (refine Both.lit_false ?_; conv => whnf) | (apply QStep.go; conv => whnf) | (refine Need.au ?_; conv => whnf) | (refine ⟨_, rfl, ?_⟩; conv => whnf)))
      (refine DrawVC.any Γok (by kernel_rfl) (by kernel_rfl) (by kernel_rfl) (by rfl) ?_; conv => whnf)
      (repeat (first | (refine CallVC.auto like_k ⟨([a.s] : List Bs), rfl, rfl, rfl, rfl, hll1, ?_⟩; conv => whnf) | (exact Out.same; conv => whnf) | (exact Out1.same; conv => whnf) | (refine QAnd.mk ?_ ?_; conv => whnf) | (apply QStepH.go; conv => whnf) | (refine Both.lit_true ?_; conv => whnf) | (refine Both.lit_false ?_; conv => whnf) | (apply QStep.go; conv => whnf) | (refine Need.au ?_; conv => whnf) | (refine ⟨_, rfl, ?_⟩; conv => whnf)))
      refine CallVC.auto w7gen_k (wIn_mk ho1 hwn ?_)
      (conv => whnf)
      (repeat (first | (exact Out.same; conv => whnf) | (exact Out1.same; conv => whnf) | (refine QAnd.mk ?_ ?_; conv => whnf) | (apply QStepH.go; conv => whnf) | (refine Both.lit_true ?_; conv => whnf) | (refine Both.lit_false ?_; conv => whnf) | (apply QStep.go; conv => whnf) | (refine Need.au ?_; conv => whnf) | (refine ⟨_, rfl, ?_⟩; conv => whnf)))
      refine CallVC.auto w7gen_k (wIn_mk ho1 hwo1 ?_)
      (conv => whnf)
      (repeat (first | (refine Both.of_false n1 ?_; conv => whnf) | (exact Out.same; conv => whnf) | (exact Out1.same; conv => whnf) | (refine QAnd.mk ?_ ?_; conv => whnf) | (apply QStepH.go; conv => whnf) | (refine Both.lit_true ?_; conv => whnf) | (refine Both.lit_false ?_; conv => whnf) | (apply QStep.go; conv => whnf) | (refine Need.au ?_; conv => whnf) | (refine ⟨_, rfl, ?_⟩; conv => whnf)))
      refine CallVC.auto w7used_k (wIn_mk ho1 hwn ?_)
      (conv => whnf)
      (repeat (first | (exact Out.same; conv => whnf) | (exact Out1.same; conv => whnf) | (refine QAnd.mk ?_ ?_; conv => whnf) | (apply QStepH.go; conv => whnf) | (refine Both.lit_true ?_; conv => whnf) | (refine Both.lit_false ?_; conv => whnf) | (apply QStep.go; conv => whnf) | (refine Need.au ?_; conv => whnf) | (refine ⟨_, rfl, ?_⟩; conv => whnf)))
      refine CallVC.auto w7used_k (wIn_mk ho1 hwo1 ?_)
      (conv => whnf)
      (repeat (first | (refine Both.of_false n2 ?_; conv => whnf) | (exact Out.same; conv => whnf) | (exact Out1.same; conv => whnf) | (refine QAnd.mk ?_ ?_; conv => whnf) | (apply QStepH.go; conv => whnf) | (refine Both.lit_true ?_; conv => whnf) | (refine Both.lit_false ?_; conv => whnf) | (apply QStep.go; conv => whnf) | (refine Need.au ?_; conv => whnf) | (refine ⟨_, rfl, ?_⟩; conv => whnf)))
      refine ⟨(k + 1, D1, w1, ([a.s] : List Bs), true), ⟨hkl, hO1⟩, by show l.length - (k + 1) < l.length - k; omega, Weak.auto ?_⟩
      (repeat' ((conv => whnf); first | exact True.intro | (refine And.intro ?_ ?_)))
      all_goals first | rfl | exact .eq rfl | exact congrArg (SV.int .i64) hwr
    · have hO1 := hO.up
      have ho1 := hO1.inv.calm.ok
      have hcal1 := hO1.inv.calm
      have hwo1 := hO1.inv.wok
      have hbk1 := hO1.inv.br
      have hll1 : now.length ≤ 9223372036854775807 := by
        have h1 := hO1.inv.sn
        have h2 := hwo1.sn
        have h3 := hwo1.used
        have h4 := seg_bd ho1
        omega
      have hop1 := inv_open hO1.inv
      have hwn : (⟨w.g, w.sg, w.slot, w.used, w.sn, false, false⟩ : W7).Ok D := ⟨hwo1.sc, hwo1.g, hwo1.sg, hwo1.slot, hwo1.used, hwo1.sn⟩
      have n1 : (!decide (((w.g : Nat) : Int) = ((w.g : Nat) : Int))) = false := by simp
      have n2 : (!decide (((w.used : Nat) : Int) = ((w.used : Nat) : Int))) = false := by simp
      have c0 : decide (e = 0) = false := decide_eq_false he0
      have c13 : decide (e = 13) = false := decide_eq_false he13
      (conv => whnf)
      (refine DrawVC.any Γok (by kernel_rfl) (by kernel_rfl) (by kernel_rfl) (by rfl) ?_; conv => whnf)
      (repeat (first | (refine Need.mk hix ?_; conv => whnf) | (refine ⟨enC a, hr, ?_⟩; conv => whnf) | (refine CallVC.auto chkW_kE (wIn_mk ho hwo ⟨hs6, hb0, e, D, w, hk1.symm, ?_⟩); conv => whnf) | (refine Both.of_false c0 ?_; conv => whnf) | (refine Both.of_false c13 ?_; conv => whnf) | (exact Out.same; conv => whnf) | (exact Out1.same; conv => whnf) | (refine QAnd.mk ?_ ?_; conv => whnf) | (apply QStepH.go; conv => whnf) | (refine Both.lit_true ?_; conv => whnf) | (refine Both.lit_false ?_; conv => whnf) | (apply QStep.go; conv => whnf) | (refine Need.au ?_; conv => whnf) | (refine ⟨_, rfl, ?_⟩; conv => whnf)))
      (repeat (first | (refine CallVC.auto w7broken_k (wIn_mk ho1 hwo1 ?_); conv => whnf) | (refine Both.of_false hbk1 ?_; conv => whnf) | (refine CallVC.auto ccrash_k (dIn_mk ho1 ⟨hcal1, ?_⟩); conv => whnf) | (exact Out.same; conv => whnf) | (exact Out1.same; conv => whnf) | (refine QAnd.mk ?_ ?_; conv => whnf) | (apply QStepH.go; conv => whnf) | (refine Both.lit_true ?_; conv => whnf) | (refine Both.lit_false ?_; conv => whnf) | (apply QStep.go; conv => whnf) | (refine Need.au ?_; conv => whnf) | (refine ⟨_, rfl, ?_⟩; conv => whnf)))
      (repeat (first | (refine CallVC.auto copen_k (dIn_mk ho1 ⟨hcal1, D, ⟨w.g, w.sg, w.slot, w.used, w.sn, false, false⟩, now, hop1, ?_⟩); conv => whnf) | (exact Out.same; conv => whnf) | (exact Out1.same; conv => whnf) | (refine QAnd.mk ?_ ?_; conv => whnf) | (apply QStepH.go; conv => whnf) | (refine Both.lit_true ?_; conv => whnf) | (refine Both.lit_false ?_; conv => whnf) | (apply QStep.go; conv => whnf) | (refine Need.au ?_; conv => whnf) | (refine ⟨_, rfl, ?_⟩; conv => whnf)))
      (refine DrawVC.any Γok (by kernel_rfl) (by kernel_rfl) (by kernel_rfl) (by rfl) ?_; conv => whnf)
      (repeat (first | (refine CallVC.auto like_k ⟨now, rfl, rfl, rfl, rfl, hll1, ?_⟩; conv => whnf) | (exact Out.same; conv => whnf) | (exact Out1.same; conv => whnf) | (refine QAnd.mk ?_ ?_; conv => whnf) | (apply QStepH.go; conv => whnf) | (refine Both.lit_true ?_; conv => whnf) | (refine Both.lit_false ?_; conv => whnf) | (apply QStep.go; conv => whnf) | (refine Need.au ?_; conv => whnf) | (refine ⟨_, rfl, ?_⟩; conv => whnf)))
      refine CallVC.auto w7gen_k (wIn_mk ho1 hwn ?_)
      (conv => whnf)
      (repeat (first | (exact Out.same; conv => whnf) | (exact Out1.same; conv => whnf) | (refine QAnd.mk ?_ ?_; conv => whnf) | (apply QStepH.go; conv => whnf) | (refine Both.lit_true ?_; conv => whnf) | (refine Both.lit_false ?_; conv => whnf) | (apply QStep.go; conv => whnf) | (refine Need.au ?_; conv => whnf) | (refine ⟨_, rfl, ?_⟩; conv => whnf)))
      refine CallVC.auto w7gen_k (wIn_mk ho1 hwo1 ?_)
      (conv => whnf)
      (repeat (first | (refine Both.of_false n1 ?_; conv => whnf) | (exact Out.same; conv => whnf) | (exact Out1.same; conv => whnf) | (refine QAnd.mk ?_ ?_; conv => whnf) | (apply QStepH.go; conv => whnf) | (refine Both.lit_true ?_; conv => whnf) | (refine Both.lit_false ?_; conv => whnf) | (apply QStep.go; conv => whnf) | (refine Need.au ?_; conv => whnf) | (refine ⟨_, rfl, ?_⟩; conv => whnf)))
      refine CallVC.auto w7used_k (wIn_mk ho1 hwn ?_)
      (conv => whnf)
      (repeat (first | (exact Out.same; conv => whnf) | (exact Out1.same; conv => whnf) | (refine QAnd.mk ?_ ?_; conv => whnf) | (apply QStepH.go; conv => whnf) | (refine Both.lit_true ?_; conv => whnf) | (refine Both.lit_false ?_; conv => whnf) | (apply QStep.go; conv => whnf) | (refine Need.au ?_; conv => whnf) | (refine ⟨_, rfl, ?_⟩; conv => whnf)))
      refine CallVC.auto w7used_k (wIn_mk ho1 hwo1 ?_)
      (conv => whnf)
      (repeat (first | (refine Both.of_false n2 ?_; conv => whnf) | (exact Out.same; conv => whnf) | (exact Out1.same; conv => whnf) | (refine QAnd.mk ?_ ?_; conv => whnf) | (apply QStepH.go; conv => whnf) | (refine Both.lit_true ?_; conv => whnf) | (refine Both.lit_false ?_; conv => whnf) | (apply QStep.go; conv => whnf) | (refine Need.au ?_; conv => whnf) | (refine ⟨_, rfl, ?_⟩; conv => whnf)))
      refine ⟨(k + 1, D, w, now, fl), ⟨hkl, hO1⟩, by show l.length - (k + 1) < l.length - k; omega, Weak.auto ?_⟩
      (repeat' ((conv => whnf); first | exact True.intro | (refine And.intro ?_ ?_)))
      all_goals first | rfl | exact .eq rfl | exact congrArg (SV.int .i64) hwr
end Go.LX
end
section
set_option maxRecDepth 100000
set_option maxHeartbeats 1000000
set_option autoImplicit false
set_option linter.unusedVariables false
set_option linter.unusedSimpArgs false
namespace Go.LX
open Go.Proofs Go.RowKit Go.ChangeShapes Go.WideShapes Go.ChangeAt
section
variable {H : Type} {enc : TypeId × Value → H} {W : World}
end
end Go.LX
end
section
set_option maxRecDepth 100000
set_option maxHeartbeats 1000000
set_option autoImplicit false
set_option linter.unusedVariables false
set_option linter.unusedSimpArgs false
namespace Go.LX
open Go.Proofs Go.RowKit Go.ChangeShapes Go.WideShapes Go.ChangeAt
section
variable {H : Type} {enc : TypeId × Value → H} {W : World}
theorem o7_cells_int : Tryz.prog.cellsOf 3 = 1 := by kernel_rfl
theorem o7_cells_str : Tryz.prog.cellsOf 9 = 1 := by kernel_rfl
theorem o7_cells_bs : Tryz.prog.cellsOf 42 = 1 := by kernel_rfl
theorem o7_cells_is : Tryz.prog.cellsOf 43 = 1 := by kernel_rfl
theorem o7_cells_act : Tryz.prog.cellsOf 45 = 5 := by kernel_rfl
theorem o7_len5 {α : Type} {l : List α} (h : l.length = 5) : ∃ a b c d e, l = [a, b, c, d, e] := by
  match l, h with
  | [a, b, c, d, e], _ => exact ⟨a, b, c, d, e, rfl⟩
theorem flat_one {α : Type} (g : α → CV) (l : List α) : (l.flatMap fun s => [g s]) = l.map g := by
  induction l with
  | nil => rfl
  | cons a r ih => rw [List.flatMap_cons, ih]; rfl
theorem crs7 {l : List CV} {vs : List Value} (hl : vs.length = l.length) (h : ∀ (j : Nat) x v, l[j]? = some x → vs[j]? = some v → CR (E0 W).I W x v) : CRs (E0 W).I W l vs := ⟨hl, h⟩
theorem open_bool1 {n : Nat} {cs : List Value} {y : DataW H × List MemPlace} (h : DataW.trod enc Tryz.prog W 0 (fun _ => true) true n 4 cs = some y) (hw : InReach Tryz.prog 4 y.1) : ∃ r : Bool, CRs (E0 W).I W [CV.bool r] cs ∧ True := by
  obtain ⟨b, hb, _, _⟩ := DataW.trod_bool Tryz.underlying4 h
  subst hb
  refine ⟨b, crs7 rfl fun j x v hx hv => ?_, trivial⟩
  match j with
  | 0 => cases hx; cases hv; exact .bool _
  | j + 1 => simp at hx
theorem open_int1 {n : Nat} {cs : List Value} {y : DataW H × List MemPlace} (h : DataW.trod enc Tryz.prog W 0 (fun _ => true) true n 3 cs = some y) (hw : InReach Tryz.prog 3 y.1) : ∃ r : Int, CRs (E0 W).I W [CV.int .i64 r] cs ∧ True := by
  obtain ⟨b, hb, _, _⟩ := DataW.trod_int Tryz.underlying3 h
  subst hb
  refine ⟨b, crs7 rfl fun j x v hx hv => ?_, trivial⟩
  match j with
  | 0 => cases hx; cases hv; exact .int _ _
  | j + 1 => simp at hx
theorem leaf_bools {v : Value} {n : Nat} {y : DataW H × List MemPlace} (h : DataW.trod enc Tryz.prog W 0 (fun _ => true) true n 42 [v] = some y) (hw : InReach Tryz.prog 42 y.1) :
    ∃ l : List Bool, CR (E0 W).I W (.sl 1 l.length (l.map CV.bool) false) v := by
  obtain ⟨l, h1, _, _⟩ := leaf_rows (t := 42) (e := 4) (sz := 1) (d := y.1) (ps := y.2) (fun b => [CV.bool b]) (fun _ => True) Tryz.underlying42 (by kernel_rfl) (by omega) (fun r => rfl) (fun n cs y hy hw => open_bool1 hy hw) h hw
  rw [flat_one] at h1
  exact ⟨l, h1⟩
theorem leaf_ints {v : Value} {n : Nat} {y : DataW H × List MemPlace} (h : DataW.trod enc Tryz.prog W 0 (fun _ => true) true n 43 [v] = some y) (hw : InReach Tryz.prog 43 y.1) :
    ∃ l : List Int, CR (E0 W).I W (.sl 1 l.length (l.map (CV.int .i64)) false) v := by
  obtain ⟨l, h1, _, _⟩ := leaf_rows (t := 43) (e := 3) (sz := 1) (d := y.1) (ps := y.2) (fun b => [CV.int .i64 b]) (fun _ => True) Tryz.underlying43 (by kernel_rfl) (by omega) (fun r => rfl) (fun n cs y hy hw => open_int1 hy hw) h hw
  rw [flat_one] at h1
  exact ⟨l, h1⟩
theorem open_act7 {n : Nat} {cs : List Value} {y : DataW H × List MemPlace} (h : DataW.trod enc Tryz.prog W 0 (fun _ => true) true n 45 cs = some y) (hw : InReach Tryz.prog 45 y.1) : ∃ r : Act7, CRs (E0 W).I W (enC r) cs ∧ r.rng := by
  obtain ⟨hl, hf⟩ := open_fields2 (t := 45) Tryz.underlying45 h hw
  rw [o7_cells_act] at hl
  obtain ⟨c0, c1, c2, c3, c4, rfl⟩ := o7_len5 hl
  obtain ⟨n0, y0, t0, q0⟩ := hf 0 _ rfl
  obtain ⟨n1, y1, t1, q1⟩ := hf 1 _ rfl
  obtain ⟨n2, y2, t2, q2⟩ := hf 2 _ rfl
  obtain ⟨n3, y3, t3, q3⟩ := hf 3 _ rfl
  obtain ⟨n4, y4, t4, q4⟩ := hf 4 _ rfl
  replace t0 : DataW.trod enc Tryz.prog W 0 (fun _ => true) true n0 3 (List.take (Tryz.prog.cellsOf 3) (List.drop 0 [c0, c1, c2, c3, c4])) = some y0 := t0
  replace t1 : DataW.trod enc Tryz.prog W 0 (fun _ => true) true n1 3 (List.take (Tryz.prog.cellsOf 3) (List.drop 1 [c0, c1, c2, c3, c4])) = some y1 := t1
  replace t2 : DataW.trod enc Tryz.prog W 0 (fun _ => true) true n2 9 (List.take (Tryz.prog.cellsOf 9) (List.drop 2 [c0, c1, c2, c3, c4])) = some y2 := t2
  replace t3 : DataW.trod enc Tryz.prog W 0 (fun _ => true) true n3 42 (List.take (Tryz.prog.cellsOf 42) (List.drop 3 [c0, c1, c2, c3, c4])) = some y3 := t3
  replace t4 : DataW.trod enc Tryz.prog W 0 (fun _ => true) true n4 43 (List.take (Tryz.prog.cellsOf 43) (List.drop 4 [c0, c1, c2, c3, c4])) = some y4 := t4
  rw [o7_cells_int] at t0 t1
  rw [o7_cells_str] at t2
  rw [o7_cells_bs] at t3
  rw [o7_cells_is] at t4
  obtain ⟨i0, rfl, w0⟩ := leaf_int Tryz.underlying3 t0
  obtain ⟨i1, rfl, w1⟩ := leaf_int Tryz.underlying3 t1
  obtain ⟨s2, rfl, w2⟩ := leaf_str Tryz.underlying9 t2 q2
  obtain ⟨l3, hl3⟩ := leaf_bools t3 q3
  obtain ⟨l4, hl4⟩ := leaf_ints t4 q4
  refine ⟨⟨i0, i1, s2, l3, l4⟩, crs7 rfl fun j x v hx hv => ?_, wf_i64 w1⟩
  match j with
  | 0 => cases hx; cases hv; exact .int _ _
  | 1 => cases hx; cases hv; exact .int _ _
  | 2 => cases hx; cases hv; exact .str _
  | 3 => cases hx; cases hv; exact hl3
  | 4 => cases hx; cases hv; exact hl4
  | j + 5 => simp [enC] at hx
theorem open_acts7 {v : Value} {d : DataW H} {ps : List MemPlace} (hv : v.cells = #[v]) (h : DataW.Trod enc Tryz.prog W 0 (fun _ => true) true 40 v d ps) (hw : InReach Tryz.prog 40 d) :
    ∃ l : List Act7, VR (E0 W) W (.sl 5 l.length (l.flatMap enC) false) v ∧ (∀ c ∈ l, c.rng) ∧ l.length ≤ 9223372036854775807 :=
  open_rows (t := 40) (e := 45) (sz := 5) enC Act7.rng Tryz.underlying40 (by kernel_rfl) (by omega) (fun r => rfl) (fun n cs y hy hw => open_act7 hy hw) hv h hw
end
end Go.LX
end
section
set_option maxRecDepth 100000
set_option maxHeartbeats 4000000
set_option autoImplicit false
set_option linter.unusedVariables false
set_option linter.unusedSimpArgs false
namespace Go.LX
open Go.Proofs Go.Proofs.YtpimpjcknammfaaGreatDoor Go.RowKit Go.ChangeShapes Go.WideShapes Go.ChangeAt

theorem law_runG {P : Program} {G : Gl} {f : FuncId} {S : Spec} (hM : Meets P G f S) {svs : List SV} {vs : List Value} {W : World} (hv : VRs (E0 W) W svs vs) (hg : GlOk (E0 W) W G) (hS : S svs [] fun r _ => r = .bool true) :
    Calls P f vs.toArray W fun e W' => e = .returned (.bool true) ∧ Below W.heap.size W W' := by
  refine (hM svs [] _ hS (E0 W) W vs hv (rel0 W) hg).mono ?_
  rintro e W' ⟨v, r, H', E', rfl, rfl, hv, _, hst, _⟩
  cases hv
  exact ⟨rfl, hst.os, hst.tape, hst.output, hst.size, fun k hk => hst.keep k hk (fun ⟨i, o, h, _⟩ => by simp at h)⟩
theorem gl_none {W : World} {l : List (String × DataW Unit)} (_ : laidMetH Tryz.prog l W) : GlOk (E0 W) W [] := ⟨fun g cs h => absurd h (by simp)⟩
abbrev laidU : List (String × DataW Unit) := [("unicode/utf8.acceptRanges", Rows.laid_unicode_utf8_acceptRanges), ("unicode/utf8.first", Rows.laid_unicode_utf8_first)]
end Go.LX
end
