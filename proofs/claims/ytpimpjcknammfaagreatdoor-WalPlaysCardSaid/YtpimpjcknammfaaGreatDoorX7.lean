/- Own texts of this claim, in build order: Vs, Vt, Vu, Vv, Vw, Vx, VX, Vy, Lo, VO, Ru. -/
import Derived.Test.YtpimpjcknammfaaGreatDoorX6
import Derived.Test.YtpimpjcknammfaaGreatDoorRows
import Derived.Lib.LaidTab
import Derived.MakeChecks
import Derived.LaidMore
section
set_option maxRecDepth 100000
set_option maxHeartbeats 2000000
set_option autoImplicit false
set_option linter.unusedVariables false
set_option linter.unusedSimpArgs false
namespace Go.LX
open Go.Proofs

structure Act7 where
  kd : Int
  n : Int
  s : Bs
  las : List Bool
  torn : List Int
def enC (a : Act7) : List CV := [.int .i64 a.kd, .int .i64 a.n, .str a.s, .sl 1 a.las.length (a.las.map CV.bool) false, .sl 1 a.torn.length (a.torn.map (CV.int .i64)) false]
def lastsV (a : Act7) : List (Bool × Int) := (List.range a.las.length).map fun i => (a.las.getD i false, a.torn.getD i 0)
theorem lastsV_len (a : Act7) : (lastsV a).length = a.las.length := by
  unfold lastsV
  rw [List.length_map, List.length_range]
theorem lastsV_succ (a : Act7) {k : Nat} (h : k < a.las.length) : ((lastsV a).take (k + 1)).flatMap crEn = ((lastsV a).take k).flatMap crEn ++ [CV.bool (a.las.getD k false), .int .i64 (a.torn.getD k 0)] := by
  have hk : k < (lastsV a).length := by rw [lastsV_len]; exact h
  rw [List.take_succ_eq_append_getElem hk, List.flatMap_append]
  have e : (lastsV a)[k] = (a.las.getD k false, a.torn.getD k 0) := by
    have q : (lastsV a)[k]? = some (a.las.getD k false, a.torn.getD k 0) := by
      unfold lastsV
      rw [List.getElem?_map, List.getElem?_range h]
      rfl
    rw [List.getElem?_eq_getElem hk] at q
    exact Option.some.inj q
  rw [e]
  rfl
def actIs7 (kd n : Int) (s : Bs) (n1 : Nat) (c1 : List CV) (f1 : Bool) (n2 : Nat) (c2 : List CV) (f2 : Bool) (a : Act7) : Prop := kd = a.kd ∧ n = a.n ∧ s = a.s ∧ n1 = a.las.length ∧ c1 = a.las.map CV.bool ∧ f1 = false ∧ n2 = a.torn.length ∧ c2 = a.torn.map (CV.int .i64) ∧ f2 = false
def lastsS : Spec := fun args H Q => match args, H with
  | [.agg [.int .i64 kd, .int .i64 n, .str s, .sl 1 n1 c1 f1, .sl 1 n2 c2 f2]], [] => ∃ a : Act7, actIs7 kd n s n1 c1 f1 n2 c2 f2 a ∧ a.las.length ≤ 100000 ∧ a.torn.length ≤ 100000 ∧ Q (.sl 2 (lastsV a).length ((lastsV a).flatMap crEn) false) []
  | _, _ => False
theorem bools_at (l : List Bool) {k : Nat} (hk : k < l.length) : (l.map CV.bool)[((k : Nat) : Int).toNat]? = some (.bool (l.getD k false)) := by
  show (l.map CV.bool)[k]? = _
  rw [List.getElem?_map, List.getElem?_eq_getElem hk, List.getD_eq_getElem?_getD, List.getElem?_eq_getElem hk]
  rfl
theorem ints_at7 (l : List Int) {k : Nat} (hk : k < l.length) : (l.map (CV.int .i64))[((k : Nat) : Int).toNat]? = some (.int .i64 (l.getD k 0)) := by
  show (l.map (CV.int .i64))[k]? = _
  rw [List.getElem?_map, List.getElem?_eq_getElem hk, List.getD_eq_getElem?_getD, List.getElem?_eq_getElem hk]
  rfl
theorem lasts_c : Meets Tryz.prog [] 51 lastsS := by
  refine meets_of Γok Tryz.func51 rfl ?_
  intro args H Q h
  unfold lastsS at h
  split at h
  case h_2 => exact h.elim
  obtain ⟨a, ⟨rfl, rfl, rfl, rfl, rfl, rfl, rfl, rfl, rfl⟩, hl1, hl2, h⟩ := h
  (refine sx_sound Γok _ ?_; conv => whnf)
  (repeat (first | (exact Out.same; conv => whnf) | (exact Out1.same; conv => whnf) | (refine QAnd.mk ?_ ?_; conv => whnf) | (apply QStepH.go; conv => whnf) | (refine Both.lit_true ?_; conv => whnf) | (refine Both.lit_false ?_; conv => whnf) | (apply QStep.go; conv => whnf) | (refine Need.au ?_; conv => whnf) | (refine ⟨_, rfl, ?_⟩; conv => whnf)))
  refine loop_rule (fun k : Nat => ⟨[.any, .ptr 0 0, .any, .own 1, .int .i64 (k : Int), .any, .any, .any, .any, .any, .any, .any, .any, .any, .any, .any, .any, .any, .any, .any, .any, .any, .any, .any, .any, .any, .any, .any, .any, .any, .any, .any, .any, .any, .any], [.cells [.int .i64 a.kd, .int .i64 a.n, .str a.s, .sl 1 a.las.length (a.las.map CV.bool) false, .sl 1 a.torn.length (a.torn.map (CV.int .i64)) false] 45, .own 55 2 k (((lastsV a).take k).flatMap crEn) true]⟩) (fun k => k ≤ a.las.length) (fun k => a.las.length - k) 0 (Nat.zero_le _) ((Weak.ownNilT 3 55 2 rfl).trans (Weak.auto ?_)) ?_
  · (repeat' ((conv => whnf); first | exact True.intro | (refine And.intro ?_ ?_)))
    all_goals first | rfl | exact .eq rfl
  intro k hk
  (refine sx_sound Γok _ ?_; conv => whnf)
  (repeat (first | (exact Out.same; conv => whnf) | (exact Out1.same; conv => whnf) | (refine QAnd.mk ?_ ?_; conv => whnf) | (apply QStepH.go; conv => whnf) | (refine Both.lit_true ?_; conv => whnf) | (refine Both.lit_false ?_; conv => whnf) | (apply QStep.go; conv => whnf) | (refine Need.au ?_; conv => whnf) | (refine ⟨_, rfl, ?_⟩; conv => whnf)))
  refine Both.dec (fun hlt => ?_) (fun hge => ?_)
  · have hkl : k < a.las.length := by omega
    have hat := bools_at a.las hkl
    have hsu := lastsV_succ a hkl
    have hbz : (k + 1) * ti55.bytes ≤ 140737488355328 := by
      show (k + 1) * 16 ≤ 140737488355328
      omega
    have hwr : IntKind.i64.wrap ((k : Int) + 1) = ((k + 1 : Nat) : Int) := by rw [wrap_i64 (by omega) (by omega)]; rfl
    (conv => whnf)
    (repeat (first | (refine ⟨_, hat, ?_⟩; conv => whnf) | (exact Out.same; conv => whnf) | (exact Out1.same; conv => whnf) | (refine QAnd.mk ?_ ?_; conv => whnf) | (apply QStepH.go; conv => whnf) | (refine Both.lit_true ?_; conv => whnf) | (refine Both.lit_false ?_; conv => whnf) | (apply QStep.go; conv => whnf) | (refine Need.au ?_; conv => whnf) | (refine ⟨_, rfl, ?_⟩; conv => whnf)))
    refine Both.dec (fun ht => ?_) (fun ht => ?_)
    · have hkt : k < a.torn.length := by omega
      have hat2 := ints_at7 a.torn hkt
      (conv => whnf)
      (repeat (first | (refine ⟨_, hat2, ?_⟩; conv => whnf) | (refine ⟨hbz, ?_⟩; conv => whnf) | (exact Out.same; conv => whnf) | (exact Out1.same; conv => whnf) | (refine QAnd.mk ?_ ?_; conv => whnf) | (apply QStepH.go; conv => whnf) | (refine Both.lit_true ?_; conv => whnf) | (refine Both.lit_false ?_; conv => whnf) | (apply QStep.go; conv => whnf) | (refine Need.au ?_; conv => whnf) | (refine ⟨_, rfl, ?_⟩; conv => whnf)))
      refine ⟨k + 1, by omega, by omega, Weak.auto ?_⟩
      (repeat' ((conv => whnf); first | exact True.intro | (refine And.intro ?_ ?_)))
      all_goals first | rfl | exact .eq rfl | exact congrArg (SV.int .i64) hwr | exact own_eq rfl hsu.symm
    · have ht0 : a.torn.getD k 0 = 0 := by
        rw [List.getD_eq_getElem?_getD, List.getElem?_eq_none (by omega)]
        rfl
      rw [ht0] at hsu
      (conv => whnf)
      (repeat (first | (refine ⟨hbz, ?_⟩; conv => whnf) | (exact Out.same; conv => whnf) | (exact Out1.same; conv => whnf) | (refine QAnd.mk ?_ ?_; conv => whnf) | (apply QStepH.go; conv => whnf) | (refine Both.lit_true ?_; conv => whnf) | (refine Both.lit_false ?_; conv => whnf) | (apply QStep.go; conv => whnf) | (refine Need.au ?_; conv => whnf) | (refine ⟨_, rfl, ?_⟩; conv => whnf)))
      refine ⟨k + 1, by omega, by omega, Weak.auto ?_⟩
      (repeat' ((conv => whnf); first | exact True.intro | (refine And.intro ?_ ?_)))
      all_goals first | rfl | exact .eq rfl | exact congrArg (SV.int .i64) hwr | exact own_eq rfl hsu.symm
  · have hke : k = (lastsV a).length := by rw [lastsV_len]; omega
    subst hke
    rw [List.take_length]
    (conv => whnf)
    (repeat (first | (exact Out.same; conv => whnf) | (exact Out1.same; conv => whnf) | (refine QAnd.mk ?_ ?_; conv => whnf) | (apply QStepH.go; conv => whnf) | (refine Both.lit_true ?_; conv => whnf) | (refine Both.lit_false ?_; conv => whnf) | (apply QStep.go; conv => whnf) | (refine Need.au ?_; conv => whnf) | (refine ⟨_, rfl, ?_⟩; conv => whnf)))
    refine ⟨_, _, (WeakV.pubOne 1 rfl).trans (WeakV.drop rfl), h⟩
theorem lasts_k : Contract Tryz.prog [] 51 lastsS := ⟨⟨⟨_, rfl, rfl, rfl⟩⟩, lasts_c⟩
end Go.LX
end
section
set_option maxRecDepth 100000
set_option maxHeartbeats 2000000
set_option autoImplicit false
set_option linter.unusedVariables false
set_option linter.unusedSimpArgs false
namespace Go.LX
open Go.Proofs

structure P7 where
  D : Dsk
  w : Option W7
  e : Int
  l : List Bs
def prB (P : P7) : List LObj :=
  match P.w with
  | none => [.cells [.ptr 1 0, .nil, .int .i64 P.e, .nilsl, .ptr 4 0, .nil] 33,
      .cells [.int .i64 (P.D.sz : Int), .int .i64 (P.D.sc : Int), .own 2, .own 3, .int .i64 (P.D.ar : Int)] 79, .own 9 1 P.D.st.length (P.D.st.map CV.str) true, .own 91 2 P.D.buf.length (P.D.buf.flatMap wrEn) true,
      .cells [.int .i64 (P.D.sz : Int), .int .i64 (P.D.sc : Int), .str P.D.st.flatten, .own 5, .int .i64 (P.D.ar : Int)] 59, .own 135 2 P.D.buf.length (P.D.buf.flatMap wrEn) true]
  | some w => [.cells [.ptr 1 0, .ptr 4 0, .int .i64 P.e, .sl 1 P.l.length (P.l.map CV.str) false, .ptr 5 0, .ptr 7 0] 33,
      .cells [.int .i64 (P.D.sz : Int), .int .i64 (P.D.sc : Int), .own 2, .own 3, .int .i64 (P.D.ar : Int)] 79, .own 9 1 P.D.st.length (P.D.st.map CV.str) true, .own 91 2 P.D.buf.length (P.D.buf.flatMap wrEn) true,
      .cells [.ptr 1 0, .int .u64 (w.g : Int), .int .i64 w.sg, .int .i64 w.slot, .int .i64 (w.used : Int), .int .u64 (w.sn : Int), .bool w.ready, .bool w.broken] 74,
      .cells [.int .i64 (P.D.sz : Int), .int .i64 (P.D.sc : Int), .str P.D.st.flatten, .own 6, .int .i64 (P.D.ar : Int)] 59, .own 135 2 P.D.buf.length (P.D.buf.flatMap wrEn) true,
      .cells [.ptr 5 0, .int .u64 (w.g : Int), .int .i64 w.sg, .int .i64 w.slot, .int .i64 (w.used : Int), .int .i64 (w.sn : Int), .bool w.ready, .bool w.broken] 63]
def prA (b : Bool) (P : P7) : List LObj :=
  match b, P.w with
  | true, some w => [.cells [.ptr 1 0, .ptr 8 0, .int .i64 P.e, .sl 1 P.l.length (P.l.map CV.str) false, .ptr 5 0, .ptr 9 0] 33,
      .cells [.int .i64 (P.D.sz : Int), .int .i64 (P.D.sc : Int), .own 2, .own 10, .int .i64 (P.D.ar : Int)] 79, .own 9 1 P.D.st.length (P.D.st.map CV.str) true, .gone, .gone,
      .cells [.int .i64 (P.D.sz : Int), .int .i64 (P.D.sc : Int), .str P.D.st.flatten, .own 11, .int .i64 (P.D.ar : Int)] 59, .gone, .gone,
      .cells [.ptr 1 0, .int .u64 (w.g : Int), .int .i64 w.sg, .int .i64 w.slot, .int .i64 (w.used : Int), .int .u64 (w.sn : Int), .bool w.ready, .bool w.broken] 74,
      .cells [.ptr 5 0, .int .u64 (w.g : Int), .int .i64 w.sg, .int .i64 w.slot, .int .i64 (w.used : Int), .int .i64 (w.sn : Int), .bool w.ready, .bool w.broken] 63,
      .own 91 2 P.D.buf.length (P.D.buf.flatMap wrEn) true, .own 135 2 P.D.buf.length (P.D.buf.flatMap wrEn) true]
  | true, none => [.cells [.ptr 1 0, .nil, .int .i64 P.e, .nilsl, .ptr 5 0, .nil] 33,
      .cells [.int .i64 (P.D.sz : Int), .int .i64 (P.D.sc : Int), .own 2, .own 8, .int .i64 (P.D.ar : Int)] 79, .own 9 1 P.D.st.length (P.D.st.map CV.str) true, .gone, .gone,
      .cells [.int .i64 (P.D.sz : Int), .int .i64 (P.D.sc : Int), .str P.D.st.flatten, .own 9, .int .i64 (P.D.ar : Int)] 59, .gone, .gone,
      .own 91 2 P.D.buf.length (P.D.buf.flatMap wrEn) true, .own 135 2 P.D.buf.length (P.D.buf.flatMap wrEn) true]
  | false, some w => [.cells [.ptr 1 0, .ptr 6 0, .int .i64 P.e, .sl 1 P.l.length (P.l.map CV.str) false, .ptr 4 0, .ptr 7 0] 33,
      .cells [.int .i64 (P.D.sz : Int), .int .i64 (P.D.sc : Int), .own 2, .own 8, .int .i64 (P.D.ar : Int)] 79, .own 9 1 P.D.st.length (P.D.st.map CV.str) true, .gone,
      .cells [.int .i64 (P.D.sz : Int), .int .i64 (P.D.sc : Int), .str P.D.st.flatten, .own 9, .int .i64 (P.D.ar : Int)] 59, .gone,
      .cells [.ptr 1 0, .int .u64 (w.g : Int), .int .i64 w.sg, .int .i64 w.slot, .int .i64 (w.used : Int), .int .u64 (w.sn : Int), .bool w.ready, .bool w.broken] 74,
      .cells [.ptr 4 0, .int .u64 (w.g : Int), .int .i64 w.sg, .int .i64 w.slot, .int .i64 (w.used : Int), .int .i64 (w.sn : Int), .bool w.ready, .bool w.broken] 63,
      .own 91 2 P.D.buf.length (P.D.buf.flatMap wrEn) true, .own 135 2 P.D.buf.length (P.D.buf.flatMap wrEn) true]
  | false, none => [.cells [.ptr 1 0, .nil, .int .i64 P.e, .nilsl, .ptr 4 0, .nil] 33,
      .cells [.int .i64 (P.D.sz : Int), .int .i64 (P.D.sc : Int), .own 2, .own 6, .int .i64 (P.D.ar : Int)] 79, .own 9 1 P.D.st.length (P.D.st.map CV.str) true, .gone,
      .cells [.int .i64 (P.D.sz : Int), .int .i64 (P.D.sc : Int), .str P.D.st.flatten, .own 7, .int .i64 (P.D.ar : Int)] 59, .gone,
      .own 91 2 P.D.buf.length (P.D.buf.flatMap wrEn) true, .own 135 2 P.D.buf.length (P.D.buf.flatMap wrEn) true]
noncomputable def popV (P : P7) : P7 := if (opn P.D).1 = 0 then ⟨(opn P.D).2.1, some (opn P.D).2.2.1, 0, (opn P.D).2.2.2⟩ else ⟨(opn P.D).2.1, none, (opn P.D).1, []⟩
def likeS : Spec := fun args H Q => match args, H with
  | [.sl 1 n cs f, .sl 1 n' cs' f'], [] => ∃ p : List Bz, cs = strL p ∧ cs' = strL p ∧ n = p.length ∧ n' = p.length ∧ p.length ≤ 9223372036854775807 ∧ Q (.bool true) []
  | _, _ => False
theorem like_k : Contract Tryz.prog [] 18 likeS := texts_k.imp fun args H Q h => by
  unfold likeS at h
  split at h
  case h_2 => exact h.elim
  obtain ⟨p, rfl, rfl, rfl, rfl, h1, h⟩ := h
  refine ⟨p, p, rfl, rfl, rfl, rfl, h1, h1, ?_⟩
  rw [decide_eq_true rfl]
  exact h
def popS : Spec := fun args H Q => match args with
  | [.ptr 0 0] => ∃ P : P7, H = prB P ∧ P.D.Ok ∧ P.D.buf.length ≤ 900000 ∧ Q (.bool true) (prA P.w.isSome (popV P))
  | _ => False
theorem pop_c : Meets Tryz.prog [] 29 popS := by
  refine meets_of Γok Tryz.func29 rfl ?_
  intro args H Q h
  unfold popS at h
  split at h
  case h_2 => exact h.elim
  obtain ⟨⟨D, w, e, l⟩, rfl, ho, hb, h⟩ := h
  have ho : D.Ok := ho
  have hb : D.buf.length ≤ 900000 := hb
  obtain ⟨e1, D1, w1, l1, hop⟩ : ∃ e1 D1 w1 l1, opn D = (e1, D1, w1, l1) := ⟨_, _, _, _, rfl⟩
  have hk := opn_ok ho hb hop
  have c0 : decide (e1 = e1) = true := decide_eq_true rfl
  by_cases he : e1 = 0
  · have hll : l1.length ≤ 9223372036854775807 := by
      obtain ⟨h4, hw, hl, _⟩ := hk.2.2.2.1 he
      have := hw.sn
      have := hw.used
      have := seg_bd hk.1
      omega
    have hP : popV ⟨D, w, e, l⟩ = ⟨D1, some w1, 0, l1⟩ := by
      unfold popV
      rw [hop]
      exact if_pos he
    rw [hP] at h
    clear hk hP
    cases w with
    | none =>
      have h : Q (.bool true) (prA false ⟨D1, some w1, 0, l1⟩) := h
      (refine sx_sound Γok _ ?_; conv => whnf)
      (repeat (first | (exact Out.same; conv => whnf) | (exact Out1.same; conv => whnf) | (refine QAnd.mk ?_ ?_; conv => whnf) | (apply QStepH.go; conv => whnf) | (refine Both.lit_true ?_; conv => whnf) | (refine Both.lit_false ?_; conv => whnf) | (apply QStep.go; conv => whnf) | (refine Need.au ?_; conv => whnf) | (refine ⟨_, rfl, ?_⟩; conv => whnf)))
      refine CallVC.auto openW_k (dIn_mk ho ⟨hb, fun e2 D2 w2 l2 h2 => ⟨fun hne => ?_, fun heq => ?_⟩⟩)
      · exact absurd ((Prod.mk.inj (h2.trans hop)).1.trans he) hne
      obtain ⟨u1, u2⟩ := Prod.mk.inj (h2.trans hop)
      obtain ⟨u2, u3⟩ := Prod.mk.inj u2
      obtain ⟨u3, u4⟩ := Prod.mk.inj u3
      subst u1 u2 u3 u4
      clear h2
      (conv => whnf)
      (repeat (first | (exact Out.same; conv => whnf) | (exact Out1.same; conv => whnf) | (refine QAnd.mk ?_ ?_; conv => whnf) | (apply QStepH.go; conv => whnf) | (refine Both.lit_true ?_; conv => whnf) | (refine Both.lit_false ?_; conv => whnf) | (apply QStep.go; conv => whnf) | (refine Need.au ?_; conv => whnf) | (refine ⟨_, rfl, ?_⟩; conv => whnf)))
      refine CallVC.auto ropen_k (rIn_mk ho ⟨hb, fun e3 D3 w3 l3 h3 => ⟨fun hne => ?_, fun heq3 => ?_⟩⟩)
      · exact absurd ((Prod.mk.inj (h3.trans hop)).1.trans he) hne
      obtain ⟨v1, v2⟩ := Prod.mk.inj (h3.trans hop)
      obtain ⟨v2, v3⟩ := Prod.mk.inj v2
      obtain ⟨v3, v4⟩ := Prod.mk.inj v3
      subst v1 v2 v3 v4
      clear h3
      (conv => whnf)
      (repeat (first | (exact Out.same; conv => whnf) | (exact Out1.same; conv => whnf) | (refine QAnd.mk ?_ ?_; conv => whnf) | (apply QStepH.go; conv => whnf) | (refine Both.lit_true ?_; conv => whnf) | (refine Both.lit_false ?_; conv => whnf) | (apply QStep.go; conv => whnf) | (refine Need.au ?_; conv => whnf) | (refine ⟨_, rfl, ?_⟩; conv => whnf)))
      (refine DrawVC.any Γok (by kernel_rfl) (by kernel_rfl) (by kernel_rfl) (by rfl) ?_; conv => whnf)
      (repeat (first | (refine CallVC.auto like_k ⟨l3, rfl, rfl, rfl, rfl, hll, ?_⟩; conv => whnf) | (exact Out.same; conv => whnf) | (exact Out1.same; conv => whnf) | (refine QAnd.mk ?_ ?_; conv => whnf) | (apply QStepH.go; conv => whnf) | (refine Both.lit_true ?_; conv => whnf) | (refine Both.lit_false ?_; conv => whnf) | (apply QStep.go; conv => whnf) | (refine Need.au ?_; conv => whnf) | (refine ⟨_, rfl, ?_⟩; conv => whnf)))
      refine ⟨_, _, WeakV.auto ?_, h⟩
      (repeat' ((conv => whnf); first | exact True.intro | (refine And.intro ?_ ?_)))
      all_goals first | rfl | exact .eq rfl
    | some w0 =>
      have h : Q (.bool true) (prA true ⟨D1, some w1, 0, l1⟩) := h
      (refine sx_sound Γok _ ?_; conv => whnf)
      (repeat (first | (exact Out.same; conv => whnf) | (exact Out1.same; conv => whnf) | (refine QAnd.mk ?_ ?_; conv => whnf) | (apply QStepH.go; conv => whnf) | (refine Both.lit_true ?_; conv => whnf) | (refine Both.lit_false ?_; conv => whnf) | (apply QStep.go; conv => whnf) | (refine Need.au ?_; conv => whnf) | (refine ⟨_, rfl, ?_⟩; conv => whnf)))
      refine CallVC.auto openW_k (dIn_mk ho ⟨hb, fun e2 D2 w2 l2 h2 => ⟨fun hne => ?_, fun heq => ?_⟩⟩)
      · exact absurd ((Prod.mk.inj (h2.trans hop)).1.trans he) hne
      obtain ⟨u1, u2⟩ := Prod.mk.inj (h2.trans hop)
      obtain ⟨u2, u3⟩ := Prod.mk.inj u2
      obtain ⟨u3, u4⟩ := Prod.mk.inj u3
      subst u1 u2 u3 u4
      clear h2
      (conv => whnf)
      (repeat (first | (exact Out.same; conv => whnf) | (exact Out1.same; conv => whnf) | (refine QAnd.mk ?_ ?_; conv => whnf) | (apply QStepH.go; conv => whnf) | (refine Both.lit_true ?_; conv => whnf) | (refine Both.lit_false ?_; conv => whnf) | (apply QStep.go; conv => whnf) | (refine Need.au ?_; conv => whnf) | (refine ⟨_, rfl, ?_⟩; conv => whnf)))
      refine CallVC.auto ropen_k (rIn_mk ho ⟨hb, fun e3 D3 w3 l3 h3 => ⟨fun hne => ?_, fun heq3 => ?_⟩⟩)
      · exact absurd ((Prod.mk.inj (h3.trans hop)).1.trans he) hne
      obtain ⟨v1, v2⟩ := Prod.mk.inj (h3.trans hop)
      obtain ⟨v2, v3⟩ := Prod.mk.inj v2
      obtain ⟨v3, v4⟩ := Prod.mk.inj v3
      subst v1 v2 v3 v4
      clear h3
      (conv => whnf)
      (repeat (first | (exact Out.same; conv => whnf) | (exact Out1.same; conv => whnf) | (refine QAnd.mk ?_ ?_; conv => whnf) | (apply QStepH.go; conv => whnf) | (refine Both.lit_true ?_; conv => whnf) | (refine Both.lit_false ?_; conv => whnf) | (apply QStep.go; conv => whnf) | (refine Need.au ?_; conv => whnf) | (refine ⟨_, rfl, ?_⟩; conv => whnf)))
      (refine DrawVC.any Γok (by kernel_rfl) (by kernel_rfl) (by kernel_rfl) (by rfl) ?_; conv => whnf)
      (repeat (first | (refine CallVC.auto like_k ⟨l3, rfl, rfl, rfl, rfl, hll, ?_⟩; conv => whnf) | (exact Out.same; conv => whnf) | (exact Out1.same; conv => whnf) | (refine QAnd.mk ?_ ?_; conv => whnf) | (apply QStepH.go; conv => whnf) | (refine Both.lit_true ?_; conv => whnf) | (refine Both.lit_false ?_; conv => whnf) | (apply QStep.go; conv => whnf) | (refine Need.au ?_; conv => whnf) | (refine ⟨_, rfl, ?_⟩; conv => whnf)))
      refine ⟨_, _, WeakV.auto ?_, h⟩
      (repeat' ((conv => whnf); first | exact True.intro | (refine And.intro ?_ ?_)))
      all_goals first | rfl | exact .eq rfl
  · have hP : popV ⟨D, w, e, l⟩ = ⟨D1, none, e1, []⟩ := by
      unfold popV
      rw [hop]
      exact if_neg he
    rw [hP] at h
    clear hk hP
    cases w with
    | none =>
      have h : Q (.bool true) (prA false ⟨D1, none, e1, []⟩) := h
      (refine sx_sound Γok _ ?_; conv => whnf)
      (repeat (first | (exact Out.same; conv => whnf) | (exact Out1.same; conv => whnf) | (refine QAnd.mk ?_ ?_; conv => whnf) | (apply QStepH.go; conv => whnf) | (refine Both.lit_true ?_; conv => whnf) | (refine Both.lit_false ?_; conv => whnf) | (apply QStep.go; conv => whnf) | (refine Need.au ?_; conv => whnf) | (refine ⟨_, rfl, ?_⟩; conv => whnf)))
      refine CallVC.auto openW_k (dIn_mk ho ⟨hb, fun e2 D2 w2 l2 h2 => ⟨fun hne => ?_, fun heq => ?_⟩⟩)
      rotate_left
      · exact absurd ((Prod.mk.inj (h2.trans hop)).1.symm.trans heq) he
      obtain ⟨u1, u2⟩ := Prod.mk.inj (h2.trans hop)
      obtain ⟨u2, u3⟩ := Prod.mk.inj u2
      obtain ⟨u3, u4⟩ := Prod.mk.inj u3
      subst u1 u2 u3 u4
      clear h2
      (conv => whnf)
      (repeat (first | (exact Out.same; conv => whnf) | (exact Out1.same; conv => whnf) | (refine QAnd.mk ?_ ?_; conv => whnf) | (apply QStepH.go; conv => whnf) | (refine Both.lit_true ?_; conv => whnf) | (refine Both.lit_false ?_; conv => whnf) | (apply QStep.go; conv => whnf) | (refine Need.au ?_; conv => whnf) | (refine ⟨_, rfl, ?_⟩; conv => whnf)))
      refine CallVC.auto ropen_k (rIn_mk ho ⟨hb, fun e3 D3 w3 l3 h3 => ⟨fun hne => ?_, fun heq3 => ?_⟩⟩)
      rotate_left
      · exact absurd ((Prod.mk.inj (h3.trans hop)).1.symm.trans heq3) he
      obtain ⟨v1, v2⟩ := Prod.mk.inj (h3.trans hop)
      obtain ⟨v2, v3⟩ := Prod.mk.inj v2
      obtain ⟨v3, v4⟩ := Prod.mk.inj v3
      subst v1 v2 v3 v4
      clear h3
      (conv => whnf)
      (repeat (first | (exact Out.same; conv => whnf) | (exact Out1.same; conv => whnf) | (refine QAnd.mk ?_ ?_; conv => whnf) | (apply QStepH.go; conv => whnf) | (refine Both.lit_true ?_; conv => whnf) | (refine Both.lit_false ?_; conv => whnf) | (apply QStep.go; conv => whnf) | (refine Need.au ?_; conv => whnf) | (refine ⟨_, rfl, ?_⟩; conv => whnf)))
      (refine DrawVC.any Γok (by kernel_rfl) (by kernel_rfl) (by kernel_rfl) (by rfl) ?_; conv => whnf)
      (repeat (first | (refine Both.of_true c0 ?_; conv => whnf) | (exact Out.same; conv => whnf) | (exact Out1.same; conv => whnf) | (refine QAnd.mk ?_ ?_; conv => whnf) | (apply QStepH.go; conv => whnf) | (refine Both.lit_true ?_; conv => whnf) | (refine Both.lit_false ?_; conv => whnf) | (apply QStep.go; conv => whnf) | (refine Need.au ?_; conv => whnf) | (refine ⟨_, rfl, ?_⟩; conv => whnf) | (refine CallVC.auto textsN_k ?_; conv => whnf)))
      refine ⟨_, _, WeakV.auto ?_, h⟩
      (repeat' ((conv => whnf); first | exact True.intro | (refine And.intro ?_ ?_)))
      all_goals first | rfl | exact .eq rfl
    | some w0 =>
      have h : Q (.bool true) (prA true ⟨D1, none, e1, []⟩) := h
      (refine sx_sound Γok _ ?_; conv => whnf)
      (repeat (first | (exact Out.same; conv => whnf) | (exact Out1.same; conv => whnf) | (refine QAnd.mk ?_ ?_; conv => whnf) | (apply QStepH.go; conv => whnf) | (refine Both.lit_true ?_; conv => whnf) | (refine Both.lit_false ?_; conv => whnf) | (apply QStep.go; conv => whnf) | (refine Need.au ?_; conv => whnf) | (refine ⟨_, rfl, ?_⟩; conv => whnf)))
      refine CallVC.auto openW_k (dIn_mk ho ⟨hb, fun e2 D2 w2 l2 h2 => ⟨fun hne => ?_, fun heq => ?_⟩⟩)
      rotate_left
      · exact absurd ((Prod.mk.inj (h2.trans hop)).1.symm.trans heq) he
      obtain ⟨u1, u2⟩ := Prod.mk.inj (h2.trans hop)
      obtain ⟨u2, u3⟩ := Prod.mk.inj u2
      obtain ⟨u3, u4⟩ := Prod.mk.inj u3
      subst u1 u2 u3 u4
      clear h2
      (conv => whnf)
      (repeat (first | (exact Out.same; conv => whnf) | (exact Out1.same; conv => whnf) | (refine QAnd.mk ?_ ?_; conv => whnf) | (apply QStepH.go; conv => whnf) | (refine Both.lit_true ?_; conv => whnf) | (refine Both.lit_false ?_; conv => whnf) | (apply QStep.go; conv => whnf) | (refine Need.au ?_; conv => whnf) | (refine ⟨_, rfl, ?_⟩; conv => whnf)))
      refine CallVC.auto ropen_k (rIn_mk ho ⟨hb, fun e3 D3 w3 l3 h3 => ⟨fun hne => ?_, fun heq3 => ?_⟩⟩)
      rotate_left
      · exact absurd ((Prod.mk.inj (h3.trans hop)).1.symm.trans heq3) he
      obtain ⟨v1, v2⟩ := Prod.mk.inj (h3.trans hop)
      obtain ⟨v2, v3⟩ := Prod.mk.inj v2
      obtain ⟨v3, v4⟩ := Prod.mk.inj v3
      subst v1 v2 v3 v4
      clear h3
      (conv => whnf)
      (repeat (first | (exact Out.same; conv => whnf) | (exact Out1.same; conv => whnf) | (refine QAnd.mk ?_ ?_; conv => whnf) | (apply QStepH.go; conv => whnf) | (refine Both.lit_true ?_; conv => whnf) | (refine Both.lit_false ?_; conv => whnf) | (apply QStep.go; conv => whnf) | (refine Need.au ?_; conv => whnf) | (refine ⟨_, rfl, ?_⟩; conv => whnf)))
      (refine DrawVC.any Γok (by kernel_rfl) (by kernel_rfl) (by kernel_rfl) (by rfl) ?_; conv => whnf)
      (repeat (first | (refine Both.of_true c0 ?_; conv => whnf) | (exact Out.same; conv => whnf) | (exact Out1.same; conv => whnf) | (refine QAnd.mk ?_ ?_; conv => whnf) | (apply QStepH.go; conv => whnf) | (refine Both.lit_true ?_; conv => whnf) | (refine Both.lit_false ?_; conv => whnf) | (apply QStep.go; conv => whnf) | (refine Need.au ?_; conv => whnf) | (refine ⟨_, rfl, ?_⟩; conv => whnf) | (refine CallVC.auto textsN_k ?_; conv => whnf)))
      refine ⟨_, _, WeakV.auto ?_, h⟩
      (repeat' ((conv => whnf); first | exact True.intro | (refine And.intro ?_ ?_)))
      all_goals first | rfl | exact .eq rfl
theorem pop_k : Contract Tryz.prog [] 29 popS := ⟨⟨⟨_, rfl, rfl, rfl⟩⟩, pop_c⟩
def new7S : Spec := fun args H Q => match args, H with
  | [.int .i64 z, .int .i64 c], [] => okG z c = true ∧ Q (.tuple [.ptr 0 0, .int .i64 0]) (dB (Dsk.fresh z.toNat c.toNat))
  | _, _ => False
theorem new7_k : Contract Tryz.prog [] 27 new7S := new_k.imp fun args H Q h => by
  unfold new7S at h
  split at h
  case h_2 => exact h.elim
  obtain ⟨h1, h2⟩ := h
  show _ ∧ _
  exact ⟨fun h0 => absurd (h1.symm.trans h0) (by decide), fun _ => h2⟩
noncomputable def madeV (z c : Nat) : P7 := popV ⟨Dsk.fresh z c, none, 0, []⟩
def madeS7 : Spec := fun args H Q => match args, H with
  | [.int .i64 z, .int .i64 c], [] => okG z c = true ∧ Q (.ptr 0 0) (prB (madeV z.toNat c.toNat))
  | _, _ => False
theorem made7_c : Meets Tryz.prog [] 8 madeS7 := by
  refine meets_of Γok Tryz.func8 rfl ?_
  intro args H Q h
  unfold madeS7 at h
  split at h
  case h_2 => exact h.elim
  rename_i z c
  obtain ⟨hz, h⟩ := h
  have hk := of_decide_eq_true hz
  have ok0 := Dsk.fresh_ok (z := z.toNat) (c := c.toNat) (by omega) (by omega)
  have hb0 : (Dsk.fresh z.toNat c.toNat).buf.length ≤ 900000 := by show 0 ≤ 900000; decide
  obtain ⟨⟨D1, w1, e1, l1⟩, hP⟩ : ∃ P, madeV z.toNat c.toNat = P := ⟨_, rfl⟩
  have hP2 : popV ⟨Dsk.fresh z.toNat c.toNat, none, 0, []⟩ = ⟨D1, w1, e1, l1⟩ := hP
  rw [hP] at h
  (refine sx_sound Γok _ ?_; conv => whnf)
  (repeat (first | (refine CallVC.auto new7_k ⟨hz, ?_⟩; conv => whnf) | (refine CallVC.auto d4rnew_k ⟨hz, ?_⟩; conv => whnf) | (exact Out.same; conv => whnf) | (exact Out1.same; conv => whnf) | (refine QAnd.mk ?_ ?_; conv => whnf) | (apply QStepH.go; conv => whnf) | (refine Both.lit_true ?_; conv => whnf) | (refine Both.lit_false ?_; conv => whnf) | (apply QStep.go; conv => whnf) | (refine Need.au ?_; conv => whnf) | (refine ⟨_, rfl, ?_⟩; conv => whnf)))
  refine CallVC.auto pop_k ⟨⟨Dsk.fresh z.toNat c.toNat, none, 0, []⟩, rfl, ok0, hb0, ?_⟩
  rw [hP2]
  cases w1 with
  | none =>
    (conv => whnf)
    (repeat (first | (exact Out.same; conv => whnf) | (exact Out1.same; conv => whnf) | (refine QAnd.mk ?_ ?_; conv => whnf) | (apply QStepH.go; conv => whnf) | (refine Both.lit_true ?_; conv => whnf) | (refine Both.lit_false ?_; conv => whnf) | (apply QStep.go; conv => whnf) | (refine Need.au ?_; conv => whnf) | (refine ⟨_, rfl, ?_⟩; conv => whnf)))
    refine ⟨_, _, WeakV.auto ?_, h⟩
    (repeat' ((conv => whnf); first | exact True.intro | (refine And.intro ?_ ?_)))
    all_goals first | rfl | exact .eq rfl
  | some w1 =>
    (conv => whnf)
    (repeat (first | (exact Out.same; conv => whnf) | (exact Out1.same; conv => whnf) | (refine QAnd.mk ?_ ?_; conv => whnf) | (apply QStepH.go; conv => whnf) | (refine Both.lit_true ?_; conv => whnf) | (refine Both.lit_false ?_; conv => whnf) | (apply QStep.go; conv => whnf) | (refine Need.au ?_; conv => whnf) | (refine ⟨_, rfl, ?_⟩; conv => whnf)))
    refine ⟨_, _, WeakV.auto ?_, h⟩
    (repeat' ((conv => whnf); first | exact True.intro | (refine And.intro ?_ ?_)))
    all_goals first | rfl | exact .eq rfl
theorem made7_k : Contract Tryz.prog [] 8 madeS7 := ⟨⟨⟨_, rfl, rfl, rfl⟩⟩, made7_c⟩
end Go.LX
end
section
set_option maxRecDepth 100000
set_option maxHeartbeats 2000000
set_option autoImplicit false
set_option linter.unusedVariables false
set_option linter.unusedSimpArgs false
namespace Go.LX
open Go.Proofs

noncomputable def doV (P : P7) (a : Act7) : P7 :=
  if a.kd = 0 then (match P.w with | none => P | some w => ⟨(appL P.D w a.s).2.1, some (appL P.D w a.s).2.2, (appL P.D w a.s).1, P.l⟩)
  else if a.kd = 1 then (match P.w with | none => P | some w => ⟨(chkL P.D w a.s).2.1, some (chkL P.D w a.s).2.2, (chkL P.D w a.s).1, P.l⟩)
  else if a.kd = 2 then popV P
  else if a.kd = 3 then ⟨{ P.D with ar := a.n.toNat }, P.w, P.e, P.l⟩
  else popV ⟨P.D.cr (lastsV a), P.w, P.e, P.l⟩
structure Act7.ok (a : Act7) : Prop where
  s : a.s.length ≤ 1000000
  las : a.las.length ≤ 100000
  torn : a.torn.length ≤ 100000
  n : -9223372036854775808 ≤ a.n ∧ a.n ≤ 9223372036854775807
theorem wIn_imp {H : List LObj} {k k' : Dsk → W7 → Prop} (h : wIn H k) (hk : ∀ D w, k D w → k' D w) : wIn H k' := by
  obtain ⟨D, w, rfl, h1, h2, h3⟩ := wIn_out h
  exact wIn_mk h1 h2 (hk D w h3)
theorem rwIn_imp {H : List LObj} {k k' : Dsk → W7 → Prop} (h : rwIn H k) (hk : ∀ D w, k D w → k' D w) : rwIn H k' := by
  obtain ⟨D, w, rfl, h1, h2, h3⟩ := rwIn_out h
  exact rwIn_mk h1 h2 (hk D w h3)
def rappSE : Spec := fun args H Q => match args with
  | [.ptr 0 0, .str s] => rwIn H fun D w => s.length ≤ 1000000 ∧ D.buf.length ≤ 900000 ∧ ∃ e D' w', (e, D', w') = appL D w s ∧ Q (.int .i64 e) (rwA D' w')
  | _ => False
theorem rapp_kE : Contract Tryz.prog [] 47 rappSE := rapp_k.imp fun args H Q h => by
  unfold rappSE at h
  split at h
  case h_2 => exact h.elim
  exact rwIn_imp h fun D w ⟨h1, h2, e, D', w', h3, h4⟩ => ⟨h1, h2, fun e2 D2 w2 h5 => by
    obtain ⟨u1, u2⟩ := Prod.mk.inj (h5.trans h3.symm)
    obtain ⟨u2, u3⟩ := Prod.mk.inj u2
    subst u1 u2 u3
    exact h4⟩
def rchkSE : Spec := fun args H Q => match args with
  | [.ptr 0 0, .str s] => rwIn H fun D w => s.length ≤ 1000000 ∧ D.buf.length ≤ 900000 ∧ ∃ e D' w', (e, D', w') = chkL D w s ∧ Q (.int .i64 e) (rwA D' w')
  | _ => False
theorem rchk7_kE : Contract Tryz.prog [] 48 rchkSE := rchk7_k.imp fun args H Q h => by
  unfold rchkSE at h
  split at h
  case h_2 => exact h.elim
  exact rwIn_imp h fun D w ⟨h1, h2, e, D', w', h3, h4⟩ => ⟨h1, h2, fun e2 D2 w2 h5 => by
    obtain ⟨u1, u2⟩ := Prod.mk.inj (h5.trans h3.symm)
    obtain ⟨u2, u3⟩ := Prod.mk.inj u2
    subst u1 u2 u3
    exact h4⟩
def appWSE : Spec := fun args H Q => match args with
  | [.ptr 0 0, .str s] => wIn H fun D w => s.length ≤ 1000000 ∧ D.buf.length ≤ 900000 ∧ ∃ e D' w', (e, D', w') = appL D w s ∧ Q (.int .i64 e) (wA D' w')
  | _ => False
theorem appW_kE : Contract Tryz.prog [] 12 appWSE := appW_k.imp fun args H Q h => by
  unfold appWSE at h
  split at h
  case h_2 => exact h.elim
  exact wIn_imp h fun D w ⟨h1, h2, e, D', w', h3, h4⟩ => ⟨h1, h2, fun e2 D2 w2 h5 => by
    obtain ⟨u1, u2⟩ := Prod.mk.inj (h5.trans h3.symm)
    obtain ⟨u2, u3⟩ := Prod.mk.inj u2
    subst u1 u2 u3
    exact h4⟩
def chkWSE : Spec := fun args H Q => match args with
  | [.ptr 0 0, .str s] => wIn H fun D w => s.length ≤ 1000000 ∧ D.buf.length ≤ 900000 ∧ ∃ e D' w', (e, D', w') = chkL D w s ∧ Q (.int .i64 e) (wA D' w')
  | _ => False
theorem chkW_kE : Contract Tryz.prog [] 10 chkWSE := chkW_k.imp fun args H Q h => by
  unfold chkWSE at h
  split at h
  case h_2 => exact h.elim
  exact wIn_imp h fun D w ⟨h1, h2, e, D', w', h3, h4⟩ => ⟨h1, h2, fun e2 D2 w2 h5 => by
    obtain ⟨u1, u2⟩ := Prod.mk.inj (h5.trans h3.symm)
    obtain ⟨u2, u3⟩ := Prod.mk.inj u2
    subst u1 u2 u3
    exact h4⟩
def prC (D : Dsk) (w : W7) (e : Int) (l : List Bs) : List LObj :=
  [.cells [.ptr 1 0, .ptr 4 0, .int .i64 e, .sl 1 l.length (l.map CV.str) false, .ptr 5 0, .ptr 7 0] 33,
      .cells [.int .i64 (D.sz : Int), .int .i64 (D.sc : Int), .own 2, .own 8, .int .i64 (D.ar : Int)] 79, .own 9 1 D.st.length (D.st.map CV.str) true, .gone,
      .cells [.ptr 1 0, .int .u64 (w.g : Int), .int .i64 w.sg, .int .i64 w.slot, .int .i64 (w.used : Int), .int .u64 (w.sn : Int), .bool w.ready, .bool w.broken] 74,
      .cells [.int .i64 (D.sz : Int), .int .i64 (D.sc : Int), .str D.st.flatten, .own 9, .int .i64 (D.ar : Int)] 59, .gone,
      .cells [.ptr 5 0, .int .u64 (w.g : Int), .int .i64 w.sg, .int .i64 w.slot, .int .i64 (w.used : Int), .int .i64 (w.sn : Int), .bool w.ready, .bool w.broken] 63,
      .own 91 2 D.buf.length (D.buf.flatMap wrEn) true, .own 135 2 D.buf.length (D.buf.flatMap wrEn) true]
theorem prC_some (D : Dsk) (w : W7) (e : Int) (l : List Bs) : WeakV [] 8 (.bool true) (prC D w e l) (.bool true) (prA true ⟨D, some w, e, l⟩) := by
  refine (WeakV.move 4 (Nat.le_of_ble_eq_true rfl)).trans ((WeakV.move 7 (Nat.le_of_ble_eq_true rfl)).trans (WeakV.auto ?_))
  (repeat' ((conv => whnf); first | exact True.intro | (refine And.intro ?_ ?_)))
  all_goals first | rfl | exact .eq rfl
theorem prB_some (D : Dsk) (w : W7) (e : Int) (l : List Bs) : WeakV [] 8 (.bool true) (prB ⟨D, some w, e, l⟩) (.bool true) (prA true ⟨D, some w, e, l⟩) := by
  refine (WeakV.move 3 (Nat.le_of_ble_eq_true rfl)).trans ((WeakV.move 4 (Nat.le_of_ble_eq_true rfl)).trans ((WeakV.move 6 (Nat.le_of_ble_eq_true rfl)).trans ((WeakV.move 7 (Nat.le_of_ble_eq_true rfl)).trans (WeakV.auto ?_))))
  (repeat' ((conv => whnf); first | exact True.intro | (refine And.intro ?_ ?_)))
  all_goals first | rfl | exact .eq rfl
theorem prB_none (D : Dsk) (e : Int) (l : List Bs) : WeakV [] 6 (.bool true) (prB ⟨D, none, e, l⟩) (.bool true) (prA false ⟨D, none, e, l⟩) := by
  refine (WeakV.move 3 (Nat.le_of_ble_eq_true rfl)).trans ((WeakV.move 5 (Nat.le_of_ble_eq_true rfl)).trans (WeakV.auto ?_))
  (repeat' ((conv => whnf); first | exact True.intro | (refine And.intro ?_ ?_)))
  all_goals first | rfl | exact .eq rfl
def pdoS : Spec := fun args H Q => match args with
  | [.ptr 0 0, .agg [.int .i64 kd, .int .i64 n, .str s, .sl 1 n1 c1 f1, .sl 1 n2 c2 f2]] => ∃ (P : P7) (a : Act7), H = prB P ∧ actIs7 kd n s n1 c1 f1 n2 c2 f2 a ∧ a.ok ∧ P.D.Ok ∧ (∀ w, P.w = some w → w.Ok P.D) ∧ P.D.buf.length ≤ 900000 ∧ Q (.bool true) (prA P.w.isSome (doV P a))
  | _ => False
theorem pdo_c : Meets Tryz.prog [] 20 pdoS := by
  refine meets_of Γok Tryz.func20 rfl ?_
  intro args H Q h
  unfold pdoS at h
  split at h
  case h_2 => exact h.elim
  obtain ⟨⟨D, w, e, l⟩, a, rfl, ⟨rfl, rfl, rfl, rfl, rfl, rfl, rfl, rfl, rfl⟩, hao, ho, hwo, hb, h⟩ := h
  have ho : D.Ok := ho
  have hb : D.buf.length ≤ 900000 := hb
  have hs := hao.s
  have hl1 := hao.las
  have hl2 := hao.torn
  have hnr := hao.n
  have hL : (lastsV a).length ≤ 1000000 := by rw [lastsV_len]; omega
  cases w with
  | none =>
    clear hwo
    by_cases k0 : a.kd = 0
    · have c0 : decide (a.kd = 0) = true := decide_eq_true k0
      unfold doV at h
      rw [if_pos k0] at h
      have h : Q (.bool true) (prA false ⟨D, none, e, l⟩) := h
      (refine sx_sound Γok _ ?_; conv => whnf)
      (repeat (first | (refine Both.of_true c0 ?_; conv => whnf) | (exact Out.same; conv => whnf) | (exact Out1.same; conv => whnf) | (refine QAnd.mk ?_ ?_; conv => whnf) | (apply QStepH.go; conv => whnf) | (refine Both.lit_true ?_; conv => whnf) | (refine Both.lit_false ?_; conv => whnf) | (apply QStep.go; conv => whnf) | (refine Need.au ?_; conv => whnf) | (refine ⟨_, rfl, ?_⟩; conv => whnf)))
      refine ⟨_, _, WeakV.trans (WeakV.auto ?_) (prB_none D e l), h⟩
      (repeat' ((conv => whnf); first | exact True.intro | (refine And.intro ?_ ?_)))
      all_goals first | rfl | exact .eq rfl | exact congrArg SV.bool (decide_eq_true rfl)
    by_cases k1 : a.kd = 1
    · have c0 : decide (a.kd = 0) = false := decide_eq_false k0
      have c1 : decide (a.kd = 1) = true := decide_eq_true k1
      unfold doV at h
      rw [if_neg k0, if_pos k1] at h
      have h : Q (.bool true) (prA false ⟨D, none, e, l⟩) := h
      (refine sx_sound Γok _ ?_; conv => whnf)
      (repeat (first | (refine Both.of_false c0 ?_; conv => whnf) | (refine Both.of_true c1 ?_; conv => whnf) | (exact Out.same; conv => whnf) | (exact Out1.same; conv => whnf) | (refine QAnd.mk ?_ ?_; conv => whnf) | (apply QStepH.go; conv => whnf) | (refine Both.lit_true ?_; conv => whnf) | (refine Both.lit_false ?_; conv => whnf) | (apply QStep.go; conv => whnf) | (refine Need.au ?_; conv => whnf) | (refine ⟨_, rfl, ?_⟩; conv => whnf)))
      refine ⟨_, _, WeakV.trans (WeakV.auto ?_) (prB_none D e l), h⟩
      (repeat' ((conv => whnf); first | exact True.intro | (refine And.intro ?_ ?_)))
      all_goals first | rfl | exact .eq rfl | exact congrArg SV.bool (decide_eq_true rfl)
    by_cases k2 : a.kd = 2
    · have c0 : decide (a.kd = 0) = false := decide_eq_false k0
      have c1 : decide (a.kd = 1) = false := decide_eq_false k1
      have c2 : decide (a.kd = 2) = true := decide_eq_true k2
      unfold doV at h
      rw [if_neg k0, if_neg k1, if_pos k2] at h
      obtain ⟨⟨D1, w1, e1, l1⟩, hP⟩ : ∃ P, popV ⟨D, none, e, l⟩ = P := ⟨_, rfl⟩
      have h : Q (.bool true) (prA false (popV ⟨D, none, e, l⟩)) := h
      rw [hP] at h
      (refine sx_sound Γok _ ?_; conv => whnf)
      (repeat (first | (refine Both.of_false c0 ?_; conv => whnf) | (refine Both.of_false c1 ?_; conv => whnf) | (refine Both.of_true c2 ?_; conv => whnf) | (exact Out.same; conv => whnf) | (exact Out1.same; conv => whnf) | (refine QAnd.mk ?_ ?_; conv => whnf) | (apply QStepH.go; conv => whnf) | (refine Both.lit_true ?_; conv => whnf) | (refine Both.lit_false ?_; conv => whnf) | (apply QStep.go; conv => whnf) | (refine Need.au ?_; conv => whnf) | (refine ⟨_, rfl, ?_⟩; conv => whnf)))
      refine CallVC.auto pop_k ⟨⟨D, none, e, l⟩, rfl, ho, hb, ?_⟩
      rw [hP]
      cases w1 with
      | none =>
        (conv => whnf)
        (repeat (first | (exact Out.same; conv => whnf) | (exact Out1.same; conv => whnf) | (refine QAnd.mk ?_ ?_; conv => whnf) | (apply QStepH.go; conv => whnf) | (refine Both.lit_true ?_; conv => whnf) | (refine Both.lit_false ?_; conv => whnf) | (apply QStep.go; conv => whnf) | (refine Need.au ?_; conv => whnf) | (refine ⟨_, rfl, ?_⟩; conv => whnf)))
        refine ⟨_, _, WeakV.auto ?_, h⟩
        (repeat' ((conv => whnf); first | exact True.intro | (refine And.intro ?_ ?_)))
        all_goals first | rfl | exact .eq rfl | exact congrArg SV.bool (decide_eq_true rfl)
      | some w1 =>
        (conv => whnf)
        (repeat (first | (exact Out.same; conv => whnf) | (exact Out1.same; conv => whnf) | (refine QAnd.mk ?_ ?_; conv => whnf) | (apply QStepH.go; conv => whnf) | (refine Both.lit_true ?_; conv => whnf) | (refine Both.lit_false ?_; conv => whnf) | (apply QStep.go; conv => whnf) | (refine Need.au ?_; conv => whnf) | (refine ⟨_, rfl, ?_⟩; conv => whnf)))
        refine ⟨_, _, WeakV.auto ?_, h⟩
        (repeat' ((conv => whnf); first | exact True.intro | (refine And.intro ?_ ?_)))
        all_goals first | rfl | exact .eq rfl | exact congrArg SV.bool (decide_eq_true rfl)
    by_cases k3 : a.kd = 3
    · have c0 : decide (a.kd = 0) = false := decide_eq_false k0
      have c1 : decide (a.kd = 1) = false := decide_eq_false k1
      have c2 : decide (a.kd = 2) = false := decide_eq_false k2
      have c3 : decide (a.kd = 3) = true := decide_eq_true k3
      unfold doV at h
      rw [if_neg k0, if_neg k1, if_neg k2, if_pos k3] at h
      have h : Q (.bool true) (prA false ⟨{ D with ar := a.n.toNat }, none, e, l⟩) := h
      (refine sx_sound Γok _ ?_; conv => whnf)
      (repeat (first | (refine Both.of_false c0 ?_; conv => whnf) | (refine Both.of_false c1 ?_; conv => whnf) | (refine Both.of_false c2 ?_; conv => whnf) | (refine Both.of_true c3 ?_; conv => whnf) | (exact Out.same; conv => whnf) | (exact Out1.same; conv => whnf) | (refine QAnd.mk ?_ ?_; conv => whnf) | (apply QStepH.go; conv => whnf) | (refine Both.lit_true ?_; conv => whnf) | (refine Both.lit_false ?_; conv => whnf) | (apply QStep.go; conv => whnf) | (refine Need.au ?_; conv => whnf) | (refine ⟨_, rfl, ?_⟩; conv => whnf)))
      (refine DrawVC.any Γok (by kernel_rfl) (by kernel_rfl) (by kernel_rfl) (by rfl) ?_; conv => whnf)
      (repeat (first | (refine CallVC.auto arm_k (Need.mk hnr (dIn_mk ho ?_)); conv => whnf) | (exact Out.same; conv => whnf) | (exact Out1.same; conv => whnf) | (refine QAnd.mk ?_ ?_; conv => whnf) | (apply QStepH.go; conv => whnf) | (refine Both.lit_true ?_; conv => whnf) | (refine Both.lit_false ?_; conv => whnf) | (apply QStep.go; conv => whnf) | (refine Need.au ?_; conv => whnf) | (refine ⟨_, rfl, ?_⟩; conv => whnf)))
      (refine DrawVC.any Γok (by kernel_rfl) (by kernel_rfl) (by kernel_rfl) (by rfl) ?_; conv => whnf)
      (repeat (first | (refine CallVC.auto rarm_k (Need.mk hnr (rIn_mk ho ?_)); conv => whnf) | (exact Out.same; conv => whnf) | (exact Out1.same; conv => whnf) | (refine QAnd.mk ?_ ?_; conv => whnf) | (apply QStepH.go; conv => whnf) | (refine Both.lit_true ?_; conv => whnf) | (refine Both.lit_false ?_; conv => whnf) | (apply QStep.go; conv => whnf) | (refine Need.au ?_; conv => whnf) | (refine ⟨_, rfl, ?_⟩; conv => whnf)))
      refine ⟨_, _, WeakV.trans (WeakV.auto ?_) (prB_none { D with ar := a.n.toNat } e l), h⟩
      (repeat' ((conv => whnf); first | exact True.intro | (refine And.intro ?_ ?_)))
      all_goals first | rfl | exact .eq rfl | exact congrArg SV.bool (decide_eq_true rfl)
    have c0 : decide (a.kd = 0) = false := decide_eq_false k0
    have c1 : decide (a.kd = 1) = false := decide_eq_false k1
    have c2 : decide (a.kd = 2) = false := decide_eq_false k2
    have c3 : decide (a.kd = 3) = false := decide_eq_false k3
    unfold doV at h
    rw [if_neg k0, if_neg k1, if_neg k2, if_neg k3] at h
    obtain ⟨⟨D1, w1, e1, l1⟩, hP⟩ : ∃ P, popV ⟨D.cr (lastsV a), none, e, l⟩ = P := ⟨_, rfl⟩
    have h : Q (.bool true) (prA false (popV ⟨D.cr (lastsV a), none, e, l⟩)) := h
    rw [hP] at h
    (refine sx_sound Γok _ ?_; conv => whnf)
    (repeat (first | (refine Both.of_false c0 ?_; conv => whnf) | (refine Both.of_false c1 ?_; conv => whnf) | (refine Both.of_false c2 ?_; conv => whnf) | (refine Both.of_false c3 ?_; conv => whnf) | (exact Out.same; conv => whnf) | (exact Out1.same; conv => whnf) | (refine QAnd.mk ?_ ?_; conv => whnf) | (apply QStepH.go; conv => whnf) | (refine Both.lit_true ?_; conv => whnf) | (refine Both.lit_false ?_; conv => whnf) | (apply QStep.go; conv => whnf) | (refine Need.au ?_; conv => whnf) | (refine ⟨_, rfl, ?_⟩; conv => whnf)))
    have hoc := ho.cr (lastsV a)
    have hbc : (D.cr (lastsV a)).buf.length ≤ 900000 := by show 0 ≤ 900000; decide
    (refine DrawVC.any Γok (by kernel_rfl) (by kernel_rfl) (by kernel_rfl) (by rfl) ?_; conv => whnf)
    (repeat (first | (refine CallVC.auto lasts_k ⟨a, ⟨rfl, rfl, rfl, rfl, rfl, rfl, rfl, rfl, rfl⟩, hl1, hl2, ?_⟩; conv => whnf) | (refine CallVC.auto crash_k ⟨lastsV a, rfl, rfl, hL, dIn_mk ho ?_⟩; conv => whnf) | (exact Out.same; conv => whnf) | (exact Out1.same; conv => whnf) | (refine QAnd.mk ?_ ?_; conv => whnf) | (apply QStepH.go; conv => whnf) | (refine Both.lit_true ?_; conv => whnf) | (refine Both.lit_false ?_; conv => whnf) | (apply QStep.go; conv => whnf) | (refine Need.au ?_; conv => whnf) | (refine ⟨_, rfl, ?_⟩; conv => whnf)))
    (refine DrawVC.any Γok (by kernel_rfl) (by kernel_rfl) (by kernel_rfl) (by rfl) ?_; conv => whnf)
    (repeat (first | (refine CallVC.auto lasts_k ⟨a, ⟨rfl, rfl, rfl, rfl, rfl, rfl, rfl, rfl, rfl⟩, hl1, hl2, ?_⟩; conv => whnf) | (refine CallVC.auto rcrash_k ⟨lastsV a, rfl, rfl, hL, rIn_mk ho ?_⟩; conv => whnf) | (exact Out.same; conv => whnf) | (exact Out1.same; conv => whnf) | (refine QAnd.mk ?_ ?_; conv => whnf) | (apply QStepH.go; conv => whnf) | (refine Both.lit_true ?_; conv => whnf) | (refine Both.lit_false ?_; conv => whnf) | (apply QStep.go; conv => whnf) | (refine Need.au ?_; conv => whnf) | (refine ⟨_, rfl, ?_⟩; conv => whnf)))
    refine CallVC.auto pop_k ⟨⟨D.cr (lastsV a), none, e, l⟩, rfl, hoc, hbc, ?_⟩
    rw [hP]
    cases w1 with
    | none =>
      (conv => whnf)
      (repeat (first | (exact Out.same; conv => whnf) | (exact Out1.same; conv => whnf) | (refine QAnd.mk ?_ ?_; conv => whnf) | (apply QStepH.go; conv => whnf) | (refine Both.lit_true ?_; conv => whnf) | (refine Both.lit_false ?_; conv => whnf) | (apply QStep.go; conv => whnf) | (refine Need.au ?_; conv => whnf) | (refine ⟨_, rfl, ?_⟩; conv => whnf)))
      refine ⟨_, _, WeakV.auto ?_, h⟩
      (repeat' ((conv => whnf); first | exact True.intro | (refine And.intro ?_ ?_)))
      all_goals first | rfl | exact .eq rfl | exact congrArg SV.bool (decide_eq_true rfl)
    | some w1 =>
      (conv => whnf)
      (repeat (first | (exact Out.same; conv => whnf) | (exact Out1.same; conv => whnf) | (refine QAnd.mk ?_ ?_; conv => whnf) | (apply QStepH.go; conv => whnf) | (refine Both.lit_true ?_; conv => whnf) | (refine Both.lit_false ?_; conv => whnf) | (apply QStep.go; conv => whnf) | (refine Need.au ?_; conv => whnf) | (refine ⟨_, rfl, ?_⟩; conv => whnf)))
      refine ⟨_, _, WeakV.auto ?_, h⟩
      (repeat' ((conv => whnf); first | exact True.intro | (refine And.intro ?_ ?_)))
      all_goals first | rfl | exact .eq rfl | exact congrArg SV.bool (decide_eq_true rfl)
  | some w0 =>
    have hw0 : w0.Ok D := hwo w0 rfl
    clear hwo
    by_cases k0 : a.kd = 0
    · have c0 : decide (a.kd = 0) = true := decide_eq_true k0
      unfold doV at h
      rw [if_pos k0] at h
      obtain ⟨e1, D1, w1, hr⟩ : ∃ e1 D1 w1, appL D w0 a.s = (e1, D1, w1) := ⟨_, _, _, rfl⟩
      have h : Q (.bool true) (prA true ⟨(appL D w0 a.s).2.1, some (appL D w0 a.s).2.2, (appL D w0 a.s).1, l⟩) := h
      rw [hr] at h
      have h : Q (.bool true) (prA true ⟨D1, some w1, e1, l⟩) := h
      (refine sx_sound Γok _ ?_; conv => whnf)
      (repeat (first | (refine Both.of_true c0 ?_; conv => whnf) | (exact Out.same; conv => whnf) | (exact Out1.same; conv => whnf) | (refine QAnd.mk ?_ ?_; conv => whnf) | (apply QStepH.go; conv => whnf) | (refine Both.lit_true ?_; conv => whnf) | (refine Both.lit_false ?_; conv => whnf) | (apply QStep.go; conv => whnf) | (refine Need.au ?_; conv => whnf) | (refine ⟨_, rfl, ?_⟩; conv => whnf)))
      (refine DrawVC.any Γok (by kernel_rfl) (by kernel_rfl) (by kernel_rfl) (by rfl) ?_; conv => whnf)
      (repeat (first | (refine CallVC.auto rapp_kE (rwIn_mk ho hw0 ⟨hs, hb, e1, D1, w1, hr.symm, ?_⟩); conv => whnf) | (exact Out.same; conv => whnf) | (exact Out1.same; conv => whnf) | (refine QAnd.mk ?_ ?_; conv => whnf) | (apply QStepH.go; conv => whnf) | (refine Both.lit_true ?_; conv => whnf) | (refine Both.lit_false ?_; conv => whnf) | (apply QStep.go; conv => whnf) | (refine Need.au ?_; conv => whnf) | (refine ⟨_, rfl, ?_⟩; conv => whnf)))
      (refine DrawVC.any Γok (by kernel_rfl) (by kernel_rfl) (by kernel_rfl) (by rfl) ?_; conv => whnf)
      (repeat (first | (refine CallVC.auto appW_kE (wIn_mk ho hw0 ⟨hs, hb, e1, D1, w1, hr.symm, ?_⟩); conv => whnf) | (exact Out.same; conv => whnf) | (exact Out1.same; conv => whnf) | (refine QAnd.mk ?_ ?_; conv => whnf) | (apply QStepH.go; conv => whnf) | (refine Both.lit_true ?_; conv => whnf) | (refine Both.lit_false ?_; conv => whnf) | (apply QStep.go; conv => whnf) | (refine Need.au ?_; conv => whnf) | (refine ⟨_, rfl, ?_⟩; conv => whnf)))
      refine ⟨_, _, WeakV.trans (WeakV.auto ?_) (prC_some D1 w1 e1 l), h⟩
      (repeat' ((conv => whnf); first | exact True.intro | (refine And.intro ?_ ?_)))
      all_goals first | rfl | exact .eq rfl | exact congrArg SV.bool (decide_eq_true rfl)
    by_cases k1 : a.kd = 1
    · have c0 : decide (a.kd = 0) = false := decide_eq_false k0
      have c1 : decide (a.kd = 1) = true := decide_eq_true k1
      unfold doV at h
      rw [if_neg k0, if_pos k1] at h
      obtain ⟨e1, D1, w1, hr⟩ : ∃ e1 D1 w1, chkL D w0 a.s = (e1, D1, w1) := ⟨_, _, _, rfl⟩
      have h : Q (.bool true) (prA true ⟨(chkL D w0 a.s).2.1, some (chkL D w0 a.s).2.2, (chkL D w0 a.s).1, l⟩) := h
      rw [hr] at h
      have h : Q (.bool true) (prA true ⟨D1, some w1, e1, l⟩) := h
      (refine sx_sound Γok _ ?_; conv => whnf)
      (repeat (first | (refine Both.of_false c0 ?_; conv => whnf) | (refine Both.of_true c1 ?_; conv => whnf) | (exact Out.same; conv => whnf) | (exact Out1.same; conv => whnf) | (refine QAnd.mk ?_ ?_; conv => whnf) | (apply QStepH.go; conv => whnf) | (refine Both.lit_true ?_; conv => whnf) | (refine Both.lit_false ?_; conv => whnf) | (apply QStep.go; conv => whnf) | (refine Need.au ?_; conv => whnf) | (refine ⟨_, rfl, ?_⟩; conv => whnf)))
      (refine DrawVC.any Γok (by kernel_rfl) (by kernel_rfl) (by kernel_rfl) (by rfl) ?_; conv => whnf)
      (repeat (first | (refine CallVC.auto rchk7_kE (rwIn_mk ho hw0 ⟨hs, hb, e1, D1, w1, hr.symm, ?_⟩); conv => whnf) | (exact Out.same; conv => whnf) | (exact Out1.same; conv => whnf) | (refine QAnd.mk ?_ ?_; conv => whnf) | (apply QStepH.go; conv => whnf) | (refine Both.lit_true ?_; conv => whnf) | (refine Both.lit_false ?_; conv => whnf) | (apply QStep.go; conv => whnf) | (refine Need.au ?_; conv => whnf) | (refine ⟨_, rfl, ?_⟩; conv => whnf)))
      (refine DrawVC.any Γok (by kernel_rfl) (by kernel_rfl) (by kernel_rfl) (by rfl) ?_; conv => whnf)
      (repeat (first | (refine CallVC.auto chkW_kE (wIn_mk ho hw0 ⟨hs, hb, e1, D1, w1, hr.symm, ?_⟩); conv => whnf) | (exact Out.same; conv => whnf) | (exact Out1.same; conv => whnf) | (refine QAnd.mk ?_ ?_; conv => whnf) | (apply QStepH.go; conv => whnf) | (refine Both.lit_true ?_; conv => whnf) | (refine Both.lit_false ?_; conv => whnf) | (apply QStep.go; conv => whnf) | (refine Need.au ?_; conv => whnf) | (refine ⟨_, rfl, ?_⟩; conv => whnf)))
      refine ⟨_, _, WeakV.trans (WeakV.auto ?_) (prC_some D1 w1 e1 l), h⟩
      (repeat' ((conv => whnf); first | exact True.intro | (refine And.intro ?_ ?_)))
      all_goals first | rfl | exact .eq rfl | exact congrArg SV.bool (decide_eq_true rfl)
    by_cases k2 : a.kd = 2
    · have c0 : decide (a.kd = 0) = false := decide_eq_false k0
      have c1 : decide (a.kd = 1) = false := decide_eq_false k1
      have c2 : decide (a.kd = 2) = true := decide_eq_true k2
      unfold doV at h
      rw [if_neg k0, if_neg k1, if_pos k2] at h
      obtain ⟨⟨D1, w1, e1, l1⟩, hP⟩ : ∃ P, popV ⟨D, some w0, e, l⟩ = P := ⟨_, rfl⟩
      have h : Q (.bool true) (prA true (popV ⟨D, some w0, e, l⟩)) := h
      rw [hP] at h
      (refine sx_sound Γok _ ?_; conv => whnf)
      (repeat (first | (refine Both.of_false c0 ?_; conv => whnf) | (refine Both.of_false c1 ?_; conv => whnf) | (refine Both.of_true c2 ?_; conv => whnf) | (exact Out.same; conv => whnf) | (exact Out1.same; conv => whnf) | (refine QAnd.mk ?_ ?_; conv => whnf) | (apply QStepH.go; conv => whnf) | (refine Both.lit_true ?_; conv => whnf) | (refine Both.lit_false ?_; conv => whnf) | (apply QStep.go; conv => whnf) | (refine Need.au ?_; conv => whnf) | (refine ⟨_, rfl, ?_⟩; conv => whnf)))
      refine CallVC.auto pop_k ⟨⟨D, some w0, e, l⟩, rfl, ho, hb, ?_⟩
      rw [hP]
      cases w1 with
      | none =>
        (conv => whnf)
        (repeat (first | (exact Out.same; conv => whnf) | (exact Out1.same; conv => whnf) | (refine QAnd.mk ?_ ?_; conv => whnf) | (apply QStepH.go; conv => whnf) | (refine Both.lit_true ?_; conv => whnf) | (refine Both.lit_false ?_; conv => whnf) | (apply QStep.go; conv => whnf) | (refine Need.au ?_; conv => whnf) | (refine ⟨_, rfl, ?_⟩; conv => whnf)))
        refine ⟨_, _, WeakV.auto ?_, h⟩
        (repeat' ((conv => whnf); first | exact True.intro | (refine And.intro ?_ ?_)))
        all_goals first | rfl | exact .eq rfl | exact congrArg SV.bool (decide_eq_true rfl)
      | some w1 =>
        (conv => whnf)
        (repeat (first | (exact Out.same; conv => whnf) | (exact Out1.same; conv => whnf) | (refine QAnd.mk ?_ ?_; conv => whnf) | (apply QStepH.go; conv => whnf) | (refine Both.lit_true ?_; conv => whnf) | (refine Both.lit_false ?_; conv => whnf) | (apply QStep.go; conv => whnf) | (refine Need.au ?_; conv => whnf) | (refine ⟨_, rfl, ?_⟩; conv => whnf)))
        refine ⟨_, _, WeakV.auto ?_, h⟩
        (repeat' ((conv => whnf); first | exact True.intro | (refine And.intro ?_ ?_)))
        all_goals first | rfl | exact .eq rfl | exact congrArg SV.bool (decide_eq_true rfl)
    by_cases k3 : a.kd = 3
    · have c0 : decide (a.kd = 0) = false := decide_eq_false k0
      have c1 : decide (a.kd = 1) = false := decide_eq_false k1
      have c2 : decide (a.kd = 2) = false := decide_eq_false k2
      have c3 : decide (a.kd = 3) = true := decide_eq_true k3
      unfold doV at h
      rw [if_neg k0, if_neg k1, if_neg k2, if_pos k3] at h
      have h : Q (.bool true) (prA true ⟨{ D with ar := a.n.toNat }, some w0, e, l⟩) := h
      (refine sx_sound Γok _ ?_; conv => whnf)
      (repeat (first | (refine Both.of_false c0 ?_; conv => whnf) | (refine Both.of_false c1 ?_; conv => whnf) | (refine Both.of_false c2 ?_; conv => whnf) | (refine Both.of_true c3 ?_; conv => whnf) | (exact Out.same; conv => whnf) | (exact Out1.same; conv => whnf) | (refine QAnd.mk ?_ ?_; conv => whnf) | (apply QStepH.go; conv => whnf) | (refine Both.lit_true ?_; conv => whnf) | (refine Both.lit_false ?_; conv => whnf) | (apply QStep.go; conv => whnf) | (refine Need.au ?_; conv => whnf) | (refine ⟨_, rfl, ?_⟩; conv => whnf)))
      (refine DrawVC.any Γok (by kernel_rfl) (by kernel_rfl) (by kernel_rfl) (by rfl) ?_; conv => whnf)
      (repeat (first | (refine CallVC.auto arm_k (Need.mk hnr (dIn_mk ho ?_)); conv => whnf) | (exact Out.same; conv => whnf) | (exact Out1.same; conv => whnf) | (refine QAnd.mk ?_ ?_; conv => whnf) | (apply QStepH.go; conv => whnf) | (refine Both.lit_true ?_; conv => whnf) | (refine Both.lit_false ?_; conv => whnf) | (apply QStep.go; conv => whnf) | (refine Need.au ?_; conv => whnf) | (refine ⟨_, rfl, ?_⟩; conv => whnf)))
      (refine DrawVC.any Γok (by kernel_rfl) (by kernel_rfl) (by kernel_rfl) (by rfl) ?_; conv => whnf)
      (repeat (first | (refine CallVC.auto rarm_k (Need.mk hnr (rIn_mk ho ?_)); conv => whnf) | (exact Out.same; conv => whnf) | (exact Out1.same; conv => whnf) | (refine QAnd.mk ?_ ?_; conv => whnf) | (apply QStepH.go; conv => whnf) | (refine Both.lit_true ?_; conv => whnf) | (refine Both.lit_false ?_; conv => whnf) | (apply QStep.go; conv => whnf) | (refine Need.au ?_; conv => whnf) | (refine ⟨_, rfl, ?_⟩; conv => whnf)))
      refine ⟨_, _, WeakV.trans (WeakV.auto ?_) (prB_some { D with ar := a.n.toNat } w0 e l), h⟩
      (repeat' ((conv => whnf); first | exact True.intro | (refine And.intro ?_ ?_)))
      all_goals first | rfl | exact .eq rfl | exact congrArg SV.bool (decide_eq_true rfl)
    have c0 : decide (a.kd = 0) = false := decide_eq_false k0
    have c1 : decide (a.kd = 1) = false := decide_eq_false k1
    have c2 : decide (a.kd = 2) = false := decide_eq_false k2
    have c3 : decide (a.kd = 3) = false := decide_eq_false k3
    unfold doV at h
    rw [if_neg k0, if_neg k1, if_neg k2, if_neg k3] at h
    obtain ⟨⟨D1, w1, e1, l1⟩, hP⟩ : ∃ P, popV ⟨D.cr (lastsV a), some w0, e, l⟩ = P := ⟨_, rfl⟩
    have h : Q (.bool true) (prA true (popV ⟨D.cr (lastsV a), some w0, e, l⟩)) := h
    rw [hP] at h
    (refine sx_sound Γok _ ?_; conv => whnf)
    (repeat (first | (refine Both.of_false c0 ?_; conv => whnf) | (refine Both.of_false c1 ?_; conv => whnf) | (refine Both.of_false c2 ?_; conv => whnf) | (refine Both.of_false c3 ?_; conv => whnf) | (exact Out.same; conv => whnf) | (exact Out1.same; conv => whnf) | (refine QAnd.mk ?_ ?_; conv => whnf) | (apply QStepH.go; conv => whnf) | (refine Both.lit_true ?_; conv => whnf) | (refine Both.lit_false ?_; conv => whnf) | (apply QStep.go; conv => whnf) | (refine Need.au ?_; conv => whnf) | (refine ⟨_, rfl, ?_⟩; conv => whnf)))
    have hoc := ho.cr (lastsV a)
    have hbc : (D.cr (lastsV a)).buf.length ≤ 900000 := by show 0 ≤ 900000; decide
    (refine DrawVC.any Γok (by kernel_rfl) (by kernel_rfl) (by kernel_rfl) (by rfl) ?_; conv => whnf)
    (repeat (first | (refine CallVC.auto lasts_k ⟨a, ⟨rfl, rfl, rfl, rfl, rfl, rfl, rfl, rfl, rfl⟩, hl1, hl2, ?_⟩; conv => whnf) | (refine CallVC.auto crash_k ⟨lastsV a, rfl, rfl, hL, dIn_mk ho ?_⟩; conv => whnf) | (exact Out.same; conv => whnf) | (exact Out1.same; conv => whnf) | (refine QAnd.mk ?_ ?_; conv => whnf) | (apply QStepH.go; conv => whnf) | (refine Both.lit_true ?_; conv => whnf) | (refine Both.lit_false ?_; conv => whnf) | (apply QStep.go; conv => whnf) | (refine Need.au ?_; conv => whnf) | (refine ⟨_, rfl, ?_⟩; conv => whnf)))
    (refine DrawVC.any Γok (by kernel_rfl) (by kernel_rfl) (by kernel_rfl) (by rfl) ?_; conv => whnf)
    (repeat (first | (refine CallVC.auto lasts_k ⟨a, ⟨rfl, rfl, rfl, rfl, rfl, rfl, rfl, rfl, rfl⟩, hl1, hl2, ?_⟩; conv => whnf) | (refine CallVC.auto rcrash_k ⟨lastsV a, rfl, rfl, hL, rIn_mk ho ?_⟩; conv => whnf) | (exact Out.same; conv => whnf) | (exact Out1.same; conv => whnf) | (refine QAnd.mk ?_ ?_; conv => whnf) | (apply QStepH.go; conv => whnf) | (refine Both.lit_true ?_; conv => whnf) | (refine Both.lit_false ?_; conv => whnf) | (apply QStep.go; conv => whnf) | (refine Need.au ?_; conv => whnf) | (refine ⟨_, rfl, ?_⟩; conv => whnf)))
    refine CallVC.auto pop_k ⟨⟨D.cr (lastsV a), some w0, e, l⟩, rfl, hoc, hbc, ?_⟩
    rw [hP]
    cases w1 with
    | none =>
      (conv => whnf)
      (repeat (first | (exact Out.same; conv => whnf) | (exact Out1.same; conv => whnf) | (refine QAnd.mk ?_ ?_; conv => whnf) | (apply QStepH.go; conv => whnf) | (refine Both.lit_true ?_; conv => whnf) | (refine Both.lit_false ?_; conv => whnf) | (apply QStep.go; conv => whnf) | (refine Need.au ?_; conv => whnf) | (refine ⟨_, rfl, ?_⟩; conv => whnf)))
      refine ⟨_, _, WeakV.auto ?_, h⟩
      (repeat' ((conv => whnf); first | exact True.intro | (refine And.intro ?_ ?_)))
      all_goals first | rfl | exact .eq rfl | exact congrArg SV.bool (decide_eq_true rfl)
    | some w1 =>
      (conv => whnf)
      (repeat (first | (exact Out.same; conv => whnf) | (exact Out1.same; conv => whnf) | (refine QAnd.mk ?_ ?_; conv => whnf) | (apply QStepH.go; conv => whnf) | (refine Both.lit_true ?_; conv => whnf) | (refine Both.lit_false ?_; conv => whnf) | (apply QStep.go; conv => whnf) | (refine Need.au ?_; conv => whnf) | (refine ⟨_, rfl, ?_⟩; conv => whnf)))
      refine ⟨_, _, WeakV.auto ?_, h⟩
      (repeat' ((conv => whnf); first | exact True.intro | (refine And.intro ?_ ?_)))
      all_goals first | rfl | exact .eq rfl | exact congrArg SV.bool (decide_eq_true rfl)
theorem pdo_k : Contract Tryz.prog [] 20 pdoS := ⟨⟨⟨_, rfl, rfl, rfl⟩⟩, pdo_c⟩
end Go.LX
end
section
set_option maxRecDepth 100000
set_option maxHeartbeats 2000000
set_option autoImplicit false
set_option linter.unusedVariables false
set_option linter.unusedSimpArgs false
namespace Go.LX
open Go.Proofs

def Act7.small (a : Act7) : Prop := a.s.length ≤ 5000 ∧ a.las.length ≤ 100 ∧ a.torn.length ≤ 100
def few7A (z c : Int) (l : List Act7) : Prop := (64 ≤ z ∧ z ≤ 128) ∧ (1 ≤ c ∧ c ≤ 40) ∧ l.length ≤ 40 ∧ ∀ a ∈ l, a.small
def few7S : Spec := fun args H Q => match args, H with
  | [.int .i64 z, .int .i64 c, .sl 5 n cs f], [] => ∃ l : List Act7, n = l.length ∧ cs = l.flatMap enC ∧ (∀ b : Bool, (b = true → few7A z c l) → Q (.bool b) [])
  | _, _ => False
theorem few7_c : Meets Tryz.prog [] 14 few7S := by
  refine meets_of Γok Tryz.func14 rfl ?_
  intro args H Q h
  unfold few7S at h
  split at h
  case h_2 => exact h.elim
  rename_i z c n cs f
  obtain ⟨l, rfl, rfl, h⟩ := h
  have bad : Q (.bool false) [] := h false (fun h => by cases h)
  (refine sx_sound Γok _ ?_; conv => whnf)
  (repeat (first | (exact Out.same; conv => whnf) | (exact Out1.same; conv => whnf) | (refine QAnd.mk ?_ ?_; conv => whnf) | (apply QStepH.go; conv => whnf) | (refine Both.lit_true ?_; conv => whnf) | (refine Both.lit_false ?_; conv => whnf) | (apply QStep.go; conv => whnf) | (refine Need.au ?_; conv => whnf) | (refine ⟨_, rfl, ?_⟩; conv => whnf)))
  refine Both.dec (fun h1 => ?_) (fun h1 => ?_)
  · (conv => whnf)
    (repeat (first | (exact Out.same; conv => whnf) | (exact Out1.same; conv => whnf) | (refine QAnd.mk ?_ ?_; conv => whnf) | (apply QStepH.go; conv => whnf) | (refine Both.lit_true ?_; conv => whnf) | (refine Both.lit_false ?_; conv => whnf) | (apply QStep.go; conv => whnf) | (refine Need.au ?_; conv => whnf) | (refine ⟨_, rfl, ?_⟩; conv => whnf) | (refine Both.of_false ?_ ?_; (focus (first | rfl | (simp <;> fail))); conv => whnf) | (refine Both.of_true ?_ ?_; (focus (first | rfl | (simp <;> fail))); conv => whnf)))
    exact ⟨_, _, WeakV.drop rfl, bad⟩
  (conv => whnf)
  (repeat (first | (exact Out.same; conv => whnf) | (exact Out1.same; conv => whnf) | (refine QAnd.mk ?_ ?_; conv => whnf) | (apply QStepH.go; conv => whnf) | (refine Both.lit_true ?_; conv => whnf) | (refine Both.lit_false ?_; conv => whnf) | (apply QStep.go; conv => whnf) | (refine Need.au ?_; conv => whnf) | (refine ⟨_, rfl, ?_⟩; conv => whnf)))
  refine Both.dec (fun h2 => ?_) (fun h2 => ?_)
  · (conv => whnf)
    (repeat (first | (exact Out.same; conv => whnf) | (exact Out1.same; conv => whnf) | (refine QAnd.mk ?_ ?_; conv => whnf) | (apply QStepH.go; conv => whnf) | (refine Both.lit_true ?_; conv => whnf) | (refine Both.lit_false ?_; conv => whnf) | (apply QStep.go; conv => whnf) | (refine Need.au ?_; conv => whnf) | (refine ⟨_, rfl, ?_⟩; conv => whnf) | (refine Both.of_false ?_ ?_; (focus (first | rfl | (simp <;> fail))); conv => whnf) | (refine Both.of_true ?_ ?_; (focus (first | rfl | (simp <;> fail))); conv => whnf)))
    exact ⟨_, _, WeakV.drop rfl, bad⟩
  (conv => whnf)
  (repeat (first | (exact Out.same; conv => whnf) | (exact Out1.same; conv => whnf) | (refine QAnd.mk ?_ ?_; conv => whnf) | (apply QStepH.go; conv => whnf) | (refine Both.lit_true ?_; conv => whnf) | (refine Both.lit_false ?_; conv => whnf) | (apply QStep.go; conv => whnf) | (refine Need.au ?_; conv => whnf) | (refine ⟨_, rfl, ?_⟩; conv => whnf)))
  refine Both.dec (fun h3 => ?_) (fun h3 => ?_)
  · (conv => whnf)
    (repeat (first | (exact Out.same; conv => whnf) | (exact Out1.same; conv => whnf) | (refine QAnd.mk ?_ ?_; conv => whnf) | (apply QStepH.go; conv => whnf) | (refine Both.lit_true ?_; conv => whnf) | (refine Both.lit_false ?_; conv => whnf) | (apply QStep.go; conv => whnf) | (refine Need.au ?_; conv => whnf) | (refine ⟨_, rfl, ?_⟩; conv => whnf) | (refine Both.of_false ?_ ?_; (focus (first | rfl | (simp <;> fail))); conv => whnf) | (refine Both.of_true ?_ ?_; (focus (first | rfl | (simp <;> fail))); conv => whnf)))
    exact ⟨_, _, WeakV.drop rfl, bad⟩
  (conv => whnf)
  (repeat (first | (exact Out.same; conv => whnf) | (exact Out1.same; conv => whnf) | (refine QAnd.mk ?_ ?_; conv => whnf) | (apply QStepH.go; conv => whnf) | (refine Both.lit_true ?_; conv => whnf) | (refine Both.lit_false ?_; conv => whnf) | (apply QStep.go; conv => whnf) | (refine Need.au ?_; conv => whnf) | (refine ⟨_, rfl, ?_⟩; conv => whnf)))
  refine Both.dec (fun h4 => ?_) (fun h4 => ?_)
  · (conv => whnf)
    (repeat (first | (exact Out.same; conv => whnf) | (exact Out1.same; conv => whnf) | (refine QAnd.mk ?_ ?_; conv => whnf) | (apply QStepH.go; conv => whnf) | (refine Both.lit_true ?_; conv => whnf) | (refine Both.lit_false ?_; conv => whnf) | (apply QStep.go; conv => whnf) | (refine Need.au ?_; conv => whnf) | (refine ⟨_, rfl, ?_⟩; conv => whnf) | (refine Both.of_false ?_ ?_; (focus (first | rfl | (simp <;> fail))); conv => whnf) | (refine Both.of_true ?_ ?_; (focus (first | rfl | (simp <;> fail))); conv => whnf)))
    exact ⟨_, _, WeakV.drop rfl, bad⟩
  (conv => whnf)
  (repeat (first | (exact Out.same; conv => whnf) | (exact Out1.same; conv => whnf) | (refine QAnd.mk ?_ ?_; conv => whnf) | (apply QStepH.go; conv => whnf) | (refine Both.lit_true ?_; conv => whnf) | (refine Both.lit_false ?_; conv => whnf) | (apply QStep.go; conv => whnf) | (refine Need.au ?_; conv => whnf) | (refine ⟨_, rfl, ?_⟩; conv => whnf)))
  refine Both.dec (fun h5 => ?_) (fun h5 => ?_)
  · (conv => whnf)
    (repeat (first | (exact Out.same; conv => whnf) | (exact Out1.same; conv => whnf) | (refine QAnd.mk ?_ ?_; conv => whnf) | (apply QStepH.go; conv => whnf) | (refine Both.lit_true ?_; conv => whnf) | (refine Both.lit_false ?_; conv => whnf) | (apply QStep.go; conv => whnf) | (refine Need.au ?_; conv => whnf) | (refine ⟨_, rfl, ?_⟩; conv => whnf) | (refine Both.of_false ?_ ?_; (focus (first | rfl | (simp <;> fail))); conv => whnf) | (refine Both.of_true ?_ ?_; (focus (first | rfl | (simp <;> fail))); conv => whnf)))
    exact ⟨_, _, WeakV.drop rfl, bad⟩
  have hlen : l.length ≤ 40 := by omega
  (conv => whnf)
  (repeat (first | (exact Out.same; conv => whnf) | (exact Out1.same; conv => whnf) | (refine QAnd.mk ?_ ?_; conv => whnf) | (apply QStepH.go; conv => whnf) | (refine Both.lit_true ?_; conv => whnf) | (refine Both.lit_false ?_; conv => whnf) | (apply QStep.go; conv => whnf) | (refine Need.au ?_; conv => whnf) | (refine ⟨_, rfl, ?_⟩; conv => whnf)))
  refine loop_rule (fun k : Nat => ⟨[.any, .any, .sl 5 l.length (l.flatMap enC) f, .any, .any, .any, .any, .int .i64 (k : Int), .any, .any, .any, .any, .any, .any, .any, .any, .any, .any, .any, .any, .any, .any, .any, .any, .any, .any, .any, .any, .any, .any, .any, .any, .any, .any, .any, .any, .any, .any, .any, .any, .any, .any, .any, .any, .any, .any, .any, .any, .any, .any, .any, .any, .any, .any, .any, .any, .any, .any], []⟩) (fun k => k ≤ l.length ∧ ∀ a ∈ l.take k, a.small) (fun k => l.length - k) 0 ⟨Nat.zero_le _, fun a h => by simp at h⟩ (Weak.auto ?_) ?_
  · (repeat' ((conv => whnf); first | exact True.intro | (refine And.intro ?_ ?_)))
    all_goals first | rfl | done
  intro k ⟨hk, hsm⟩
  (refine sx_sound Γok _ ?_; conv => whnf)
  (repeat (first | (exact Out.same; conv => whnf) | (exact Out1.same; conv => whnf) | (refine QAnd.mk ?_ ?_; conv => whnf) | (apply QStepH.go; conv => whnf) | (refine Both.lit_true ?_; conv => whnf) | (refine Both.lit_false ?_; conv => whnf) | (apply QStep.go; conv => whnf) | (refine Need.au ?_; conv => whnf) | (refine ⟨_, rfl, ?_⟩; conv => whnf)))
  refine Both.dec (fun hlt => ?_) (fun hge => ?_)
  · have hkl : k < l.length := by omega
    have hr : ((l.flatMap enC).drop (((k : Int)).toNat * 5)).take 5 = enC l[k] := rows_at (en := enC) (z := 5) (fun _ => rfl) l k hkl
    have htk : ∀ a ∈ l.take (k + 1), a ∈ l.take k ∨ a = l[k] := by
      intro a ha
      rw [List.take_succ_eq_append_getElem hkl, List.mem_append, List.mem_singleton] at ha
      exact ha
    have hwr : IntKind.i64.wrap ((k : Int) + 1) = ((k + 1 : Nat) : Int) := by rw [wrap_i64 (by omega) (by omega)]; rfl
    revert hr htk
    generalize l[k] = a
    intro hr htk
    (conv => whnf)
    (repeat (first | (refine ⟨enC a, hr, ?_⟩; conv => whnf) | (exact Out.same; conv => whnf) | (exact Out1.same; conv => whnf) | (refine QAnd.mk ?_ ?_; conv => whnf) | (apply QStepH.go; conv => whnf) | (refine Both.lit_true ?_; conv => whnf) | (refine Both.lit_false ?_; conv => whnf) | (apply QStep.go; conv => whnf) | (refine Need.au ?_; conv => whnf) | (refine ⟨_, rfl, ?_⟩; conv => whnf)))
    refine Both.dec (fun h6 => ?_) (fun h6 => ?_)
    · (conv => whnf)
      (repeat (first | (exact Out.same; conv => whnf) | (exact Out1.same; conv => whnf) | (refine QAnd.mk ?_ ?_; conv => whnf) | (apply QStepH.go; conv => whnf) | (refine Both.lit_true ?_; conv => whnf) | (refine Both.lit_false ?_; conv => whnf) | (apply QStep.go; conv => whnf) | (refine Need.au ?_; conv => whnf) | (refine ⟨_, rfl, ?_⟩; conv => whnf) | (refine Both.of_false ?_ ?_; (focus (first | rfl | (simp <;> fail))); conv => whnf) | (refine Both.of_true ?_ ?_; (focus (first | rfl | (simp <;> fail))); conv => whnf)))
      exact ⟨_, _, WeakV.drop rfl, bad⟩
    (conv => whnf)
    (repeat (first | (refine ⟨enC a, hr, ?_⟩; conv => whnf) | (exact Out.same; conv => whnf) | (exact Out1.same; conv => whnf) | (refine QAnd.mk ?_ ?_; conv => whnf) | (apply QStepH.go; conv => whnf) | (refine Both.lit_true ?_; conv => whnf) | (refine Both.lit_false ?_; conv => whnf) | (apply QStep.go; conv => whnf) | (refine Need.au ?_; conv => whnf) | (refine ⟨_, rfl, ?_⟩; conv => whnf)))
    refine Both.dec (fun h7 => ?_) (fun h7 => ?_)
    · (conv => whnf)
      (repeat (first | (exact Out.same; conv => whnf) | (exact Out1.same; conv => whnf) | (refine QAnd.mk ?_ ?_; conv => whnf) | (apply QStepH.go; conv => whnf) | (refine Both.lit_true ?_; conv => whnf) | (refine Both.lit_false ?_; conv => whnf) | (apply QStep.go; conv => whnf) | (refine Need.au ?_; conv => whnf) | (refine ⟨_, rfl, ?_⟩; conv => whnf) | (refine Both.of_false ?_ ?_; (focus (first | rfl | (simp <;> fail))); conv => whnf) | (refine Both.of_true ?_ ?_; (focus (first | rfl | (simp <;> fail))); conv => whnf)))
      exact ⟨_, _, WeakV.drop rfl, bad⟩
    (conv => whnf)
    (repeat (first | (refine ⟨enC a, hr, ?_⟩; conv => whnf) | (exact Out.same; conv => whnf) | (exact Out1.same; conv => whnf) | (refine QAnd.mk ?_ ?_; conv => whnf) | (apply QStepH.go; conv => whnf) | (refine Both.lit_true ?_; conv => whnf) | (refine Both.lit_false ?_; conv => whnf) | (apply QStep.go; conv => whnf) | (refine Need.au ?_; conv => whnf) | (refine ⟨_, rfl, ?_⟩; conv => whnf)))
    refine Both.dec (fun h8 => ?_) (fun h8 => ?_)
    · (conv => whnf)
      (repeat (first | (exact Out.same; conv => whnf) | (exact Out1.same; conv => whnf) | (refine QAnd.mk ?_ ?_; conv => whnf) | (apply QStepH.go; conv => whnf) | (refine Both.lit_true ?_; conv => whnf) | (refine Both.lit_false ?_; conv => whnf) | (apply QStep.go; conv => whnf) | (refine Need.au ?_; conv => whnf) | (refine ⟨_, rfl, ?_⟩; conv => whnf) | (refine Both.of_false ?_ ?_; (focus (first | rfl | (simp <;> fail))); conv => whnf) | (refine Both.of_true ?_ ?_; (focus (first | rfl | (simp <;> fail))); conv => whnf)))
      exact ⟨_, _, WeakV.drop rfl, bad⟩
    (conv => whnf)
    (repeat (first | (exact Out.same; conv => whnf) | (exact Out1.same; conv => whnf) | (refine QAnd.mk ?_ ?_; conv => whnf) | (apply QStepH.go; conv => whnf) | (refine Both.lit_true ?_; conv => whnf) | (refine Both.lit_false ?_; conv => whnf) | (apply QStep.go; conv => whnf) | (refine Need.au ?_; conv => whnf) | (refine ⟨_, rfl, ?_⟩; conv => whnf)))
    refine ⟨k + 1, ⟨by omega, fun x hx => (htk x hx).elim (hsm x) (fun e => by rw [e]; exact ⟨by omega, by omega, by omega⟩)⟩, by omega, Weak.auto ?_⟩
    (repeat' ((conv => whnf); first | exact True.intro | (refine And.intro ?_ ?_)))
    all_goals first | rfl | exact congrArg (SV.int .i64) hwr
  · have hke : k = l.length := by omega
    rw [hke, List.take_length] at hsm
    (conv => whnf)
    (repeat (first | (exact Out.same; conv => whnf) | (exact Out1.same; conv => whnf) | (refine QAnd.mk ?_ ?_; conv => whnf) | (apply QStepH.go; conv => whnf) | (refine Both.lit_true ?_; conv => whnf) | (refine Both.lit_false ?_; conv => whnf) | (apply QStep.go; conv => whnf) | (refine Need.au ?_; conv => whnf) | (refine ⟨_, rfl, ?_⟩; conv => whnf) | (refine Both.of_false ?_ ?_; (focus (first | rfl | (simp <;> fail))); conv => whnf) | (refine Both.of_true ?_ ?_; (focus (first | rfl | (simp <;> fail))); conv => whnf)))
    exact ⟨_, _, WeakV.drop rfl, h true fun _ => ⟨⟨by omega, by omega⟩, ⟨by omega, by omega⟩, hlen, hsm⟩⟩
theorem few7_k : Contract Tryz.prog [] 14 few7S := ⟨⟨⟨_, rfl, rfl, rfl⟩⟩, few7_c⟩
structure P7.Ok (P : P7) : Prop where
  D : P.D.Ok
  w : ∀ w, P.w = some w → w.Ok P.D
theorem appL_ok {D : Dsk} {w : W7} {s : Bs} (ho : D.Ok) (hw : w.Ok D) (hb : D.buf.length ≤ 900000) {e : Int} {D' : Dsk} {w' : W7} (h : appL D w s = (e, D', w')) : D'.Ok ∧ w'.Ok D' ∧ D'.sz = D.sz ∧ D'.sc = D.sc ∧ D'.buf.length ≤ D.buf.length + 200 := by
  have fin : ∀ (e : Int) (w' : W7), (∀ b, ({ w' with broken := b } : W7).Ok D) → D.Ok → D.Ok ∧ w'.Ok D ∧ D.sz = D.sz ∧ D.sc = D.sc ∧ D.buf.length ≤ D.buf.length + 200 := fun e w' h1 h2 => ⟨h2, h1 w'.broken, rfl, rfl, Nat.le_add_right _ _⟩
  have hbr : ∀ b, ({ w with broken := b } : W7).Ok D := fun b => ⟨hw.sc, hw.g, hw.sg, hw.slot, hw.used, hw.sn⟩
  have same : ∀ (x : Int), appL D w s = (x, D, { w with broken := decide (x = 13) }) → D'.Ok ∧ w'.Ok D' ∧ D'.sz = D.sz ∧ D'.sc = D.sc ∧ D'.buf.length ≤ D.buf.length + 200 := by
    intro x hx
    rw [hx] at h
    obtain ⟨q1, q2⟩ := Prod.mk.inj h
    obtain ⟨q2, q3⟩ := Prod.mk.inj q2
    clear h hx
    subst q1 q2 q3
    exact ⟨ho, hbr _, rfl, rfl, Nat.le_add_right _ _⟩
  by_cases h0 : w.broken = true
  · unfold appL at h
    rw [if_pos h0] at h
    obtain ⟨q1, q2⟩ := Prod.mk.inj h
    obtain ⟨q2, q3⟩ := Prod.mk.inj q2
    clear h same
    subst q1 q2 q3
    exact ⟨ho, hw, rfl, rfl, Nat.le_add_right _ _⟩
  by_cases h1 : w.ready = false
  · exact same 15 (by unfold appL appP; rw [if_neg h0, if_pos h1])
  by_cases h2 : partsV D.sz s.length = 0
  · exact same 1 (by unfold appL appP; rw [if_neg h0, if_neg h1, if_pos h2])
  by_cases h3 : ¬ fitsW D w s.length
  · exact same 2 (by unfold appL appP; rw [if_neg h0, if_neg h1, if_neg h2, if_pos h3])
  have hf : fitsW D w s.length := Decidable.not_not.1 h3
  have hpf := parts_facts h2
  rw [Int.toNat_natCast] at hpf
  have hll : (splitL D.sz w.g w.sn s).length = npar (D.sz - 25) s.length := splitL_len _ _ _ _
  have g1 := putV_ok (splitL D.sz w.g w.sn s) D (baseV D w.sg + w.used) ho (by omega)
  have g2 := putV_geo (splitL D.sz w.g w.sn s) D (baseV D w.sg + w.used)
  have g3 := putV_buf (splitL D.sz w.g w.sn s) D (baseV D w.sg + w.used)
  have hap : appP D w s = (if (putV D (baseV D w.sg + w.used) (splitL D.sz w.g w.sn s)).1 = 0 then (0, (putV D (baseV D w.sg + w.used) (splitL D.sz w.g w.sn s)).2, { w with used := w.used + (splitL D.sz w.g w.sn s).length, sn := w.sn + 1 }) else ((putV D (baseV D w.sg + w.used) (splitL D.sz w.g w.sn s)).1, (putV D (baseV D w.sg + w.used) (splitL D.sz w.g w.sn s)).2, w)) := by
    unfold appP
    rw [if_neg h1, if_neg h2, if_neg h3]
  obtain ⟨e1, D1, hp⟩ : ∃ e1 D1, putV D (baseV D w.sg + w.used) (splitL D.sz w.g w.sn s) = (e1, D1) := ⟨_, _, rfl⟩
  rw [hp] at hap g1 g2 g3
  have g1 : D1.Ok := g1
  have g2 : D1.sz = D.sz ∧ D1.sc = D.sc := g2
  have g3 : D1.buf.length ≤ D.buf.length + (splitL D.sz w.g w.sn s).length := g3
  have hseg : segV D1 = segV D := by unfold segV; rw [g2.2]
  have hpos := npar_pos (D.sz - 25) s.length
  obtain ⟨f1, f2⟩ := hf
  have hu := hw.used
  have hsn := hw.sn
  unfold appL at h
  rw [if_neg h0, hap] at h
  have h : ((if e1 = 0 then ((0 : Int), D1, ({ w with used := w.used + (splitL D.sz w.g w.sn s).length, sn := w.sn + 1 } : W7)) else (e1, D1, w)).1, (if e1 = 0 then ((0 : Int), D1, ({ w with used := w.used + (splitL D.sz w.g w.sn s).length, sn := w.sn + 1 } : W7)) else (e1, D1, w)).2.1, ({ (if e1 = 0 then ((0 : Int), D1, ({ w with used := w.used + (splitL D.sz w.g w.sn s).length, sn := w.sn + 1 } : W7)) else (e1, D1, w)).2.2 with broken := decide ((if e1 = 0 then ((0 : Int), D1, ({ w with used := w.used + (splitL D.sz w.g w.sn s).length, sn := w.sn + 1 } : W7)) else (e1, D1, w)).1 = 13) } : W7)) = (e, D', w') := h
  by_cases he : e1 = 0
  · rw [if_pos he] at h
    obtain ⟨q1, q2⟩ := Prod.mk.inj h
    obtain ⟨q2, q3⟩ := Prod.mk.inj q2
    have q2 : D1 = D' := q2
    clear h same hap
    subst q1 q2 q3
    exact ⟨g1, ⟨by rw [g2.2]; exact hw.sc, hw.g, hw.sg, hw.slot, by rw [hseg]; show w.used + _ ≤ _; omega, by show w.sn + 1 ≤ w.used + _; omega⟩, g2.1, g2.2, by omega⟩
  · rw [if_neg he] at h
    obtain ⟨q1, q2⟩ := Prod.mk.inj h
    obtain ⟨q2, q3⟩ := Prod.mk.inj q2
    have q2 : D1 = D' := q2
    clear h same hap
    subst q1 q2 q3
    exact ⟨g1, ⟨by rw [g2.2]; exact hw.sc, hw.g, hw.sg, hw.slot, by rw [hseg]; exact hw.used, hw.sn⟩, g2.1, g2.2, by omega⟩
end Go.LX
end
section
set_option maxRecDepth 100000
set_option maxHeartbeats 2000000
set_option autoImplicit false
set_option linter.unusedVariables false
set_option linter.unusedSimpArgs false
namespace Go.LX
open Go.Proofs

theorem chkL_ok {D : Dsk} {w : W7} {s : Bs} (ho : D.Ok) (hw : w.Ok D) (hb : D.buf.length ≤ 900000) {e : Int} {D' : Dsk} {w' : W7} (h : chkL D w s = (e, D', w')) : D'.Ok ∧ w'.Ok D' ∧ D'.sz = D.sz ∧ D'.sc = D.sc ∧ D'.buf.length ≤ D.buf.length + 200 := by
  have hbr : ∀ {D1 : Dsk} {w1 : W7}, w1.Ok D1 → ∀ b, ({ w1 with broken := b } : W7).Ok D1 := fun hw b => ⟨hw.sc, hw.g, hw.sg, hw.slot, hw.used, hw.sn⟩
  have turn : ∀ (x : Int) (D1 : Dsk) (w1 : W7), chkP D w s = (x, D1, w1) → D1.Ok → w1.Ok D1 → D1.sz = D.sz → D1.sc = D.sc → D1.buf.length ≤ D.buf.length + 200 → ¬ w.broken = true → D'.Ok ∧ w'.Ok D' ∧ D'.sz = D.sz ∧ D'.sc = D.sc ∧ D'.buf.length ≤ D.buf.length + 200 := by
    intro x D1 w1 hx a1 a2 a3 a4 a5 h0
    unfold chkL at h
    rw [if_neg h0, hx] at h
    obtain ⟨q1, q2⟩ := Prod.mk.inj h
    obtain ⟨q2, q3⟩ := Prod.mk.inj q2
    have q2 : D1 = D' := q2
    have q3 : ({ w1 with broken := decide (x = 13) } : W7) = w' := q3
    clear h hx
    subst q2 q3
    exact ⟨a1, hbr a2 _, a3, a4, a5⟩
  by_cases h0 : w.broken = true
  · unfold chkL at h
    rw [if_pos h0] at h
    obtain ⟨q1, q2⟩ := Prod.mk.inj h
    obtain ⟨q2, q3⟩ := Prod.mk.inj q2
    clear h turn
    subst q1 q2 q3
    exact ⟨ho, hw, rfl, rfl, Nat.le_add_right _ _⟩
  by_cases h1 : partsV D.sz s.length = 0
  · exact turn 1 D w (by unfold chkP; rw [if_pos h1]) ho hw rfl rfl (Nat.le_add_right _ _) h0
  by_cases h2 : segV D < partsV D.sz s.length
  · exact turn 2 D w (by unfold chkP; rw [if_neg h1, if_pos h2]) ho hw rfl rfl (Nat.le_add_right _ _) h0
  obtain ⟨g1, sg1, e1, hnx⟩ : ∃ g1 sg1 e1, hNext w.g w.sg = ((g1, sg1), e1) := ⟨_, _, _, rfl⟩
  have hg := hw.g
  have hrg := hNext_rng (g := w.g) (by omega) hw.sg hnx
  by_cases h3 : e1 ≠ 0
  · exact turn e1 D w (by unfold chkP; rw [if_neg h1, if_neg h2, hnx, if_pos h3]) ho hw rfl rfl (Nat.le_add_right _ _) h0
  obtain ⟨r1, r2, r3, r4⟩ := hrg (Decidable.not_not.1 h3)
  have hpf := parts_facts h1
  rw [Int.toNat_natCast] at hpf
  obtain ⟨L, hL⟩ : ∃ L, splitL D.sz g1.toNat 0 s = L := ⟨_, rfl⟩
  have hll : L.length = npar (D.sz - 25) s.length := by rw [← hL]; exact splitL_len _ _ _ _
  have a1 := putV_ok L D (baseV D sg1) ho (by omega)
  have a2 := putV_geo L D (baseV D sg1)
  have a3 := putV_buf L D (baseV D sg1)
  obtain ⟨e3, D3, hp⟩ : ∃ e3 D3, putV D (baseV D sg1) L = (e3, D3) := ⟨_, _, rfl⟩
  rw [hp] at a1 a2 a3
  have a1 : D3.Ok := a1
  have a2 : D3.sz = D.sz ∧ D3.sc = D.sc := a2
  have a3 : D3.buf.length ≤ D.buf.length + L.length := a3
  have hseg : segV D3 = segV D := by unfold segV; rw [a2.2]
  have hw3 : w.Ok D3 := ⟨by rw [a2.2]; exact hw.sc, hw.g, hw.sg, hw.slot, by rw [hseg]; exact hw.used, hw.sn⟩
  obtain ⟨hd, hhd⟩ : ∃ hd, (hRes D.sz g1 sg1).1 = hd := ⟨_, rfl⟩
  have hck : chkP D w s = (if e3 ≠ 0 then (e3, D3, w) else if (putV D3 (1 - w.slot) [hd]).1 ≠ 0 then ((putV D3 (1 - w.slot) [hd]).1, (putV D3 (1 - w.slot) [hd]).2, w) else (0, (putV D3 (1 - w.slot) [hd]).2, ⟨g1.toNat, sg1, 1 - w.slot, partsV D.sz s.length, 1, true, w.broken⟩)) := by
    unfold chkP
    rw [if_neg h1, if_neg h2, hnx]
    show (if e1 ≠ 0 then _ else _) = _
    rw [if_neg h3]
    show (if (putV D (baseV D sg1) (splitL D.sz g1.toNat 0 s)).1 ≠ 0 then _ else if (putV (putV D (baseV D sg1) (splitL D.sz g1.toNat 0 s)).2 (1 - w.slot) [(hRes D.sz g1 sg1).1]).1 ≠ 0 then ((putV (putV D (baseV D sg1) (splitL D.sz g1.toNat 0 s)).2 (1 - w.slot) [(hRes D.sz g1 sg1).1]).1, (putV (putV D (baseV D sg1) (splitL D.sz g1.toNat 0 s)).2 (1 - w.slot) [(hRes D.sz g1 sg1).1]).2, w) else (0, (putV (putV D (baseV D sg1) (splitL D.sz g1.toNat 0 s)).2 (1 - w.slot) [(hRes D.sz g1 sg1).1]).2, _)) = _
    rw [hL, hhd, hp]
  by_cases h4 : e3 ≠ 0
  · exact turn e3 D3 w (hck.trans (if_pos h4)) a1 hw3 a2.1 a2.2 (by omega) h0
  rw [if_neg h4] at hck
  have b1 := putV_ok [hd] D3 (1 - w.slot) a1 (by show D3.buf.length + 1 < 1000000; omega)
  have b2 := putV_geo [hd] D3 (1 - w.slot)
  have b3 := putV_buf [hd] D3 (1 - w.slot)
  obtain ⟨e4, D4, hp4⟩ : ∃ e4 D4, putV D3 (1 - w.slot) [hd] = (e4, D4) := ⟨_, _, rfl⟩
  rw [hp4] at b1 b2 b3 hck
  have b1 : D4.Ok := b1
  have b2 : D4.sz = D3.sz ∧ D4.sc = D3.sc := b2
  have b3 : D4.buf.length ≤ D3.buf.length + 1 := b3
  have hseg4 : segV D4 = segV D := by unfold segV; rw [b2.2, a2.2]
  have hw4 : w.Ok D4 := ⟨by rw [b2.2, a2.2]; exact hw.sc, hw.g, hw.sg, hw.slot, by rw [hseg4]; exact hw.used, hw.sn⟩
  have hpos := npar_pos (D.sz - 25) s.length
  by_cases h5 : e4 ≠ 0
  · exact turn e4 D4 w (hck.trans (if_pos h5)) b1 hw4 (b2.1.trans a2.1) (b2.2.trans a2.2) (by omega) h0
  · have hsl := hw.slot
    exact turn 0 D4 _ (hck.trans (if_neg h5)) b1 ⟨by rw [b2.2, a2.2]; exact hw.sc, ⟨by show 1 ≤ g1.toNat; omega, by show g1.toNat < _; omega⟩, ⟨r3, r4⟩, ⟨by show 0 ≤ 1 - w.slot; omega, by show 1 - w.slot ≤ 1; omega⟩, by rw [hseg4]; show partsV D.sz s.length ≤ _; omega, by show 1 ≤ partsV D.sz s.length; omega⟩ (b2.1.trans a2.1) (b2.2.trans a2.2) (by omega) h0
theorem popV_ok {P : P7} (ho : P.D.Ok) (hb : P.D.buf.length ≤ 900000) : (popV P).Ok ∧ (popV P).D.buf.length ≤ P.D.buf.length + 1 ∧ (popV P).D.sz = P.D.sz ∧ (popV P).D.sc = P.D.sc := by
  obtain ⟨e1, D1, w1, l1, hop⟩ : ∃ e1 D1 w1 l1, opn P.D = (e1, D1, w1, l1) := ⟨_, _, _, _, rfl⟩
  have hk := opn_ok ho hb hop
  unfold popV
  rw [hop]
  show ((if e1 = 0 then (⟨D1, some w1, 0, l1⟩ : P7) else ⟨D1, none, e1, []⟩)).Ok ∧ ((if e1 = 0 then (⟨D1, some w1, 0, l1⟩ : P7) else ⟨D1, none, e1, []⟩)).D.buf.length ≤ _ ∧ ((if e1 = 0 then (⟨D1, some w1, 0, l1⟩ : P7) else ⟨D1, none, e1, []⟩)).D.sz = _ ∧ ((if e1 = 0 then (⟨D1, some w1, 0, l1⟩ : P7) else ⟨D1, none, e1, []⟩)).D.sc = _
  by_cases he : e1 = 0
  · rw [if_pos he]
    exact ⟨⟨hk.1, fun w hw => (Option.some.inj hw) ▸ (hk.2.2.2.1 he).2.1⟩, hk.2.2.2.2, hk.2.1, hk.2.2.1⟩
  · rw [if_neg he]
    exact ⟨⟨hk.1, fun w hw => by cases hw⟩, hk.2.2.2.2, hk.2.1, hk.2.2.1⟩
theorem doV_ok {P : P7} {a : Act7} (hP : P.Ok) (ha : a.ok) (hb : P.D.buf.length ≤ 900000) : (doV P a).Ok ∧ (doV P a).D.buf.length ≤ P.D.buf.length + 200 ∧ (doV P a).D.sz = P.D.sz ∧ (doV P a).D.sc = P.D.sc := by
  obtain ⟨D, w, e, l⟩ := P
  obtain ⟨ho, hw⟩ := hP
  have ho : D.Ok := ho
  have hw : ∀ w1, w = some w1 → w1.Ok D := hw
  have hb : D.buf.length ≤ 900000 := hb
  unfold doV
  by_cases h0 : a.kd = 0
  · rw [if_pos h0]
    cases w with
    | none => exact ⟨⟨ho, fun w1 h => by cases h⟩, Nat.le_add_right _ _, rfl, rfl⟩
    | some w1 =>
      obtain ⟨e1, D1, w2, hr⟩ : ∃ e1 D1 w2, appL D w1 a.s = (e1, D1, w2) := ⟨_, _, _, rfl⟩
      have hk := appL_ok ho (hw w1 rfl) hb hr
      show (⟨(appL D w1 a.s).2.1, some (appL D w1 a.s).2.2, (appL D w1 a.s).1, l⟩ : P7).Ok ∧ (⟨(appL D w1 a.s).2.1, some (appL D w1 a.s).2.2, (appL D w1 a.s).1, l⟩ : P7).D.buf.length ≤ _ ∧ (⟨(appL D w1 a.s).2.1, some (appL D w1 a.s).2.2, (appL D w1 a.s).1, l⟩ : P7).D.sz = _ ∧ (⟨(appL D w1 a.s).2.1, some (appL D w1 a.s).2.2, (appL D w1 a.s).1, l⟩ : P7).D.sc = _
      rw [hr]
      exact ⟨⟨hk.1, fun w3 h3 => (Option.some.inj h3) ▸ hk.2.1⟩, hk.2.2.2.2, hk.2.2.1, hk.2.2.2.1⟩
  rw [if_neg h0]
  by_cases h1 : a.kd = 1
  · rw [if_pos h1]
    cases w with
    | none => exact ⟨⟨ho, fun w1 h => by cases h⟩, Nat.le_add_right _ _, rfl, rfl⟩
    | some w1 =>
      obtain ⟨e1, D1, w2, hr⟩ : ∃ e1 D1 w2, chkL D w1 a.s = (e1, D1, w2) := ⟨_, _, _, rfl⟩
      have hk := chkL_ok ho (hw w1 rfl) hb hr
      show (⟨(chkL D w1 a.s).2.1, some (chkL D w1 a.s).2.2, (chkL D w1 a.s).1, l⟩ : P7).Ok ∧ (⟨(chkL D w1 a.s).2.1, some (chkL D w1 a.s).2.2, (chkL D w1 a.s).1, l⟩ : P7).D.buf.length ≤ _ ∧ (⟨(chkL D w1 a.s).2.1, some (chkL D w1 a.s).2.2, (chkL D w1 a.s).1, l⟩ : P7).D.sz = _ ∧ (⟨(chkL D w1 a.s).2.1, some (chkL D w1 a.s).2.2, (chkL D w1 a.s).1, l⟩ : P7).D.sc = _
      rw [hr]
      exact ⟨⟨hk.1, fun w3 h3 => (Option.some.inj h3) ▸ hk.2.1⟩, hk.2.2.2.2, hk.2.2.1, hk.2.2.2.1⟩
  rw [if_neg h1]
  by_cases h2 : a.kd = 2
  · rw [if_pos h2]
    have hk := popV_ok (P := ⟨D, w, e, l⟩) ho hb
    exact ⟨hk.1, Nat.le_trans hk.2.1 (show D.buf.length + 1 ≤ D.buf.length + 200 by omega), hk.2.2⟩
  rw [if_neg h2]
  by_cases h3 : a.kd = 3
  · rw [if_pos h3]
    have hn := ha.n
    exact ⟨⟨ho.arm (by omega), fun w1 h => ⟨(hw w1 h).sc, (hw w1 h).g, (hw w1 h).sg, (hw w1 h).slot, (hw w1 h).used, (hw w1 h).sn⟩⟩, Nat.le_add_right _ _, rfl, rfl⟩
  rw [if_neg h3]
  have hk := popV_ok (P := ⟨D.cr (lastsV a), w, e, l⟩) (ho.cr _) (by show 0 ≤ 900000; decide)
  exact ⟨hk.1, Nat.le_trans hk.2.1 (show 0 + 1 ≤ D.buf.length + 200 by omega), hk.2.2⟩
theorem madeV_inv {z c : Nat} (h1 : 64 ≤ z ∧ z ≤ 512) (h2 : 4 ≤ c ∧ c ≤ 4096) : ∃ D', madeV z c = ⟨D', some ⟨1, 0, 1, 0, 0, false, false⟩, 0, []⟩ ∧ Inv7 D' ⟨1, 0, 1, 0, 0, false, false⟩ [] ∧ D'.sz = z ∧ D'.sc = c := by
  obtain ⟨D', h, hi, hz, hc⟩ := fresh_inv h1 h2
  refine ⟨D', ?_, hi, hz, hc⟩
  show (if (opn (Dsk.fresh z c)).1 = 0 then (⟨(opn (Dsk.fresh z c)).2.1, some (opn (Dsk.fresh z c)).2.2.1, 0, (opn (Dsk.fresh z c)).2.2.2⟩ : P7) else ⟨(opn (Dsk.fresh z c)).2.1, none, (opn (Dsk.fresh z c)).1, []⟩) = _
  rw [h]
  exact if_pos rfl
end Go.LX
end
section
set_option maxRecDepth 100000
set_option maxHeartbeats 2000000
set_option autoImplicit false
set_option linter.unusedVariables false
set_option linter.unusedSimpArgs false
namespace Go.LX
open Go.Proofs

theorem opn_out7 {D : Dsk} {w : W7} {now : List Bs} (h : Inv7 D w now) {e : Int} {D' : Dsk} {w' : W7} {l : List Bs} (h2 : (e, D', w', l) = opn D) : e = 0 ∧ D' = D ∧ w' = ⟨w.g, w.sg, w.slot, w.used, w.sn, false, false⟩ ∧ l = now := by
  rw [inv_open h] at h2
  obtain ⟨q1, q2⟩ := Prod.mk.inj h2
  obtain ⟨q2, q3⟩ := Prod.mk.inj q2
  obtain ⟨q3, q4⟩ := Prod.mk.inj q3
  exact ⟨q1, q2, q3, q4⟩
def awake7S : Spec := fun args H Q => match args, H with
  | [], [] => Q (.bool true) []
  | _, _ => False
theorem awake7_c : Meets Tryz.prog [] 7 awake7S := by
  refine meets_of Γok Tryz.func7 rfl ?_
  intro args H Q h
  unfold awake7S at h
  split at h
  case h_2 => exact h.elim
  obtain ⟨D, hm, hi, hz, hc⟩ := madeV_inv (z := 64) (c := 8) (by decide) (by decide)
  have hsg : segV D = 3 := by unfold segV; rw [hc]
  have ho := hi.calm.ok
  have hw := hi.wok
  obtain ⟨D1, hk1, hi1, hz1, hc1⟩ := inv_chk (s := [97]) hi (by decide) (by rw [hsg, hz]; decide) (by decide)
  rw [hz] at hk1 hi1 hz1
  obtain ⟨w1, hw1⟩ : ∃ w1 : W7, (⟨1 + 1, 1 - 0, 1 - 1, npar (64 - 25) ([97] : Bs).length, 1, true, false⟩ : W7) = w1 := ⟨_, rfl⟩
  have hk1 : chkL D ⟨1, 0, 1, 0, 0, false, false⟩ [97] = (0, D1, w1) := hw1 ▸ hk1
  have hi1 : Inv7 D1 w1 [[97]] := hw1 ▸ hi1
  have hr1 : w1.ready = true := hw1 ▸ rfl
  have hu1 : w1.used = 1 := hw1 ▸ rfl
  have hsg1 : segV D1 = 3 := by unfold segV; rw [hc1, hc]
  have hf1 : fitsW D1 w1 (([98] : Bs).length : Int) := by
    unfold fitsW
    rw [hz1, hsg1, hu1]
    decide
  obtain ⟨D2, hk2, hi2, hz2, hc2⟩ := inv_app (s := [98]) hi1 (by decide) hr1 hf1
  obtain ⟨w2, hw2⟩ : ∃ w2 : W7, ({ w1 with used := w1.used + npar (D1.sz - 25) ([98] : Bs).length, sn := w1.sn + 1 } : W7) = w2 := ⟨_, rfl⟩
  rw [hw2] at hk2 hi2
  have hi2 : Inv7 D2 w2 [[97], [98]] := hi2
  have ho1 := hi1.calm.ok
  have ho2 := hi2.calm.ok
  have hb0 : D.buf.length ≤ 900000 := by rw [hi.calm.buf]; decide
  have hb1 : D1.buf.length ≤ 900000 := by rw [hi1.calm.buf]; decide
  have hb2 : D2.buf.length ≤ 900000 := by rw [hi2.calm.buf]; decide
  have hwo1 := hi1.wok
  have hsq : decide (((segV D : Nat) : Int) = 3) = true := by rw [hsg]; rfl
  clear hw1 hw2 hi1 hf1
  (refine sx_sound Γok _ ?_; conv => whnf)
  refine CallVC.auto made7_k ⟨by decide, ?_⟩
  have hm2 : madeV ((64 : Int)).toNat ((8 : Int)).toNat = ⟨D, some ⟨1, 0, 1, 0, 0, false, false⟩, 0, []⟩ := hm
  rw [hm2]
  (conv => whnf)
  (repeat (first | (refine CallVC.auto w7seg_k (wIn_mk ho hw ?_); conv => whnf) | (refine Both.of_true hsq ?_; conv => whnf) | (exact Out.same; conv => whnf) | (exact Out1.same; conv => whnf) | (refine QAnd.mk ?_ ?_; conv => whnf) | (apply QStepH.go; conv => whnf) | (refine Both.lit_true ?_; conv => whnf) | (refine Both.lit_false ?_; conv => whnf) | (apply QStep.go; conv => whnf) | (refine Need.au ?_; conv => whnf) | (refine ⟨_, rfl, ?_⟩; conv => whnf) | (refine Both.of_false ?_ ?_; (focus (first | rfl | (simp [hsg] <;> fail))); conv => whnf) | (refine Both.of_true ?_ ?_; (focus (first | rfl | (simp [hsg] <;> fail))); conv => whnf)))
  (refine DrawVC.any Γok (by kernel_rfl) (by kernel_rfl) (by kernel_rfl) (by rfl) ?_; conv => whnf)
  (repeat (first | (refine CallVC.auto chkW_kE (wIn_mk ho hw ⟨by decide, hb0, 0, D1, w1, hk1.symm, ?_⟩); conv => whnf) | (refine CallVC.auto appW_kE (wIn_mk ho1 hwo1 ⟨by decide, hb1, 0, D2, w2, hk2.symm, ?_⟩); conv => whnf) | (exact Out.same; conv => whnf) | (exact Out1.same; conv => whnf) | (refine QAnd.mk ?_ ?_; conv => whnf) | (apply QStepH.go; conv => whnf) | (refine Both.lit_true ?_; conv => whnf) | (refine Both.lit_false ?_; conv => whnf) | (apply QStep.go; conv => whnf) | (refine Need.au ?_; conv => whnf) | (refine ⟨_, rfl, ?_⟩; conv => whnf)))
  refine CallVC.auto openW_k (dIn_mk ho2 ⟨hb2, fun e3 D3 w3 l3 h3 => ⟨fun hne => ?_, fun heq => ?_⟩⟩)
  · exact absurd (opn_out7 hi2 h3).1 hne
  obtain ⟨u1, u2, u3, u4⟩ := opn_out7 hi2 h3
  clear h3
  subst u2 u4
  (conv => whnf)
  (repeat (first | (refine CallVC.auto like_k ⟨[[97], [98]], rfl, rfl, rfl, rfl, Nat.le_of_ble_eq_true rfl, ?_⟩; conv => whnf) | (exact Out.same; conv => whnf) | (exact Out1.same; conv => whnf) | (refine QAnd.mk ?_ ?_; conv => whnf) | (apply QStepH.go; conv => whnf) | (refine Both.lit_true ?_; conv => whnf) | (refine Both.lit_false ?_; conv => whnf) | (apply QStep.go; conv => whnf) | (refine Need.au ?_; conv => whnf) | (refine ⟨_, rfl, ?_⟩; conv => whnf)))
  exact ⟨_, _, WeakV.drop rfl, h⟩
theorem awake7_k : Contract Tryz.prog [] 7 awake7S := ⟨⟨⟨_, rfl, rfl, rfl⟩⟩, awake7_c⟩
end Go.LX
end
section
set_option maxRecDepth 100000
set_option maxHeartbeats 4000000
set_option autoImplicit false
set_option linter.unusedVariables false
set_option linter.unusedSimpArgs false
namespace Go.LX
open Go.Proofs

def pdoES : Spec := fun args H Q => match args with
  | [.ptr 0 0, .agg [.int .i64 kd, .int .i64 n, .str s, .sl 1 n1 c1 f1, .sl 1 n2 c2 f2]] => ∃ (P P' : P7) (a : Act7), H = prB P ∧ actIs7 kd n s n1 c1 f1 n2 c2 f2 a ∧ a.ok ∧ P.D.Ok ∧ (∀ w, P.w = some w → w.Ok P.D) ∧ P.D.buf.length ≤ 900000 ∧ doV P a = P' ∧ Q (.bool true) (prA P.w.isSome P')
  | _ => False
theorem pdo_kE : Contract Tryz.prog [] 20 pdoES := pdo_k.imp fun args H Q h => by
  unfold pdoES at h
  split at h
  case h_2 => exact h.elim
  obtain ⟨P, P', a, h1, h2, h3, h4, h5, h6, h7, h8⟩ := h
  exact ⟨P, a, h1, h2, h3, h4, h5, h6, by rw [h7]; exact h8⟩
def Act7.rng (a : Act7) : Prop := -9223372036854775808 ≤ a.n ∧ a.n ≤ 9223372036854775807
theorem Act7.ok_of {a : Act7} (h1 : a.small) (h2 : a.rng) : a.ok := ⟨by have := h1.1; omega, by have := h1.2.1; omega, by have := h1.2.2; omega, h2⟩
theorem share7 {R g : Prop} (m : R → g) (s : R) : g := m s
structure J7 (P : P7) (k : Nat) : Prop where
  ok : P.Ok
  buf : P.D.buf.length ≤ 200 * (k + 1)
theorem J7.next {P : P7} {a : Act7} {k : Nat} (h : J7 P k) (ha : a.ok) (hk : k ≤ 100) : J7 (doV P a) (k + 1) := by
  have hb := h.buf
  have h2 := doV_ok h.ok ha (by omega)
  exact ⟨h2.1, by have := h2.2.1; omega⟩
theorem J7.made {z c : Nat} (h1 : 64 ≤ z ∧ z ≤ 512) (h2 : 1 ≤ c ∧ c ≤ 4096) : J7 (madeV z c) 0 := by
  have h := popV_ok (P := ⟨Dsk.fresh z c, none, 0, []⟩) (Dsk.fresh_ok h1 h2) (by show 0 ≤ 900000; decide)
  exact ⟨h.1, Nat.le_trans h.2.1 (by show 0 + 1 ≤ 200; decide)⟩
end Go.LX
end
section
set_option maxRecDepth 100000
set_option maxHeartbeats 4000000
set_option autoImplicit false
set_option linter.unusedVariables false
set_option linter.unusedSimpArgs false
namespace Go.LX
open Go.Proofs

def lawPlays7S : Spec := fun args H Q => match args, H with
  | [.int .i64 z, .int .i64 c, .sl 5 n cs f, .int .i64 b], [] => ∃ l : List Act7, n = l.length ∧ cs = l.flatMap enC ∧ (∀ a ∈ l, a.rng) ∧ Q (.bool true) []
  | _, _ => False
theorem plays7_law : Meets Tryz.prog [] 6 lawPlays7S := by
  refine meets_of Γok Tryz.func6 rfl ?_
  intro args H Q h
  unfold lawPlays7S at h
  split at h
  case h_2 => exact h.elim
  rename_i z c n cs f b
  obtain ⟨l, rfl, rfl, hrng, h⟩ := h
  (refine sx_sound Γok _ ?_; conv => whnf)
  (repeat (first | (exact Out.same; conv => whnf) | (exact Out1.same; conv => whnf) | (refine QAnd.mk ?_ ?_; conv => whnf) | (apply QStepH.go; conv => whnf) | (refine Both.lit_true ?_; conv => whnf) | (refine Both.lit_false ?_; conv => whnf) | (apply QStep.go; conv => whnf) | (refine Need.au ?_; conv => whnf) | (refine ⟨_, rfl, ?_⟩; conv => whnf) | (refine CallVC.auto awake7_k ?_; conv => whnf)))
  refine CallVC.auto few7_k ⟨l, rfl, rfl, ?_⟩
  intro b1 hb1
  cases b1
  · (conv => whnf)
    (repeat (first | (exact Out.same; conv => whnf) | (exact Out1.same; conv => whnf) | (refine QAnd.mk ?_ ?_; conv => whnf) | (apply QStepH.go; conv => whnf) | (refine Both.lit_true ?_; conv => whnf) | (refine Both.lit_false ?_; conv => whnf) | (apply QStep.go; conv => whnf) | (refine Need.au ?_; conv => whnf) | (refine ⟨_, rfl, ?_⟩; conv => whnf) | (refine Both.of_false ?_ ?_; (focus (first | rfl | (simp <;> fail))); conv => whnf) | (refine Both.of_true ?_ ?_; (focus (first | rfl | (simp <;> fail))); conv => whnf)))
    exact ⟨_, _, WeakV.drop rfl, h⟩
  obtain ⟨hz, hc, hlen, hsm⟩ := hb1 rfl
  clear hb1
  have hokg : okG z c = true := decide_eq_true (by omega)
  have hj0 : J7 (madeV z.toNat c.toNat) 0 := J7.made (by omega) (by omega)
  apply share7
  case m =>
    intro step
    (conv => whnf)
    (repeat (first | (exact Out.same; conv => whnf) | (exact Out1.same; conv => whnf) | (refine QAnd.mk ?_ ?_; conv => whnf) | (apply QStepH.go; conv => whnf) | (refine Both.lit_true ?_; conv => whnf) | (refine Both.lit_false ?_; conv => whnf) | (apply QStep.go; conv => whnf) | (refine Need.au ?_; conv => whnf) | (refine ⟨_, rfl, ?_⟩; conv => whnf)))
    refine CallVC.auto made7_k ⟨hokg, ?_⟩
    obtain ⟨⟨D0, w0, e0, l0⟩, hP0⟩ : ∃ P0, madeV z.toNat c.toNat = P0 := ⟨_, rfl⟩
    rw [hP0] at hj0 ⊢
    clear hP0
    cases w0 with
    | none =>
      (conv => whnf)
      (repeat (first | (exact Out.same; conv => whnf) | (exact Out1.same; conv => whnf) | (refine QAnd.mk ?_ ?_; conv => whnf) | (apply QStepH.go; conv => whnf) | (refine Both.lit_true ?_; conv => whnf) | (refine Both.lit_false ?_; conv => whnf) | (apply QStep.go; conv => whnf) | (refine Need.au ?_; conv => whnf) | (refine ⟨_, rfl, ?_⟩; conv => whnf)))
      refine loop_rule (fun x : Nat × P7 => match x with | (k, P) => ⟨[.any, .any, .sl 5 l.length (l.flatMap enC) f, .int .i64 b, .any, .any, .any, .any, .any, .ptr 0 0, .int .i64 (k : Int), .any, .any, .any, .any, .any, .any, .any, .any, .any, .any, .any, .any, .any, .any, .any, .any, .any, .any, .any, .any, .any, .any, .any, .any, .any, .any, .any, .any, .any, .any, .any, .any, .any, .any, .any, .any, .any, .any, .any, .any, .any, .any, .any, .any, .any, .any, .any, .any, .any, .any, .any, .any, .any, .any, .any, .any, .any, .any, .any, .any, .any, .any, .any, .any, .any, .any, .any, .any, .any, .any, .any, .any, .any, .any, .any, .any, .any, .any, .any, .any, .any, .any, .any, .any, .any, .any, .any, .any, .any, .any, .any, .any, .any, .any, .any, .any, .any, .any, .any, .any, .any, .any, .any, .any, .any, .any, .any, .any, .any, .any, .any, .any, .any, .any, .any, .any, .any, .any, .any, .any, .any, .any, .any, .any, .any, .any, .any, .any, .any, .any, .any, .any], prB P⟩) (fun x => x.1 ≤ l.length ∧ J7 x.2 x.1) (fun x => l.length - x.1) (0, ⟨D0, none, e0, l0⟩) ⟨Nat.zero_le _, hj0⟩ (Weak.auto ?_) step
      (repeat' ((conv => whnf); first | exact True.intro | (refine And.intro ?_ ?_)))
      all_goals first | rfl | exact .eq rfl
    | some w0 =>
      (conv => whnf)
      (repeat (first | (exact Out.same; conv => whnf) | (exact Out1.same; conv => whnf) | (refine QAnd.mk ?_ ?_; conv => whnf) | (apply QStepH.go; conv => whnf) | (refine Both.lit_true ?_; conv => whnf) | (refine Both.lit_false ?_; conv => whnf) | (apply QStep.go; conv => whnf) | (refine Need.au ?_; conv => whnf) | (refine ⟨_, rfl, ?_⟩; conv => whnf)))
      refine loop_rule (fun x : Nat × P7 => match x with | (k, P) => ⟨[.any, .any, .sl 5 l.length (l.flatMap enC) f, .int .i64 b, .any, .any, .any, .any, .any, .ptr 0 0, .int .i64 (k : Int), .any, .any, .any, .any, .any, .any, .any, .any, .any, .any, .any, .any, .any, .any, .any, .any, .any, .any, .any, .any, .any, .any, .any, .any, .any, .any, .any, .any, .any, .any, .any, .any, .any, .any, .any, .any, .any, .any, .any, .any, .any, .any, .any, .any, .any, .any, .any, .any, .any, .any, .any, .any, .any, .any, .any, .any, .any, .any, .any, .any, .any, .any, .any, .any, .any, .any, .any, .any, .any, .any, .any, .any, .any, .any, .any, .any, .any, .any, .any, .any, .any, .any, .any, .any, .any, .any, .any, .any, .any, .any, .any, .any, .any, .any, .any, .any, .any, .any, .any, .any, .any, .any, .any, .any, .any, .any, .any, .any, .any, .any, .any, .any, .any, .any, .any, .any, .any, .any, .any, .any, .any, .any, .any, .any, .any, .any, .any, .any, .any, .any, .any, .any], prB P⟩) (fun x => x.1 ≤ l.length ∧ J7 x.2 x.1) (fun x => l.length - x.1) (0, ⟨D0, some w0, e0, l0⟩) ⟨Nat.zero_le _, hj0⟩ (Weak.auto ?_) step
      (repeat' ((conv => whnf); first | exact True.intro | (refine And.intro ?_ ?_)))
      all_goals first | rfl | exact .eq rfl
  case s =>
    rintro ⟨k, ⟨D, w, e, l1⟩⟩ ⟨hkl0, hj⟩
    dsimp only at hkl0 hj
    have ho : D.Ok := hj.ok.D
    have hw : ∀ w1, w = some w1 → w1.Ok D := hj.ok.w
    have hb2 : D.buf.length ≤ 900000 := by
      have h9 : D.buf.length ≤ 200 * (k + 1) := hj.buf
      omega
    cases w with
    | none =>
      (refine sx_sound Γok _ ?_; conv => whnf)
      (repeat (first | (exact Out.same; conv => whnf) | (exact Out1.same; conv => whnf) | (refine QAnd.mk ?_ ?_; conv => whnf) | (apply QStepH.go; conv => whnf) | (refine Both.lit_true ?_; conv => whnf) | (refine Both.lit_false ?_; conv => whnf) | (apply QStep.go; conv => whnf) | (refine Need.au ?_; conv => whnf) | (refine ⟨_, rfl, ?_⟩; conv => whnf)))
      refine Both.dec (fun hlt => ?_) (fun hge => ?_)
      rotate_left
      · (conv => whnf)
        (repeat (first | (exact Out.same; conv => whnf) | (exact Out1.same; conv => whnf) | (refine QAnd.mk ?_ ?_; conv => whnf) | (apply QStepH.go; conv => whnf) | (refine Both.lit_true ?_; conv => whnf) | (refine Both.lit_false ?_; conv => whnf) | (apply QStep.go; conv => whnf) | (refine Need.au ?_; conv => whnf) | (refine ⟨_, rfl, ?_⟩; conv => whnf)))
        exact ⟨_, _, WeakV.drop rfl, h⟩
      have hkl : k < l.length := by omega
      have hr : ((l.flatMap enC).drop (((k : Int)).toNat * 5)).take 5 = enC l[k] := rows_at (en := enC) (z := 5) (fun _ => rfl) l k hkl
      have hao := Act7.ok_of (hsm _ (List.getElem_mem hkl)) (hrng _ (List.getElem_mem hkl))
      have hwr : IntKind.i64.wrap ((k : Int) + 1) = ((k + 1 : Nat) : Int) := by rw [wrap_i64 (by omega) (by omega)]; rfl
      have hix : (5 : Nat) = 5 ∧ (0 : Int) ≤ (k : Int) ∧ (k : Int) < ((l.length : Nat) : Int) := by omega
      revert hr hao
      generalize l[k] = a
      intro hr hao
      have hj' := hj.next hao (by omega)
      obtain ⟨⟨D', w', e', l'⟩, hd⟩ : ∃ P', doV (⟨D, none, e, l1⟩ : P7) a = P' := ⟨_, rfl⟩
      rw [hd] at hj'
      have ho' : D'.Ok := hj'.ok.D
      have hw' : ∀ w1, w' = some w1 → w1.Ok D' := hj'.ok.w
      cases w' with
      | none =>
        (conv => whnf)
        (repeat (first | (exact Out.same; conv => whnf) | (exact Out1.same; conv => whnf) | (refine QAnd.mk ?_ ?_; conv => whnf) | (apply QStepH.go; conv => whnf) | (refine Both.lit_true ?_; conv => whnf) | (refine Both.lit_false ?_; conv => whnf) | (apply QStep.go; conv => whnf) | (refine Need.au ?_; conv => whnf) | (refine ⟨_, rfl, ?_⟩; conv => whnf)))
        (refine DrawVC.any Γok (by kernel_rfl) (by kernel_rfl) (by kernel_rfl) (by rfl) ?_; conv => whnf)
        (repeat (first | (refine Need.mk hix ?_; conv => whnf) | (refine ⟨enC a, hr, ?_⟩; conv => whnf) | (refine CallVC.auto pdo_kE ⟨⟨D, none, e, l1⟩, ⟨D', none, e', l'⟩, a, rfl, ⟨rfl, rfl, rfl, rfl, rfl, rfl, rfl, rfl, rfl⟩, hao, ho, hw, hb2, hd, ?_⟩; conv => whnf) | (refine CallVC.auto stable_k (dIn_mk ho' ?_); conv => whnf) | (refine CallVC.auto buff_k (dIn_mk ho' ?_); conv => whnf) | (exact Out.same; conv => whnf) | (exact Out1.same; conv => whnf) | (refine QAnd.mk ?_ ?_; conv => whnf) | (apply QStepH.go; conv => whnf) | (refine Both.lit_true ?_; conv => whnf) | (refine Both.lit_false ?_; conv => whnf) | (apply QStep.go; conv => whnf) | (refine Need.au ?_; conv => whnf) | (refine ⟨_, rfl, ?_⟩; conv => whnf) | (refine Both.of_false ?_ ?_; (focus (first | rfl | (simp <;> fail))); conv => whnf) | (refine Both.of_true ?_ ?_; (focus (first | rfl | (simp <;> fail))); conv => whnf)))
        refine ⟨(k + 1, ⟨D', none, e', l'⟩), ⟨hkl, hj'⟩, by show l.length - (k + 1) < l.length - k; omega, Weak.auto ?_⟩
        (repeat' ((conv => whnf); first | exact True.intro | (refine And.intro ?_ ?_)))
        all_goals first | rfl | exact .eq rfl | exact congrArg (SV.int .i64) hwr
      | some w2 =>
        (conv => whnf)
        (repeat (first | (exact Out.same; conv => whnf) | (exact Out1.same; conv => whnf) | (refine QAnd.mk ?_ ?_; conv => whnf) | (apply QStepH.go; conv => whnf) | (refine Both.lit_true ?_; conv => whnf) | (refine Both.lit_false ?_; conv => whnf) | (apply QStep.go; conv => whnf) | (refine Need.au ?_; conv => whnf) | (refine ⟨_, rfl, ?_⟩; conv => whnf)))
        (refine DrawVC.any Γok (by kernel_rfl) (by kernel_rfl) (by kernel_rfl) (by rfl) ?_; conv => whnf)
        (repeat (first | (refine Need.mk hix ?_; conv => whnf) | (refine ⟨enC a, hr, ?_⟩; conv => whnf) | (refine CallVC.auto pdo_kE ⟨⟨D, none, e, l1⟩, ⟨D', some w2, e', l'⟩, a, rfl, ⟨rfl, rfl, rfl, rfl, rfl, rfl, rfl, rfl, rfl⟩, hao, ho, hw, hb2, hd, ?_⟩; conv => whnf) | (refine CallVC.auto stable_k (dIn_mk ho' ?_); conv => whnf) | (refine CallVC.auto buff_k (dIn_mk ho' ?_); conv => whnf) | (exact Out.same; conv => whnf) | (exact Out1.same; conv => whnf) | (refine QAnd.mk ?_ ?_; conv => whnf) | (apply QStepH.go; conv => whnf) | (refine Both.lit_true ?_; conv => whnf) | (refine Both.lit_false ?_; conv => whnf) | (apply QStep.go; conv => whnf) | (refine Need.au ?_; conv => whnf) | (refine ⟨_, rfl, ?_⟩; conv => whnf) | (refine Both.of_false ?_ ?_; (focus (first | rfl | (simp <;> fail))); conv => whnf) | (refine Both.of_true ?_ ?_; (focus (first | rfl | (simp <;> fail))); conv => whnf)))
        have hwo := hw' w2 rfl
        have h2s : 2 ≤ D'.sc := Nat.le_trans (by decide) hwo.sc
        have n1 : (!decide (w2.broken = w2.broken)) = false := by simp
        have n2 : (!decide (w2.ready = w2.ready)) = false := by simp
        have n3 : (!decide (((w2.g : Nat) : Int) = ((w2.g : Nat) : Int))) = false := by simp
        have n4 : (!decide (((w2.used : Nat) : Int) = ((w2.used : Nat) : Int))) = false := by simp
        have n5 : (!decide (((segV D' : Nat) : Int) = ((segV D' : Nat) : Int))) = false := by simp
        have n6 : (!decide (decide (fitsW D' w2 b) = decide (fitsW D' w2 b))) = false := by simp
        (refine DrawVC.any Γok (by kernel_rfl) (by kernel_rfl) (by kernel_rfl) (by rfl) ?_; conv => whnf)
        (repeat (first | (exact Out.same; conv => whnf) | (exact Out1.same; conv => whnf) | (refine QAnd.mk ?_ ?_; conv => whnf) | (apply QStepH.go; conv => whnf) | (refine Both.lit_true ?_; conv => whnf) | (refine Both.lit_false ?_; conv => whnf) | (apply QStep.go; conv => whnf) | (refine Need.au ?_; conv => whnf) | (refine ⟨_, rfl, ?_⟩; conv => whnf)))
        (refine DrawVC.any Γok (by kernel_rfl) (by kernel_rfl) (by kernel_rfl) (by rfl) ?_; conv => whnf)
        (repeat (first | (exact Out.same; conv => whnf) | (exact Out1.same; conv => whnf) | (refine QAnd.mk ?_ ?_; conv => whnf) | (apply QStepH.go; conv => whnf) | (refine Both.lit_true ?_; conv => whnf) | (refine Both.lit_false ?_; conv => whnf) | (apply QStep.go; conv => whnf) | (refine Need.au ?_; conv => whnf) | (refine ⟨_, rfl, ?_⟩; conv => whnf)))
        refine CallVC.auto w7broken_k (wIn_mk ho' hwo ?_)
        (conv => whnf)
        (repeat (first | (refine Both.of_false n1 ?_; conv => whnf) | (exact Out.same; conv => whnf) | (exact Out1.same; conv => whnf) | (refine QAnd.mk ?_ ?_; conv => whnf) | (apply QStepH.go; conv => whnf) | (refine Both.lit_true ?_; conv => whnf) | (refine Both.lit_false ?_; conv => whnf) | (apply QStep.go; conv => whnf) | (refine Need.au ?_; conv => whnf) | (refine ⟨_, rfl, ?_⟩; conv => whnf)))
        refine CallVC.auto w7ready_k (wIn_mk ho' hwo ?_)
        (conv => whnf)
        (repeat (first | (refine Both.of_false n2 ?_; conv => whnf) | (exact Out.same; conv => whnf) | (exact Out1.same; conv => whnf) | (refine QAnd.mk ?_ ?_; conv => whnf) | (apply QStepH.go; conv => whnf) | (refine Both.lit_true ?_; conv => whnf) | (refine Both.lit_false ?_; conv => whnf) | (apply QStep.go; conv => whnf) | (refine Need.au ?_; conv => whnf) | (refine ⟨_, rfl, ?_⟩; conv => whnf)))
        refine CallVC.auto w7gen_k (wIn_mk ho' hwo ?_)
        (conv => whnf)
        (repeat (first | (refine Both.of_false n3 ?_; conv => whnf) | (exact Out.same; conv => whnf) | (exact Out1.same; conv => whnf) | (refine QAnd.mk ?_ ?_; conv => whnf) | (apply QStepH.go; conv => whnf) | (refine Both.lit_true ?_; conv => whnf) | (refine Both.lit_false ?_; conv => whnf) | (apply QStep.go; conv => whnf) | (refine Need.au ?_; conv => whnf) | (refine ⟨_, rfl, ?_⟩; conv => whnf)))
        refine CallVC.auto w7used_k (wIn_mk ho' hwo ?_)
        (conv => whnf)
        (repeat (first | (refine Both.of_false n4 ?_; conv => whnf) | (refine CallVC.auto w7seg_k (wIn_mk ho' hwo ?_); conv => whnf) | (refine CallVC.auto rseg_k (rIn_mk ho' ⟨h2s, ?_⟩); conv => whnf) | (refine Both.of_false n5 ?_; conv => whnf) | (exact Out.same; conv => whnf) | (exact Out1.same; conv => whnf) | (refine QAnd.mk ?_ ?_; conv => whnf) | (apply QStepH.go; conv => whnf) | (refine Both.lit_true ?_; conv => whnf) | (refine Both.lit_false ?_; conv => whnf) | (apply QStep.go; conv => whnf) | (refine Need.au ?_; conv => whnf) | (refine ⟨_, rfl, ?_⟩; conv => whnf)))
        refine CallVC.auto fitsW_k (wIn_mk ho' hwo ?_)
        (conv => whnf)
        (repeat (first | (refine CallVC.auto rfits_k (rwIn_mk ho' hwo ?_); conv => whnf) | (refine Both.of_false n6 ?_; conv => whnf) | (exact Out.same; conv => whnf) | (exact Out1.same; conv => whnf) | (refine QAnd.mk ?_ ?_; conv => whnf) | (apply QStepH.go; conv => whnf) | (refine Both.lit_true ?_; conv => whnf) | (refine Both.lit_false ?_; conv => whnf) | (apply QStep.go; conv => whnf) | (refine Need.au ?_; conv => whnf) | (refine ⟨_, rfl, ?_⟩; conv => whnf)))
        refine ⟨(k + 1, ⟨D', some w2, e', l'⟩), ⟨hkl, hj'⟩, by show l.length - (k + 1) < l.length - k; omega, Weak.auto ?_⟩
        (repeat' ((conv => whnf); first | exact True.intro | (refine And.intro ?_ ?_)))
        all_goals first | rfl | exact .eq rfl | exact congrArg (SV.int .i64) hwr
    | some w1 =>
      (refine sx_sound Γok _ ?_; conv => whnf)
      (repeat (first | (exact Out.same; conv => whnf) | (exact Out1.same; conv => whnf) | (refine QAnd.mk ?_ ?_; conv => whnf) | (apply QStepH.go; conv => whnf) | (refine Both.lit_true ?_; conv => whnf) | (refine Both.lit_false ?_; conv => whnf) | (apply QStep.go; conv => whnf) | (refine Need.au ?_; conv => whnf) | (refine ⟨_, rfl, ?_⟩; conv => whnf)))
      refine Both.dec (fun hlt => ?_) (fun hge => ?_)
      rotate_left
      · (conv => whnf)
        (repeat (first | (exact Out.same; conv => whnf) | (exact Out1.same; conv => whnf) | (refine QAnd.mk ?_ ?_; conv => whnf) | (apply QStepH.go; conv => whnf) | (refine Both.lit_true ?_; conv => whnf) | (refine Both.lit_false ?_; conv => whnf) | (apply QStep.go; conv => whnf) | (refine Need.au ?_; conv => whnf) | (refine ⟨_, rfl, ?_⟩; conv => whnf)))
        exact ⟨_, _, WeakV.drop rfl, h⟩
      have hkl : k < l.length := by omega
      have hr : ((l.flatMap enC).drop (((k : Int)).toNat * 5)).take 5 = enC l[k] := rows_at (en := enC) (z := 5) (fun _ => rfl) l k hkl
      have hao := Act7.ok_of (hsm _ (List.getElem_mem hkl)) (hrng _ (List.getElem_mem hkl))
      have hwr : IntKind.i64.wrap ((k : Int) + 1) = ((k + 1 : Nat) : Int) := by rw [wrap_i64 (by omega) (by omega)]; rfl
      have hix : (5 : Nat) = 5 ∧ (0 : Int) ≤ (k : Int) ∧ (k : Int) < ((l.length : Nat) : Int) := by omega
      revert hr hao
      generalize l[k] = a
      intro hr hao
      have hj' := hj.next hao (by omega)
      obtain ⟨⟨D', w', e', l'⟩, hd⟩ : ∃ P', doV (⟨D, some w1, e, l1⟩ : P7) a = P' := ⟨_, rfl⟩
      rw [hd] at hj'
      have ho' : D'.Ok := hj'.ok.D
      have hw' : ∀ w1, w' = some w1 → w1.Ok D' := hj'.ok.w
      cases w' with
      | none =>
        (conv => whnf)
        (repeat (first | (exact Out.same; conv => whnf) | (exact Out1.same; conv => whnf) | (refine QAnd.mk ?_ ?_; conv => whnf) | (apply QStepH.go; conv => whnf) | (refine Both.lit_true ?_; conv => whnf) | (refine Both.lit_false ?_; conv => whnf) | (apply QStep.go; conv => whnf) | (refine Need.au ?_; conv => whnf) | (refine ⟨_, rfl, ?_⟩; conv => whnf)))
        (refine DrawVC.any Γok (by kernel_rfl) (by kernel_rfl) (by kernel_rfl) (by rfl) ?_; conv => whnf)
        (repeat (first | (refine Need.mk hix ?_; conv => whnf) | (refine ⟨enC a, hr, ?_⟩; conv => whnf) | (refine CallVC.auto pdo_kE ⟨⟨D, some w1, e, l1⟩, ⟨D', none, e', l'⟩, a, rfl, ⟨rfl, rfl, rfl, rfl, rfl, rfl, rfl, rfl, rfl⟩, hao, ho, hw, hb2, hd, ?_⟩; conv => whnf) | (refine CallVC.auto stable_k (dIn_mk ho' ?_); conv => whnf) | (refine CallVC.auto buff_k (dIn_mk ho' ?_); conv => whnf) | (exact Out.same; conv => whnf) | (exact Out1.same; conv => whnf) | (refine QAnd.mk ?_ ?_; conv => whnf) | (apply QStepH.go; conv => whnf) | (refine Both.lit_true ?_; conv => whnf) | (refine Both.lit_false ?_; conv => whnf) | (apply QStep.go; conv => whnf) | (refine Need.au ?_; conv => whnf) | (refine ⟨_, rfl, ?_⟩; conv => whnf) | (refine Both.of_false ?_ ?_; (focus (first | rfl | (simp <;> fail))); conv => whnf) | (refine Both.of_true ?_ ?_; (focus (first | rfl | (simp <;> fail))); conv => whnf)))
        refine ⟨(k + 1, ⟨D', none, e', l'⟩), ⟨hkl, hj'⟩, by show l.length - (k + 1) < l.length - k; omega, Weak.auto ?_⟩
        (repeat' ((conv => whnf); first | exact True.intro | (refine And.intro ?_ ?_)))
        all_goals first | rfl | exact .eq rfl | exact congrArg (SV.int .i64) hwr
      | some w2 =>
        (conv => whnf)
        (repeat (first | (exact Out.same; conv => whnf) | (exact Out1.same; conv => whnf) | (refine QAnd.mk ?_ ?_; conv => whnf) | (apply QStepH.go; conv => whnf) | (refine Both.lit_true ?_; conv => whnf) | (refine Both.lit_false ?_; conv => whnf) | (apply QStep.go; conv => whnf) | (refine Need.au ?_; conv => whnf) | (refine ⟨_, rfl, ?_⟩; conv => whnf)))
        (refine DrawVC.any Γok (by kernel_rfl) (by kernel_rfl) (by kernel_rfl) (by rfl) ?_; conv => whnf)
        (repeat (first | (refine Need.mk hix ?_; conv => whnf) | (refine ⟨enC a, hr, ?_⟩; conv => whnf) | (refine CallVC.auto pdo_kE ⟨⟨D, some w1, e, l1⟩, ⟨D', some w2, e', l'⟩, a, rfl, ⟨rfl, rfl, rfl, rfl, rfl, rfl, rfl, rfl, rfl⟩, hao, ho, hw, hb2, hd, ?_⟩; conv => whnf) | (refine CallVC.auto stable_k (dIn_mk ho' ?_); conv => whnf) | (refine CallVC.auto buff_k (dIn_mk ho' ?_); conv => whnf) | (exact Out.same; conv => whnf) | (exact Out1.same; conv => whnf) | (refine QAnd.mk ?_ ?_; conv => whnf) | (apply QStepH.go; conv => whnf) | (refine Both.lit_true ?_; conv => whnf) | (refine Both.lit_false ?_; conv => whnf) | (apply QStep.go; conv => whnf) | (refine Need.au ?_; conv => whnf) | (refine ⟨_, rfl, ?_⟩; conv => whnf) | (refine Both.of_false ?_ ?_; (focus (first | rfl | (simp <;> fail))); conv => whnf) | (refine Both.of_true ?_ ?_; (focus (first | rfl | (simp <;> fail))); conv => whnf)))
        have hwo := hw' w2 rfl
        have h2s : 2 ≤ D'.sc := Nat.le_trans (by decide) hwo.sc
        have n1 : (!decide (w2.broken = w2.broken)) = false := by simp
        have n2 : (!decide (w2.ready = w2.ready)) = false := by simp
        have n3 : (!decide (((w2.g : Nat) : Int) = ((w2.g : Nat) : Int))) = false := by simp
        have n4 : (!decide (((w2.used : Nat) : Int) = ((w2.used : Nat) : Int))) = false := by simp
        have n5 : (!decide (((segV D' : Nat) : Int) = ((segV D' : Nat) : Int))) = false := by simp
        have n6 : (!decide (decide (fitsW D' w2 b) = decide (fitsW D' w2 b))) = false := by simp
        (refine DrawVC.any Γok (by kernel_rfl) (by kernel_rfl) (by kernel_rfl) (by rfl) ?_; conv => whnf)
        (repeat (first | (exact Out.same; conv => whnf) | (exact Out1.same; conv => whnf) | (refine QAnd.mk ?_ ?_; conv => whnf) | (apply QStepH.go; conv => whnf) | (refine Both.lit_true ?_; conv => whnf) | (refine Both.lit_false ?_; conv => whnf) | (apply QStep.go; conv => whnf) | (refine Need.au ?_; conv => whnf) | (refine ⟨_, rfl, ?_⟩; conv => whnf)))
        (refine DrawVC.any Γok (by kernel_rfl) (by kernel_rfl) (by kernel_rfl) (by rfl) ?_; conv => whnf)
        (repeat (first | (exact Out.same; conv => whnf) | (exact Out1.same; conv => whnf) | (refine QAnd.mk ?_ ?_; conv => whnf) | (apply QStepH.go; conv => whnf) | (refine Both.lit_true ?_; conv => whnf) | (refine Both.lit_false ?_; conv => whnf) | (apply QStep.go; conv => whnf) | (refine Need.au ?_; conv => whnf) | (refine ⟨_, rfl, ?_⟩; conv => whnf)))
        refine CallVC.auto w7broken_k (wIn_mk ho' hwo ?_)
        (conv => whnf)
        (repeat (first | (refine Both.of_false n1 ?_; conv => whnf) | (exact Out.same; conv => whnf) | (exact Out1.same; conv => whnf) | (refine QAnd.mk ?_ ?_; conv => whnf) | (apply QStepH.go; conv => whnf) | (refine Both.lit_true ?_; conv => whnf) | (refine Both.lit_false ?_; conv => whnf) | (apply QStep.go; conv => whnf) | (refine Need.au ?_; conv => whnf) | (refine ⟨_, rfl, ?_⟩; conv => whnf)))
        refine CallVC.auto w7ready_k (wIn_mk ho' hwo ?_)
        (conv => whnf)
        (repeat (first | (refine Both.of_false n2 ?_; conv => whnf) | (exact Out.same; conv => whnf) | (exact Out1.same; conv => whnf) | (refine QAnd.mk ?_ ?_; conv => whnf) | (apply QStepH.go; conv => whnf) | (refine Both.lit_true ?_; conv => whnf) | (refine Both.lit_false ?_; conv => whnf) | (apply QStep.go; conv => whnf) | (refine Need.au ?_; conv => whnf) | (refine ⟨_, rfl, ?_⟩; conv => whnf)))
        refine CallVC.auto w7gen_k (wIn_mk ho' hwo ?_)
        (conv => whnf)
        (repeat (first | (refine Both.of_false n3 ?_; conv => whnf) | (exact Out.same; conv => whnf) | (exact Out1.same; conv => whnf) | (refine QAnd.mk ?_ ?_; conv => whnf) | (apply QStepH.go; conv => whnf) | (refine Both.lit_true ?_; conv => whnf) | (refine Both.lit_false ?_; conv => whnf) | (apply QStep.go; conv => whnf) | (refine Need.au ?_; conv => whnf) | (refine ⟨_, rfl, ?_⟩; conv => whnf)))
        refine CallVC.auto w7used_k (wIn_mk ho' hwo ?_)
        (conv => whnf)
        (repeat (first | (refine Both.of_false n4 ?_; conv => whnf) | (refine CallVC.auto w7seg_k (wIn_mk ho' hwo ?_); conv => whnf) | (refine CallVC.auto rseg_k (rIn_mk ho' ⟨h2s, ?_⟩); conv => whnf) | (refine Both.of_false n5 ?_; conv => whnf) | (exact Out.same; conv => whnf) | (exact Out1.same; conv => whnf) | (refine QAnd.mk ?_ ?_; conv => whnf) | (apply QStepH.go; conv => whnf) | (refine Both.lit_true ?_; conv => whnf) | (refine Both.lit_false ?_; conv => whnf) | (apply QStep.go; conv => whnf) | (refine Need.au ?_; conv => whnf) | (refine ⟨_, rfl, ?_⟩; conv => whnf)))
        refine CallVC.auto fitsW_k (wIn_mk ho' hwo ?_)
        (conv => whnf)
        (repeat (first | (refine CallVC.auto rfits_k (rwIn_mk ho' hwo ?_); conv => whnf) | (refine Both.of_false n6 ?_; conv => whnf) | (exact Out.same; conv => whnf) | (exact Out1.same; conv => whnf) | (refine QAnd.mk ?_ ?_; conv => whnf) | (apply QStepH.go; conv => whnf) | (refine Both.lit_true ?_; conv => whnf) | (refine Both.lit_false ?_; conv => whnf) | (apply QStep.go; conv => whnf) | (refine Need.au ?_; conv => whnf) | (refine ⟨_, rfl, ?_⟩; conv => whnf)))
        refine ⟨(k + 1, ⟨D', some w2, e', l'⟩), ⟨hkl, hj'⟩, by show l.length - (k + 1) < l.length - k; omega, Weak.auto ?_⟩
        (repeat' ((conv => whnf); first | exact True.intro | (refine And.intro ?_ ?_)))
        all_goals first | rfl | exact .eq rfl | exact congrArg (SV.int .i64) hwr
end Go.LX
end
section
set_option maxRecDepth 100000
set_option maxHeartbeats 1000000
set_option autoImplicit false
set_option linter.unusedVariables false
set_option linter.unusedSimpArgs false
namespace Go.LX
open Go.Proofs Go.RowKit Go.ChangeShapes Go.WideShapes Go.ChangeAt
section
variable {H : Type} {enc : TypeId × Value → H} {W : World}
end
end Go.LX
end
section
set_option maxRecDepth 100000
set_option maxHeartbeats 1000000
set_option autoImplicit false
set_option linter.unusedVariables false
set_option linter.unusedSimpArgs false
namespace Go.LX
open Go.Proofs Go.RowKit Go.ChangeShapes Go.WideShapes Go.ChangeAt
section
variable {H : Type} {enc : TypeId × Value → H} {W : World}
theorem o7_cells_int : Tryz.prog.cellsOf 3 = 1 := by kernel_rfl
theorem o7_cells_str : Tryz.prog.cellsOf 9 = 1 := by kernel_rfl
theorem o7_cells_bs : Tryz.prog.cellsOf 42 = 1 := by kernel_rfl
theorem o7_cells_is : Tryz.prog.cellsOf 43 = 1 := by kernel_rfl
theorem o7_cells_act : Tryz.prog.cellsOf 45 = 5 := by kernel_rfl
theorem o7_len5 {α : Type} {l : List α} (h : l.length = 5) : ∃ a b c d e, l = [a, b, c, d, e] := by
  match l, h with
  | [a, b, c, d, e], _ => exact ⟨a, b, c, d, e, rfl⟩
theorem flat_one {α : Type} (g : α → CV) (l : List α) : (l.flatMap fun s => [g s]) = l.map g := by
  induction l with
  | nil => rfl
  | cons a r ih => rw [List.flatMap_cons, ih]; rfl
theorem crs7 {l : List CV} {vs : List Value} (hl : vs.length = l.length) (h : ∀ (j : Nat) x v, l[j]? = some x → vs[j]? = some v → CR (E0 W).I W x v) : CRs (E0 W).I W l vs := ⟨hl, h⟩
theorem open_bool1 {n : Nat} {cs : List Value} {y : DataW H × List MemPlace} (h : DataW.trod enc Tryz.prog W 0 (fun _ => true) true n 4 cs = some y) (hw : InReach Tryz.prog 4 y.1) : ∃ r : Bool, CRs (E0 W).I W [CV.bool r] cs ∧ True := by
  obtain ⟨b, hb, _, _⟩ := DataW.trod_bool Tryz.underlying4 h
  subst hb
  refine ⟨b, crs7 rfl fun j x v hx hv => ?_, trivial⟩
  match j with
  | 0 => cases hx; cases hv; exact .bool _
  | j + 1 => simp at hx
theorem open_int1 {n : Nat} {cs : List Value} {y : DataW H × List MemPlace} (h : DataW.trod enc Tryz.prog W 0 (fun _ => true) true n 3 cs = some y) (hw : InReach Tryz.prog 3 y.1) : ∃ r : Int, CRs (E0 W).I W [CV.int .i64 r] cs ∧ True := by
  obtain ⟨b, hb, _, _⟩ := DataW.trod_int Tryz.underlying3 h
  subst hb
  refine ⟨b, crs7 rfl fun j x v hx hv => ?_, trivial⟩
  match j with
  | 0 => cases hx; cases hv; exact .int _ _
  | j + 1 => simp at hx
theorem leaf_bools {v : Value} {n : Nat} {y : DataW H × List MemPlace} (h : DataW.trod enc Tryz.prog W 0 (fun _ => true) true n 42 [v] = some y) (hw : InReach Tryz.prog 42 y.1) :
    ∃ l : List Bool, CR (E0 W).I W (.sl 1 l.length (l.map CV.bool) false) v := by
  obtain ⟨l, h1, _, _⟩ := leaf_rows (t := 42) (e := 4) (sz := 1) (d := y.1) (ps := y.2) (fun b => [CV.bool b]) (fun _ => True) Tryz.underlying42 (by kernel_rfl) (by omega) (fun r => rfl) (fun n cs y hy hw => open_bool1 hy hw) h hw
  rw [flat_one] at h1
  exact ⟨l, h1⟩
theorem leaf_ints {v : Value} {n : Nat} {y : DataW H × List MemPlace} (h : DataW.trod enc Tryz.prog W 0 (fun _ => true) true n 43 [v] = some y) (hw : InReach Tryz.prog 43 y.1) :
    ∃ l : List Int, CR (E0 W).I W (.sl 1 l.length (l.map (CV.int .i64)) false) v := by
  obtain ⟨l, h1, _, _⟩ := leaf_rows (t := 43) (e := 3) (sz := 1) (d := y.1) (ps := y.2) (fun b => [CV.int .i64 b]) (fun _ => True) Tryz.underlying43 (by kernel_rfl) (by omega) (fun r => rfl) (fun n cs y hy hw => open_int1 hy hw) h hw
  rw [flat_one] at h1
  exact ⟨l, h1⟩
theorem open_act7 {n : Nat} {cs : List Value} {y : DataW H × List MemPlace} (h : DataW.trod enc Tryz.prog W 0 (fun _ => true) true n 45 cs = some y) (hw : InReach Tryz.prog 45 y.1) : ∃ r : Act7, CRs (E0 W).I W (enC r) cs ∧ r.rng := by
  obtain ⟨hl, hf⟩ := open_fields2 (t := 45) Tryz.underlying45 h hw
  rw [o7_cells_act] at hl
  obtain ⟨c0, c1, c2, c3, c4, rfl⟩ := o7_len5 hl
  obtain ⟨n0, y0, t0, q0⟩ := hf 0 _ rfl
  obtain ⟨n1, y1, t1, q1⟩ := hf 1 _ rfl
  obtain ⟨n2, y2, t2, q2⟩ := hf 2 _ rfl
  obtain ⟨n3, y3, t3, q3⟩ := hf 3 _ rfl
  obtain ⟨n4, y4, t4, q4⟩ := hf 4 _ rfl
  replace t0 : DataW.trod enc Tryz.prog W 0 (fun _ => true) true n0 3 (List.take (Tryz.prog.cellsOf 3) (List.drop 0 [c0, c1, c2, c3, c4])) = some y0 := t0
  replace t1 : DataW.trod enc Tryz.prog W 0 (fun _ => true) true n1 3 (List.take (Tryz.prog.cellsOf 3) (List.drop 1 [c0, c1, c2, c3, c4])) = some y1 := t1
  replace t2 : DataW.trod enc Tryz.prog W 0 (fun _ => true) true n2 9 (List.take (Tryz.prog.cellsOf 9) (List.drop 2 [c0, c1, c2, c3, c4])) = some y2 := t2
  replace t3 : DataW.trod enc Tryz.prog W 0 (fun _ => true) true n3 42 (List.take (Tryz.prog.cellsOf 42) (List.drop 3 [c0, c1, c2, c3, c4])) = some y3 := t3
  replace t4 : DataW.trod enc Tryz.prog W 0 (fun _ => true) true n4 43 (List.take (Tryz.prog.cellsOf 43) (List.drop 4 [c0, c1, c2, c3, c4])) = some y4 := t4
  rw [o7_cells_int] at t0 t1
  rw [o7_cells_str] at t2
  rw [o7_cells_bs] at t3
  rw [o7_cells_is] at t4
  obtain ⟨i0, rfl, w0⟩ := leaf_int Tryz.underlying3 t0
  obtain ⟨i1, rfl, w1⟩ := leaf_int Tryz.underlying3 t1
  obtain ⟨s2, rfl, w2⟩ := leaf_str Tryz.underlying9 t2 q2
  obtain ⟨l3, hl3⟩ := leaf_bools t3 q3
  obtain ⟨l4, hl4⟩ := leaf_ints t4 q4
  refine ⟨⟨i0, i1, s2, l3, l4⟩, crs7 rfl fun j x v hx hv => ?_, wf_i64 w1⟩
  match j with
  | 0 => cases hx; cases hv; exact .int _ _
  | 1 => cases hx; cases hv; exact .int _ _
  | 2 => cases hx; cases hv; exact .str _
  | 3 => cases hx; cases hv; exact hl3
  | 4 => cases hx; cases hv; exact hl4
  | j + 5 => simp [enC] at hx
theorem open_acts7 {v : Value} {d : DataW H} {ps : List MemPlace} (hv : v.cells = #[v]) (h : DataW.Trod enc Tryz.prog W 0 (fun _ => true) true 40 v d ps) (hw : InReach Tryz.prog 40 d) :
    ∃ l : List Act7, VR (E0 W) W (.sl 5 l.length (l.flatMap enC) false) v ∧ (∀ c ∈ l, c.rng) ∧ l.length ≤ 9223372036854775807 :=
  open_rows (t := 40) (e := 45) (sz := 5) enC Act7.rng Tryz.underlying40 (by kernel_rfl) (by omega) (fun r => rfl) (fun n cs y hy hw => open_act7 hy hw) hv h hw
end
end Go.LX
end
section
set_option maxRecDepth 100000
set_option maxHeartbeats 4000000
set_option autoImplicit false
set_option linter.unusedVariables false
set_option linter.unusedSimpArgs false
namespace Go.LX
open Go.Proofs Go.Proofs.YtpimpjcknammfaaGreatDoor Go.RowKit Go.ChangeShapes Go.WideShapes Go.ChangeAt

theorem law_runG {P : Program} {G : Gl} {f : FuncId} {S : Spec} (hM : Meets P G f S) {svs : List SV} {vs : List Value} {W : World} (hv : VRs (E0 W) W svs vs) (hg : GlOk (E0 W) W G) (hS : S svs [] fun r _ => r = .bool true) :
    Calls P f vs.toArray W fun e W' => e = .returned (.bool true) ∧ Below W.heap.size W W' := by
  refine (hM svs [] _ hS (E0 W) W vs hv (rel0 W) hg).mono ?_
  rintro e W' ⟨v, r, H', E', rfl, rfl, hv, _, hst, _⟩
  cases hv
  exact ⟨rfl, hst.os, hst.tape, hst.output, hst.size, fun k hk => hst.keep k hk (fun ⟨i, o, h, _⟩ => by simp at h)⟩
theorem gl_none {W : World} {l : List (String × DataW Unit)} (_ : laidMetH Tryz.prog l W) : GlOk (E0 W) W [] := ⟨fun g cs h => absurd h (by simp)⟩
abbrev laidU : List (String × DataW Unit) := [("unicode/utf8.acceptRanges", Rows.laid_unicode_utf8_acceptRanges), ("unicode/utf8.first", Rows.laid_unicode_utf8_first)]
end Go.LX
end
