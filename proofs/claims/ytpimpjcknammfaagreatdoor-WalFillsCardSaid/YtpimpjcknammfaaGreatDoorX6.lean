/- Own texts of this claim, in build order: He, Vl, Vm, Vn, Vo, Vp, Vq, Vr, Fs, Lq, Vs, Vt, Vu, Vv, Vw, Vx, VX, Vf2, Lo, VO, Ru. -/
import Derived.Test.YtpimpjcknammfaaGreatDoorX5
import Derived.Test.YtpimpjcknammfaaGreatDoorRows
import Derived.Lib.LaidTab
import Derived.MakeChecks
import Derived.LaidMore
section
set_option maxRecDepth 100000
set_option maxHeartbeats 1000000
set_option autoImplicit false
set_option linter.unusedVariables false
set_option linter.unusedSimpArgs false
namespace Go.LX
open Go.Proofs

theorem rnew6_c : Meets Tryz.prog [] 84 hnewS := by
  refine meets_of Γok Tryz.func84 rfl ?_
  intro args H Q h
  unfold hnewS at h
  split at h
  case h_2 => exact h.elim
  rename_i z n cs f
  obtain ⟨l, rfl, rfl, hl, hs, h⟩ := h
  (refine sx_sound Γok _ ?_; conv => whnf)
  (repeat (first | (exact Out.same; conv => whnf) | (exact Out1.same; conv => whnf) | (refine QAnd.mk ?_ ?_; conv => whnf) | (apply QStepH.go; conv => whnf) | (refine Both.lit_true ?_; conv => whnf) | (refine Both.lit_false ?_; conv => whnf) | (apply QStep.go; conv => whnf) | (refine Need.au ?_; conv => whnf) | (refine ⟨_, rfl, ?_⟩; conv => whnf)))
  refine loop_rule (fun k : Nat => ⟨[.int .i64 z, .sl 1 l.length (l.map CV.str) f, .any, .any, .ptr 0 0, .any, .ptr 1 0, .int .i64 (hNew z l k).2, .int .i64 (k : Int), .any, .any, .any, .any, .any, .any, .any, .any, .any, .any, .any, .any, .any, .any, .any, .any, .any, .any, .any, .any, .any, .any, .any, .any, .any, .any, .any, .any, .any, .any, .any, .any, .any, .any, .any], [.cells [.int .u64 0, .int .i64 0] 61, .cells [.int .u64 (hNew z l k).1.1, .int .i64 (hNew z l k).1.2] 61]⟩) (fun k => k ≤ l.length) (fun k => l.length - k) 0 (by omega) (Weak.auto ?_) ?_
  · (repeat' ((conv => whnf); first | exact True.intro | (refine And.intro ?_ ?_)))
    all_goals first | rfl | exact .eq rfl
  intro k hk
  (refine sx_sound Γok _ ?_; conv => whnf)
  (repeat (first | (exact Out.same; conv => whnf) | (exact Out1.same; conv => whnf) | (refine QAnd.mk ?_ ?_; conv => whnf) | (apply QStepH.go; conv => whnf) | (refine Both.lit_true ?_; conv => whnf) | (refine Both.lit_false ?_; conv => whnf) | (apply QStep.go; conv => whnf) | (refine Need.au ?_; conv => whnf) | (refine ⟨_, rfl, ?_⟩; conv => whnf)))
  refine Both.dec (fun hlt => ?_) (fun hge => ?_)
  rotate_left
  · have hke : k = l.length := by omega
    subst hke
    (conv => whnf)
    (repeat (first | (exact Out.same; conv => whnf) | (exact Out1.same; conv => whnf) | (refine QAnd.mk ?_ ?_; conv => whnf) | (apply QStepH.go; conv => whnf) | (refine Both.lit_true ?_; conv => whnf) | (refine Both.lit_false ?_; conv => whnf) | (apply QStep.go; conv => whnf) | (refine Need.au ?_; conv => whnf) | (refine ⟨_, rfl, ?_⟩; conv => whnf)))
    exact ⟨_, _, WeakV.drop rfl, h _ _ _ rfl⟩
  have hkl : k < l.length := by omega
  have hx := strs_at l k hkl
  have hsl := getD_lt hs hkl
  have hwr : IntKind.i64.wrap ((k : Int) + 1) = ((k + 1 : Nat) : Int) := by rw [wrap_i64 (by omega) (by omega)]; rfl
  have hn : hNew z l (k + 1) = hStep z (hNew z l k) k (l.getD k []) := rfl
  have hgz := hGet_zero z (l.getD k [])
  have hat := hNew_at z l k
  unfold hStep at hn
  (conv => whnf)
  (repeat (first | (refine ⟨_, hx, ?_⟩; conv => whnf) | (exact Out.same; conv => whnf) | (exact Out1.same; conv => whnf) | (refine QAnd.mk ?_ ?_; conv => whnf) | (apply QStepH.go; conv => whnf) | (refine Both.lit_true ?_; conv => whnf) | (refine Both.lit_false ?_; conv => whnf) | (apply QStep.go; conv => whnf) | (refine Need.au ?_; conv => whnf) | (refine ⟨_, rfl, ?_⟩; conv => whnf)))
  refine CallVC.auto rget_k (Need.mk hsl ?_)
  intro g sg e he
  rw [← he] at hn hgz
  dsimp only at hn hgz
  have fin : ∀ x : (Int × Int) × Int, hNew z l (k + 1) = x → SV.int .i64 x.2 = SV.int .i64 (hNew z l (k + 1)).2 ∧ [SV.int .u64 x.1.1, .int .i64 x.1.2] = [SV.int .u64 (hNew z l (k + 1)).1.1, .int .i64 (hNew z l (k + 1)).1.2] := fun x hx => by
    rw [hx]
    exact ⟨rfl, rfl⟩
  (conv => whnf)
  (repeat (first | (exact Out.same; conv => whnf) | (exact Out1.same; conv => whnf) | (refine QAnd.mk ?_ ?_; conv => whnf) | (apply QStepH.go; conv => whnf) | (refine Both.lit_true ?_; conv => whnf) | (refine Both.lit_false ?_; conv => whnf) | (apply QStep.go; conv => whnf) | (refine Need.au ?_; conv => whnf) | (refine ⟨_, rfl, ?_⟩; conv => whnf)))
  refine Both.dec (fun he0 => ?_) (fun he0 => ?_)
  rotate_left
  · rw [if_neg (fun h2 => he0 h2.1)] at hn
    obtain ⟨f1, f2⟩ := fin _ hn
    (conv => whnf)
    (repeat (first | (exact Out.same; conv => whnf) | (exact Out1.same; conv => whnf) | (refine QAnd.mk ?_ ?_; conv => whnf) | (apply QStepH.go; conv => whnf) | (refine Both.lit_true ?_; conv => whnf) | (refine Both.lit_false ?_; conv => whnf) | (apply QStep.go; conv => whnf) | (refine Need.au ?_; conv => whnf) | (refine ⟨_, rfl, ?_⟩; conv => whnf) | (refine Both.of_false ?_ ?_; (focus (first | rfl | (simp <;> fail))); conv => whnf) | (refine Both.of_true ?_ ?_; (focus (first | rfl | (simp <;> fail))); conv => whnf)))
    refine ⟨k + 1, by omega, by omega, Weak.auto ?_⟩
    (repeat' ((conv => whnf); first | exact True.intro | (refine And.intro ?_ ?_)))
    all_goals first | rfl | exact .eq rfl | exact f1 | exact .eq f2 | exact congrArg (SV.int .i64) hwr
  have hg0 : 0 < g := by
    rcases hgz with h1 | h1
    · exact h1.2.1
    · exact absurd he0 h1.1
  (conv => whnf)
  (repeat (first | (exact Out.same; conv => whnf) | (exact Out1.same; conv => whnf) | (refine QAnd.mk ?_ ?_; conv => whnf) | (apply QStepH.go; conv => whnf) | (refine Both.lit_true ?_; conv => whnf) | (refine Both.lit_false ?_; conv => whnf) | (apply QStep.go; conv => whnf) | (refine Need.au ?_; conv => whnf) | (refine ⟨_, rfl, ?_⟩; conv => whnf)))
  refine Both.dec (fun ha => ?_) (fun ha => ?_)
  · have hb0 : (hNew z l k).1 = (0, 0) := by
      rcases hat with h1 | h1
      · exact h1.2
      · omega
    rw [if_pos ⟨he0, by rw [hb0]; exact hg0⟩] at hn
    obtain ⟨f1, f2⟩ := fin _ hn
    (conv => whnf)
    (repeat (first | (exact Out.same; conv => whnf) | (exact Out1.same; conv => whnf) | (refine QAnd.mk ?_ ?_; conv => whnf) | (apply QStepH.go; conv => whnf) | (refine Both.lit_true ?_; conv => whnf) | (refine Both.lit_false ?_; conv => whnf) | (apply QStep.go; conv => whnf) | (refine Need.au ?_; conv => whnf) | (refine ⟨_, rfl, ?_⟩; conv => whnf) | (refine Both.of_false ?_ ?_; (focus (first | rfl | (simp <;> fail))); conv => whnf) | (refine Both.of_true ?_ ?_; (focus (first | rfl | (simp <;> fail))); conv => whnf)))
    refine ⟨k + 1, by omega, by omega, Weak.auto ?_⟩
    (repeat' ((conv => whnf); first | exact True.intro | (refine And.intro ?_ ?_)))
    all_goals first | rfl | exact .eq rfl | exact f1 | exact .eq f2 | exact congrArg (SV.int .i64) hwr
  (conv => whnf)
  (repeat (first | (exact Out.same; conv => whnf) | (exact Out1.same; conv => whnf) | (refine QAnd.mk ?_ ?_; conv => whnf) | (apply QStepH.go; conv => whnf) | (refine Both.lit_true ?_; conv => whnf) | (refine Both.lit_false ?_; conv => whnf) | (apply QStep.go; conv => whnf) | (refine Need.au ?_; conv => whnf) | (refine ⟨_, rfl, ?_⟩; conv => whnf)))
  refine Both.dec (fun h1 => ?_) (fun h1 => ?_)
  · rw [if_pos ⟨he0, h1⟩] at hn
    obtain ⟨f1, f2⟩ := fin _ hn
    (conv => whnf)
    (repeat (first | (exact Out.same; conv => whnf) | (exact Out1.same; conv => whnf) | (refine QAnd.mk ?_ ?_; conv => whnf) | (apply QStepH.go; conv => whnf) | (refine Both.lit_true ?_; conv => whnf) | (refine Both.lit_false ?_; conv => whnf) | (apply QStep.go; conv => whnf) | (refine Need.au ?_; conv => whnf) | (refine ⟨_, rfl, ?_⟩; conv => whnf)))
    refine ⟨k + 1, by omega, by omega, Weak.auto ?_⟩
    (repeat' ((conv => whnf); first | exact True.intro | (refine And.intro ?_ ?_)))
    all_goals first | rfl | exact .eq rfl | exact f1 | exact .eq f2 | exact congrArg (SV.int .i64) hwr
  · rw [if_neg (fun h2 => h1 h2.2)] at hn
    obtain ⟨f1, f2⟩ := fin _ hn
    (conv => whnf)
    (repeat (first | (exact Out.same; conv => whnf) | (exact Out1.same; conv => whnf) | (refine QAnd.mk ?_ ?_; conv => whnf) | (apply QStepH.go; conv => whnf) | (refine Both.lit_true ?_; conv => whnf) | (refine Both.lit_false ?_; conv => whnf) | (apply QStep.go; conv => whnf) | (refine Need.au ?_; conv => whnf) | (refine ⟨_, rfl, ?_⟩; conv => whnf)))
    refine ⟨k + 1, by omega, by omega, Weak.auto ?_⟩
    (repeat' ((conv => whnf); first | exact True.intro | (refine And.intro ?_ ?_)))
    all_goals first | rfl | exact .eq rfl | exact f1 | exact .eq f2 | exact congrArg (SV.int .i64) hwr
theorem rnew6_k : Contract Tryz.prog [] 84 hnewS := ⟨⟨⟨_, rfl, rfl, rfl⟩⟩, rnew6_c⟩
theorem rightB_seal' (s : List UInt8) : rightB (Crc.seal_ s) = true := by
  have h := Crc.right_seal s
  unfold rightB
  rw [Bool.and_eq_true]
  exact ⟨decide_eq_true h.1, decide_eq_true h.2⟩
theorem hGet_put {z : Nat} {g sg : Int} (hk : hOk (z : Int) g sg = true) (hg : g < 18446744073709551616) (hg0 : 0 ≤ g) : hGet (z : Int) (hPut z g sg) = ((g, sg), 0) := by
  have hk' := of_decide_eq_true hk
  have hl := hPut_len (z := z) (by omega) g sg
  have hb : (beb g.toNat 8).length = 8 := beb_length _ _
  have e1 : hPut z g sg = [72] ++ (beb g.toNat 8 ++ ([UInt8.ofNat sg.toNat] ++ (List.replicate (z - 14) 0 ++ Crc.le 4 (Crc.sum (hRaw z g sg))))) := by
    rw [hPut, Crc.seal_]
    generalize Crc.le 4 (Crc.sum (hRaw z g sg)) = t
    rw [hRaw]
    simp
  have h1 : hG (hPut z g sg) = g := by
    unfold hG
    rw [e1, List.singleton_append, List.drop_one, List.tail_cons, List.take_left' hb, bev_beb 8 g.toNat (by omega)]
    omega
  have h2 : hS (hPut z g sg) = sg := by
    unfold hS
    rw [e1, List.getD_eq_getElem?_getD, List.getElem?_append_right (by simp), List.getElem?_append_right (by rw [hb]; simp)]
    rw [hb]
    show ((UInt8.ofNat sg.toNat).toNat : Int) = sg
    rw [UInt8.toNat_ofNat']
    omega
  unfold hGet
  rw [if_neg (by rw [show szB (z : Int) = true from decide_eq_true ⟨hk'.1, hk'.2.1⟩]; decide), if_neg (by rw [hl]; simp), if_neg (by rw [hPut, rightB_seal']; decide), h1, h2, if_pos (by rw [hRes, if_pos hk, Int.toNat_natCast])]
end Go.LX
end
section
set_option maxRecDepth 100000
set_option maxHeartbeats 2000000
set_option autoImplicit false
set_option linter.unusedVariables false
set_option linter.unusedSimpArgs false
namespace Go.LX
open Go.Proofs

def hnewES : Spec := fun args H Q => match args, H with
  | [.int .i64 z, .sl 1 n cs f], [] => ∃ l : List Bs, n = l.length ∧ cs = l.map CV.str ∧ l.length ≤ 1000 ∧ (∀ s ∈ l, s.length < 1000000) ∧ ∃ g sg e, ((g, sg), e) = hNew z l l.length ∧ Q (.tuple [.agg [.int .u64 g, .int .i64 sg], .int .i64 e]) []
  | _, _ => False
theorem hnewE_imp {f : FuncId} (hc : Contract Tryz.prog [] f hnewS) : Contract Tryz.prog [] f hnewES := hc.imp fun args H Q h => by
  unfold hnewES at h
  split at h
  case h_2 => exact h.elim
  obtain ⟨l, h1, h2, h3, h4, g, sg, e, he, h⟩ := h
  exact ⟨l, h1, h2, h3, h4, fun g2 sg2 e2 h5 => by
    obtain ⟨u1, u3⟩ := Prod.mk.inj (h5.trans he.symm)
    obtain ⟨u1, u2⟩ := Prod.mk.inj u1
    subst u1 u2 u3
    exact h⟩
theorem hnewE_k : Contract Tryz.prog [] 44 hnewES := hnewE_imp hnew_k
theorem rnewE_k : Contract Tryz.prog [] 84 hnewES := hnewE_imp rnew6_k
def oA (D : Dsk) (w : W7) : List LObj := [.cells [.int .i64 (D.sz : Int), .int .i64 (D.sc : Int), .own 1, .own 4, .int .i64 (D.ar : Int)] 79, .own 9 1 D.st.length (D.st.map CV.str) true, .gone,
  .cells [.ptr 0 0, .int .u64 (w.g : Int), .int .i64 w.sg, .int .i64 w.slot, .int .i64 (w.used : Int), .int .u64 (w.sn : Int), .bool w.ready, .bool w.broken] 74, .own 91 2 D.buf.length (D.buf.flatMap wrEn) true]
def openWS : Spec := fun args H Q => match args with
  | [.ptr 0 0] => dIn H fun D => D.buf.length ≤ 900000 ∧ ∀ e D' w l, (e, D', w, l) = opn D → (e ≠ 0 → Q (.tuple [.nil, .nilsl, .int .i64 e]) (dA D')) ∧ (e = 0 → Q (.tuple [.ptr 3 0, .sl 1 l.length (l.map CV.str) false, .int .i64 0]) (oA D' w))
  | _ => False
theorem seg_bd {D : Dsk} (ho : D.Ok) : segV D ≤ 2047 := by
  have := ho.sc
  unfold segV
  omega
theorem readV_8 {D : Dsk} (ho : D.Ok) (n : Int) {m : Nat} (hm : m ≤ 2047) : (readV D n m).length ≤ 100000000 := by
  have := readV_len ho n m
  omega
theorem rightN_ok {D : Dsk} (ho : D.Ok) : rightN (D.sz : Int) = true := by
  have := ho.sz
  exact decide_eq_true (by omega)
theorem base_bd (D : Dsk) (sg : Int) (hv : segV D ≤ 2047) : 2 ≤ baseV D sg ∧ baseV D sg ≤ 2049 := by
  unfold baseV
  split <;> omega
theorem openW_c : Meets Tryz.prog [] 17 openWS := by
  refine meets_of Γok Tryz.func17 rfl ?_
  intro args H Q h
  unfold openWS at h
  split at h
  case h_2 => exact h.elim
  obtain ⟨D, rfl, ho, hb, h⟩ := dIn_out h
  have hsc := ho.sc
  by_cases h4 : D.sc < 4
  · have h := (h 1 D w7z [] (by unfold opn; rw [if_pos h4])).1 (by decide)
    have c1 : decide (((D.sc : Nat) : Int) < 4) = true := decide_eq_true (by omega)
    (refine sx_sound Γok _ ?_; conv => whnf)
    (repeat (first | (refine Both.of_true c1 ?_; conv => whnf) | (exact Out.same; conv => whnf) | (exact Out1.same; conv => whnf) | (refine QAnd.mk ?_ ?_; conv => whnf) | (apply QStepH.go; conv => whnf) | (refine Both.lit_true ?_; conv => whnf) | (refine Both.lit_false ?_; conv => whnf) | (apply QStep.go; conv => whnf) | (refine Need.au ?_; conv => whnf) | (refine ⟨_, rfl, ?_⟩; conv => whnf) | (refine CallVC.auto sectD_k ?_; conv => whnf)))
    refine ⟨_, _, WeakV.trans (WeakV.of (Weak.fresh 2 0 3 rfl rfl rfl)) (WeakV.auto ?_), h⟩
    (repeat' ((conv => whnf); first | exact True.intro | (refine And.intro ?_ ?_)))
    all_goals first | rfl | exact .eq rfl
  have c1 : decide (((D.sc : Nat) : Int) < 4) = false := decide_eq_false (by omega)
  have hop : opn D = if D.fl.1 ≠ 0 then (D.fl.1, D.fl.2, w7z, []) else opnB D.fl.2 := by unfold opn; rw [if_neg h4]
  obtain ⟨e1, D1, hfl⟩ : ∃ e1 D1, D.fl = (e1, D1) := ⟨_, _, rfl⟩
  have hofl := ho.fl
  have hgeo := fl_geo D
  have hbfl := fl_buf D
  rw [hfl] at hop hofl hgeo hbfl
  have ho1 : D1.Ok := hofl
  have hz1 : D1.sz = D.sz := hgeo.1
  have hc1 : D1.sc = D.sc := hgeo.2
  have hbuf : D1.buf.length ≤ D.buf.length := hbfl
  have h2 : 2 ≤ D1.sc := by omega
  clear hgeo hofl hbfl
  (refine sx_sound Γok _ ?_; conv => whnf)
  (repeat (first | (refine Both.of_false c1 ?_; conv => whnf) | (exact Out.same; conv => whnf) | (exact Out1.same; conv => whnf) | (refine QAnd.mk ?_ ?_; conv => whnf) | (apply QStepH.go; conv => whnf) | (refine Both.lit_true ?_; conv => whnf) | (refine Both.lit_false ?_; conv => whnf) | (apply QStep.go; conv => whnf) | (refine Need.au ?_; conv => whnf) | (refine ⟨_, rfl, ?_⟩; conv => whnf) | (refine CallVC.auto sectD_k ?_; conv => whnf)))
  refine CallVC.auto flush_k (dIn_mk ho (fun e D' he => ?_))
  obtain ⟨u1, u2⟩ := Prod.mk.inj (he.trans hfl)
  clear he
  subst u1 u2
  (conv => whnf)
  (repeat (first | (exact Out.same; conv => whnf) | (exact Out1.same; conv => whnf) | (refine QAnd.mk ?_ ?_; conv => whnf) | (apply QStepH.go; conv => whnf) | (refine Both.lit_true ?_; conv => whnf) | (refine Both.lit_false ?_; conv => whnf) | (apply QStep.go; conv => whnf) | (refine Need.au ?_; conv => whnf) | (refine ⟨_, rfl, ?_⟩; conv => whnf)))
  refine Both.dec_not (fun hne => ?_) (fun heq => ?_)
  · have h := (h e D' w7z [] (by rw [hop]; exact (if_pos hne).symm)).1 hne
    (conv => whnf)
    (repeat (first | (exact Out.same; conv => whnf) | (exact Out1.same; conv => whnf) | (refine QAnd.mk ?_ ?_; conv => whnf) | (apply QStepH.go; conv => whnf) | (refine Both.lit_true ?_; conv => whnf) | (refine Both.lit_false ?_; conv => whnf) | (apply QStep.go; conv => whnf) | (refine Need.au ?_; conv => whnf) | (refine ⟨_, rfl, ?_⟩; conv => whnf)))
    refine ⟨_, _, WeakV.auto ?_, h⟩
    (repeat' ((conv => whnf); first | exact True.intro | (refine And.intro ?_ ?_)))
    all_goals first | rfl | exact .eq rfl
  have h : ∀ e2 D2 w2 l2, (e2, D2, w2, l2) = opnB D' → (e2 ≠ 0 → Q (.tuple [.nil, .nilsl, .int .i64 e2]) (dA D2)) ∧ (e2 = 0 → Q (.tuple [.ptr 3 0, .sl 1 l2.length (l2.map CV.str) false, .int .i64 0]) (oA D2 w2)) := fun e2 D2 w2 l2 he => h e2 D2 w2 l2 (by rw [hop, he]; exact (if_neg (fun q => q heq)).symm)
  clear hop
  have hl0 : (readV D' 0 1).length < 1000000 := by have := readV_len ho1 0 1; omega
  have hl1 : (readV D' 1 1).length < 1000000 := by have := readV_len ho1 1 1; omega
  obtain ⟨g, sg, at_, hnw⟩ : ∃ g sg a, hNew D'.sz [readV D' 0 1, readV D' 1 1] 2 = ((g, sg), a) := ⟨_, _, _, rfl⟩
  have hhd : hdD D' = ((g, sg), at_) := by
    unfold hdD
    rw [← readV_one D' 0, ← readV_one D' 1]
    exact hnw
  have hll : ∀ s ∈ [readV D' 0 1, readV D' 1 1], s.length < 1000000 := by
    intro s hs
    rcases List.mem_cons.1 hs with q | q
    · rw [q]; exact hl0
    · rw [List.mem_singleton.1 q]; exact hl1
  have hrg := hdD_rng D'
  rw [hhd] at hrg
  have hrg : at_ < 0 ∧ (g, sg) = ((0, 0) : Int × Int) ∨ 0 ≤ at_ ∧ at_ ≤ 1 ∧ 1 ≤ g ∧ g < 18446744073709551616 ∧ 0 ≤ sg ∧ sg ≤ 1 := hrg
  (conv => whnf)
  (repeat (first | (exact Out.same; conv => whnf) | (exact Out1.same; conv => whnf) | (refine QAnd.mk ?_ ?_; conv => whnf) | (apply QStepH.go; conv => whnf) | (refine Both.lit_true ?_; conv => whnf) | (refine Both.lit_false ?_; conv => whnf) | (apply QStep.go; conv => whnf) | (refine Need.au ?_; conv => whnf) | (refine ⟨_, rfl, ?_⟩; conv => whnf)))
  (refine DrawVC.any Γok (by kernel_rfl) (by kernel_rfl) (by kernel_rfl) (by rfl) ?_; conv => whnf)
  (repeat (first | (refine CallVC.auto readN_k (dIn_mk ho1 ⟨1, rfl, by decide, by decide, by decide, ?_⟩); conv => whnf) | (refine CallVC.auto hnewE_k ⟨[readV D' 0 1, readV D' 1 1], rfl, rfl, Nat.le_of_ble_eq_true rfl, hll, g, sg, at_, hnw.symm, ?_⟩; conv => whnf) | (exact Out.same; conv => whnf) | (exact Out1.same; conv => whnf) | (refine QAnd.mk ?_ ?_; conv => whnf) | (apply QStepH.go; conv => whnf) | (refine Both.lit_true ?_; conv => whnf) | (refine Both.lit_false ?_; conv => whnf) | (apply QStep.go; conv => whnf) | (refine Need.au ?_; conv => whnf) | (refine ⟨_, rfl, ?_⟩; conv => whnf) | (refine CallVC.auto sizeD_k ?_; conv => whnf)))
  refine Both.dec (fun hlt => ?_) (fun hge => ?_)
  · obtain ⟨hd, eh, hh⟩ : ∃ hd eh, hRes D'.sz 1 0 = (hd, eh) := ⟨_, _, rfl⟩
    obtain ⟨e3, D3, hput⟩ : ∃ e3 D3, putV D' 1 [hd] = (e3, D3) := ⟨_, _, rfl⟩
    have hopb : opnB D' = if e3 ≠ 0 then (e3, D3, w7z, []) else (0, D3, opnW D3 1 0 1) := by
      unfold opnB
      rw [hhd, hh]
      show (if at_ < 0 then (if (putV D' 1 [hd]).1 ≠ 0 then ((putV D' 1 [hd]).1, (putV D' 1 [hd]).2, w7z, []) else (0, (putV D' 1 [hd]).2, opnW (putV D' 1 [hd]).2 1 0 1)) else _) = _
      rw [if_pos hlt, hput]
    have hop3 := putV_ok [hd] D' 1 ho1 (by show D'.buf.length + 1 < 1000000; omega)
    have hge3 := putV_geo [hd] D' 1
    rw [hput] at hop3 hge3
    have ho3 : D3.Ok := hop3
    have hz3 : D3.sz = D'.sz := hge3.1
    have hc3 : D3.sc = D'.sc := hge3.2
    have h23 : 2 ≤ D3.sc := by omega
    have hv3 := seg_bd ho3
    have hb3 := base_bd D3 0 hv3
    have hl8 := readV_8 ho3 (baseV D3 0) hv3
    have hr3 := rightN_ok ho3
    have hd1 : D'.buf.length + ([hd] : List Bs).length < 1000000 := by show D'.buf.length + 1 < 1000000; omega
    clear hge3 hop3
    (conv => whnf)
    (repeat (first | (exact Out.same; conv => whnf) | (exact Out1.same; conv => whnf) | (refine QAnd.mk ?_ ?_; conv => whnf) | (apply QStepH.go; conv => whnf) | (refine Both.lit_true ?_; conv => whnf) | (refine Both.lit_false ?_; conv => whnf) | (apply QStep.go; conv => whnf) | (refine Need.au ?_; conv => whnf) | (refine ⟨_, rfl, ?_⟩; conv => whnf)))
    (refine DrawVC.any Γok (by kernel_rfl) (by kernel_rfl) (by kernel_rfl) (by rfl) ?_; conv => whnf)
    (repeat (first | (refine CallVC.auto hputE_k (Need.mk ⟨by decide, by decide⟩ ⟨hd, eh, hh.symm, ?_⟩); conv => whnf) | (exact Out.same; conv => whnf) | (exact Out1.same; conv => whnf) | (refine QAnd.mk ?_ ?_; conv => whnf) | (apply QStepH.go; conv => whnf) | (refine Both.lit_true ?_; conv => whnf) | (refine Both.lit_false ?_; conv => whnf) | (apply QStep.go; conv => whnf) | (refine Need.au ?_; conv => whnf) | (refine ⟨_, rfl, ?_⟩; conv => whnf) | (refine CallVC.auto sizeD_k ?_; conv => whnf)))
    (refine DrawVC.any Γok (by kernel_rfl) (by kernel_rfl) (by kernel_rfl) (by rfl) ?_; conv => whnf)
    (repeat (first | (refine CallVC.auto w7putE_k (dIn_mk ho1 ⟨[hd], rfl, rfl, by decide, by decide, Nat.le_of_ble_eq_true rfl, hd1, e3, D3, hput.symm, ?_⟩); conv => whnf) | (exact Out.same; conv => whnf) | (exact Out1.same; conv => whnf) | (refine QAnd.mk ?_ ?_; conv => whnf) | (apply QStepH.go; conv => whnf) | (refine Both.lit_true ?_; conv => whnf) | (refine Both.lit_false ?_; conv => whnf) | (apply QStep.go; conv => whnf) | (refine Need.au ?_; conv => whnf) | (refine ⟨_, rfl, ?_⟩; conv => whnf)))
    refine Both.dec_not (fun hne3 => ?_) (fun heq3 => ?_)
    · have h := (h e3 D3 w7z [] (by rw [hopb]; exact (if_pos hne3).symm)).1 hne3
      (conv => whnf)
      (repeat (first | (exact Out.same; conv => whnf) | (exact Out1.same; conv => whnf) | (refine QAnd.mk ?_ ?_; conv => whnf) | (apply QStepH.go; conv => whnf) | (refine Both.lit_true ?_; conv => whnf) | (refine Both.lit_false ?_; conv => whnf) | (apply QStep.go; conv => whnf) | (refine Need.au ?_; conv => whnf) | (refine ⟨_, rfl, ?_⟩; conv => whnf)))
      refine ⟨_, _, WeakV.auto ?_, h⟩
      (repeat' ((conv => whnf); first | exact True.intro | (refine And.intro ?_ ?_)))
      all_goals first | rfl | exact .eq rfl
    · obtain ⟨l, n, hscan⟩ : ∃ l n, scanA D3.sz 1 (readV D3 (baseV D3 0) (segV D3)) = (l, n) := ⟨_, _, rfl⟩
      have h := (h 0 D3 ⟨1, 0, 1, n, l.length, false, false⟩ l (by
        rw [hopb, if_neg (fun q => q heq3)]
        unfold opnW
        rw [hscan])).2 rfl
      have hfit := scanA_fits (z := D3.sz) (g := 1) (readV D3 (baseV D3 0) (segV D3))
      rw [hscan] at hfit
      have hll3 : l.length ≤ 100000000 := by
        have hz3' := ho3.sz
        have : n * 1 ≤ n * D3.sz := Nat.mul_le_mul_left _ (by omega)
        have h5 : n * D3.sz ≤ (readV D3 (baseV D3 0) (segV D3)).length := hfit.1
        have h6 : l.length ≤ n := hfit.2
        omega
      have hce : ([SV.ptr 0 0, .int .u64 1, .int .i64 0, .int .i64 1, .int .i64 ((n : Nat) : Int), .int .u64 (IntKind.u64.wrap ((l.length : Nat) : Int)), .bool false, .bool false] : List SV) = [SV.ptr 0 0, .int .u64 1, .int .i64 0, .int .i64 1, .int .i64 ((n : Nat) : Int), .int .u64 ((l.length : Nat) : Int), .bool false, .bool false] := by rw [wrap_u64 (by omega) (by omega)]
      (conv => whnf)
      (repeat (first | (exact Out.same; conv => whnf) | (exact Out1.same; conv => whnf) | (refine QAnd.mk ?_ ?_; conv => whnf) | (apply QStepH.go; conv => whnf) | (refine Both.lit_true ?_; conv => whnf) | (refine Both.lit_false ?_; conv => whnf) | (apply QStep.go; conv => whnf) | (refine Need.au ?_; conv => whnf) | (refine ⟨_, rfl, ?_⟩; conv => whnf)))
      (refine DrawVC.any Γok (by kernel_rfl) (by kernel_rfl) (by kernel_rfl) (by rfl) ?_; conv => whnf)
      (repeat (first | (refine CallVC.auto base_k (dIn_mk ho3 ⟨h23, by decide, by decide, ?_⟩); conv => whnf) | (refine CallVC.auto seg_k (dIn_mk ho3 ⟨h23, ?_⟩); conv => whnf) | (refine CallVC.auto readN_k (dIn_mk ho3 ⟨segV D3, rfl, by omega, by omega, by omega, ?_⟩); conv => whnf) | (refine CallVC.auto fscanE_k ⟨D3.sz, 1, l, n, rfl, rfl, by decide, hl8, hr3, hscan, ?_⟩; conv => whnf) | (exact Out.same; conv => whnf) | (exact Out1.same; conv => whnf) | (refine QAnd.mk ?_ ?_; conv => whnf) | (apply QStepH.go; conv => whnf) | (refine Both.lit_true ?_; conv => whnf) | (refine Both.lit_false ?_; conv => whnf) | (apply QStep.go; conv => whnf) | (refine Need.au ?_; conv => whnf) | (refine ⟨_, rfl, ?_⟩; conv => whnf) | (refine CallVC.auto sizeD_k ?_; conv => whnf)))
      refine ⟨_, _, WeakV.auto ?_, h⟩
      (repeat' ((conv => whnf); first | exact True.intro | (refine And.intro ?_ ?_)))
      all_goals first | rfl | exact .eq rfl | exact .eq hce
  · have hrg := hrg.resolve_left (fun q => hge q.1)
    obtain ⟨gn, rfl⟩ := Int.eq_ofNat_of_zero_le (show 0 ≤ g by omega)
    have hgn : gn < 18446744073709551616 := by omega
    have hv3 := seg_bd ho1
    have hb3 := base_bd D' sg hv3
    have hl8 := readV_8 ho1 (baseV D' sg) hv3
    have hr3 := rightN_ok ho1
    obtain ⟨l, n, hscan⟩ : ∃ l n, scanA D'.sz gn (readV D' (baseV D' sg) (segV D')) = (l, n) := ⟨_, _, rfl⟩
    have h := (h 0 D' ⟨gn, sg, at_, n, l.length, false, false⟩ l (by
      unfold opnB
      rw [hhd]
      show _ = (if at_ < 0 then _ else (0, D', opnW D' ((gn : Int)).toNat sg at_))
      rw [if_neg hge, Int.toNat_natCast]
      unfold opnW
      rw [hscan])).2 rfl
    have hfit := scanA_fits (z := D'.sz) (g := gn) (readV D' (baseV D' sg) (segV D'))
    rw [hscan] at hfit
    have hll3 : l.length ≤ 100000000 := by
      have hz3' := ho1.sz
      have : n * 1 ≤ n * D'.sz := Nat.mul_le_mul_left _ (by omega)
      have h5 : n * D'.sz ≤ (readV D' (baseV D' sg) (segV D')).length := hfit.1
      have h6 : l.length ≤ n := hfit.2
      omega
    have hce : ([SV.ptr 0 0, .int .u64 (gn : Int), .int .i64 sg, .int .i64 at_, .int .i64 ((n : Nat) : Int), .int .u64 (IntKind.u64.wrap ((l.length : Nat) : Int)), .bool false, .bool false] : List SV) = [SV.ptr 0 0, .int .u64 (gn : Int), .int .i64 sg, .int .i64 at_, .int .i64 ((n : Nat) : Int), .int .u64 ((l.length : Nat) : Int), .bool false, .bool false] := by rw [wrap_u64 (by omega) (by omega)]
    (conv => whnf)
    (repeat (first | (exact Out.same; conv => whnf) | (exact Out1.same; conv => whnf) | (refine QAnd.mk ?_ ?_; conv => whnf) | (apply QStepH.go; conv => whnf) | (refine Both.lit_true ?_; conv => whnf) | (refine Both.lit_false ?_; conv => whnf) | (apply QStep.go; conv => whnf) | (refine Need.au ?_; conv => whnf) | (refine ⟨_, rfl, ?_⟩; conv => whnf)))
    (refine DrawVC.any Γok (by kernel_rfl) (by kernel_rfl) (by kernel_rfl) (by rfl) ?_; conv => whnf)
    (repeat (first | (refine CallVC.auto base_k (dIn_mk ho1 ⟨h2, hrg.2.2.2.2.1, hrg.2.2.2.2.2, ?_⟩); conv => whnf) | (refine CallVC.auto seg_k (dIn_mk ho1 ⟨h2, ?_⟩); conv => whnf) | (refine CallVC.auto readN_k (dIn_mk ho1 ⟨segV D', rfl, by omega, by omega, by omega, ?_⟩); conv => whnf) | (refine CallVC.auto fscanE_k ⟨D'.sz, gn, l, n, rfl, rfl, hgn, hl8, hr3, hscan, ?_⟩; conv => whnf) | (exact Out.same; conv => whnf) | (exact Out1.same; conv => whnf) | (refine QAnd.mk ?_ ?_; conv => whnf) | (apply QStepH.go; conv => whnf) | (refine Both.lit_true ?_; conv => whnf) | (refine Both.lit_false ?_; conv => whnf) | (apply QStep.go; conv => whnf) | (refine Need.au ?_; conv => whnf) | (refine ⟨_, rfl, ?_⟩; conv => whnf) | (refine CallVC.auto sizeD_k ?_; conv => whnf)))
    refine ⟨_, _, WeakV.auto ?_, h⟩
    (repeat' ((conv => whnf); first | exact True.intro | (refine And.intro ?_ ?_)))
    all_goals first | rfl | exact .eq rfl | exact .eq hce
theorem openW_k : Contract Tryz.prog [] 17 openWS := ⟨⟨⟨_, rfl, rfl, rfl⟩⟩, openW_c⟩
end Go.LX
end
section
set_option maxRecDepth 100000
set_option maxHeartbeats 2000000
set_option autoImplicit false
set_option linter.unusedVariables false
set_option linter.unusedSimpArgs false
namespace Go.LX
open Go.Proofs

theorem rhputE_k : Contract Tryz.prog [] 76 hputES := rput_k.imp fun args H Q h => by
  unfold hputES at h
  split at h
  case h_2 => exact h.elim
  obtain ⟨hn, s, e, he, h⟩ := h
  exact ⟨hn, fun s2 e2 h2 => by
    obtain ⟨rfl, rfl⟩ := Prod.mk.inj (h2.trans he.symm)
    exact h⟩
def orA (D : Dsk) (w : W7) : List LObj := [.cells [.int .i64 (D.sz : Int), .int .i64 (D.sc : Int), .str D.st.flatten, .own 3, .int .i64 (D.ar : Int)] 59, .gone,
  .cells [.ptr 0 0, .int .u64 (w.g : Int), .int .i64 w.sg, .int .i64 w.slot, .int .i64 (w.used : Int), .int .i64 (w.sn : Int), .bool w.ready, .bool w.broken] 63, .own 135 2 D.buf.length (D.buf.flatMap wrEn) true]
def ropenS : Spec := fun args H Q => match args with
  | [.ptr 0 0] => rIn H fun D => D.buf.length ≤ 900000 ∧ ∀ e D' w l, (e, D', w, l) = opn D → (e ≠ 0 → Q (.tuple [.nil, .nilsl, .int .i64 e]) (rA D')) ∧ (e = 0 → Q (.tuple [.ptr 2 0, .sl 1 l.length (l.map CV.str) false, .int .i64 0]) (orA D' w))
  | _ => False
theorem ropen_c : Meets Tryz.prog [] 55 ropenS := by
  refine meets_of Γok Tryz.func55 rfl ?_
  intro args H Q h
  unfold ropenS at h
  split at h
  case h_2 => exact h.elim
  obtain ⟨D, rfl, ho, hb, h⟩ := rIn_out h
  have hsc := ho.sc
  by_cases h4 : D.sc < 4
  · have h := (h 1 D w7z [] (by unfold opn; rw [if_pos h4])).1 (by decide)
    have c1 : decide (((D.sc : Nat) : Int) < 4) = true := decide_eq_true (by omega)
    (refine sx_sound Γok _ ?_; conv => whnf)
    (repeat (first | (refine Both.of_true c1 ?_; conv => whnf) | (exact Out.same; conv => whnf) | (exact Out1.same; conv => whnf) | (refine QAnd.mk ?_ ?_; conv => whnf) | (apply QStepH.go; conv => whnf) | (refine Both.lit_true ?_; conv => whnf) | (refine Both.lit_false ?_; conv => whnf) | (apply QStep.go; conv => whnf) | (refine Need.au ?_; conv => whnf) | (refine ⟨_, rfl, ?_⟩; conv => whnf)))
    refine ⟨_, _, WeakV.trans (WeakV.of (Weak.fresh 1 0 3 rfl rfl rfl)) (WeakV.auto ?_), h⟩
    (repeat' ((conv => whnf); first | exact True.intro | (refine And.intro ?_ ?_)))
    all_goals first | rfl | exact .eq rfl
  have c1 : decide (((D.sc : Nat) : Int) < 4) = false := decide_eq_false (by omega)
  have hop : opn D = if D.fl.1 ≠ 0 then (D.fl.1, D.fl.2, w7z, []) else opnB D.fl.2 := by unfold opn; rw [if_neg h4]
  obtain ⟨e1, D1, hfl⟩ : ∃ e1 D1, D.fl = (e1, D1) := ⟨_, _, rfl⟩
  have hofl := ho.fl
  have hgeo := fl_geo D
  have hbfl := fl_buf D
  rw [hfl] at hop hofl hgeo hbfl
  have ho1 : D1.Ok := hofl
  have hz1 : D1.sz = D.sz := hgeo.1
  have hc1 : D1.sc = D.sc := hgeo.2
  have hbuf : D1.buf.length ≤ D.buf.length := hbfl
  have h2 : 2 ≤ D1.sc := by omega
  clear hgeo hofl hbfl
  (refine sx_sound Γok _ ?_; conv => whnf)
  (repeat (first | (refine Both.of_false c1 ?_; conv => whnf) | (exact Out.same; conv => whnf) | (exact Out1.same; conv => whnf) | (refine QAnd.mk ?_ ?_; conv => whnf) | (apply QStepH.go; conv => whnf) | (refine Both.lit_true ?_; conv => whnf) | (refine Both.lit_false ?_; conv => whnf) | (apply QStep.go; conv => whnf) | (refine Need.au ?_; conv => whnf) | (refine ⟨_, rfl, ?_⟩; conv => whnf)))
  refine CallVC.auto rflush_k (rIn_mk ho (fun e D' he => ?_))
  obtain ⟨u1, u2⟩ := Prod.mk.inj (he.trans hfl)
  clear he
  subst u1 u2
  (conv => whnf)
  (repeat (first | (exact Out.same; conv => whnf) | (exact Out1.same; conv => whnf) | (refine QAnd.mk ?_ ?_; conv => whnf) | (apply QStepH.go; conv => whnf) | (refine Both.lit_true ?_; conv => whnf) | (refine Both.lit_false ?_; conv => whnf) | (apply QStep.go; conv => whnf) | (refine Need.au ?_; conv => whnf) | (refine ⟨_, rfl, ?_⟩; conv => whnf)))
  refine Both.dec_not (fun hne => ?_) (fun heq => ?_)
  · have h := (h e D' w7z [] (by rw [hop]; exact (if_pos hne).symm)).1 hne
    (conv => whnf)
    (repeat (first | (exact Out.same; conv => whnf) | (exact Out1.same; conv => whnf) | (refine QAnd.mk ?_ ?_; conv => whnf) | (apply QStepH.go; conv => whnf) | (refine Both.lit_true ?_; conv => whnf) | (refine Both.lit_false ?_; conv => whnf) | (apply QStep.go; conv => whnf) | (refine Need.au ?_; conv => whnf) | (refine ⟨_, rfl, ?_⟩; conv => whnf)))
    refine ⟨_, _, WeakV.auto ?_, h⟩
    (repeat' ((conv => whnf); first | exact True.intro | (refine And.intro ?_ ?_)))
    all_goals first | rfl | exact .eq rfl
  have h : ∀ e2 D2 w2 l2, (e2, D2, w2, l2) = opnB D' → (e2 ≠ 0 → Q (.tuple [.nil, .nilsl, .int .i64 e2]) (rA D2)) ∧ (e2 = 0 → Q (.tuple [.ptr 2 0, .sl 1 l2.length (l2.map CV.str) false, .int .i64 0]) (orA D2 w2)) := fun e2 D2 w2 l2 he => h e2 D2 w2 l2 (by rw [hop, he]; exact (if_neg (fun q => q heq)).symm)
  clear hop
  (conv => whnf)
  (repeat (first | (exact Out.same; conv => whnf) | (exact Out1.same; conv => whnf) | (refine QAnd.mk ?_ ?_; conv => whnf) | (apply QStepH.go; conv => whnf) | (refine Both.lit_true ?_; conv => whnf) | (refine Both.lit_false ?_; conv => whnf) | (apply QStep.go; conv => whnf) | (refine Need.au ?_; conv => whnf) | (refine ⟨_, rfl, ?_⟩; conv => whnf)))
  refine CallVC.auto d4rread_k (rIn_mk ho1 fun a ea hea => ?_)
  have ha : a = (D'.rd 0).1 := congrArg Prod.fst hea
  clear hea
  (conv => whnf)
  (repeat (first | (exact Out.same; conv => whnf) | (exact Out1.same; conv => whnf) | (refine QAnd.mk ?_ ?_; conv => whnf) | (apply QStepH.go; conv => whnf) | (refine Both.lit_true ?_; conv => whnf) | (refine Both.lit_false ?_; conv => whnf) | (apply QStep.go; conv => whnf) | (refine Need.au ?_; conv => whnf) | (refine ⟨_, rfl, ?_⟩; conv => whnf)))
  refine CallVC.auto d4rread_k (rIn_mk ho1 fun b eb heb => ?_)
  have hbb : b = (D'.rd 1).1 := congrArg Prod.fst heb
  clear heb
  have hsz := ho1.sz
  have hla : a.length < 1000000 := by have := rd_len ho1 0; rw [ha]; omega
  have hlb : b.length < 1000000 := by have := rd_len ho1 1; rw [hbb]; omega
  obtain ⟨g, sg, at_, hnw⟩ : ∃ g sg a2, hNew D'.sz [a, b] 2 = ((g, sg), a2) := ⟨_, _, _, rfl⟩
  have hhd : hdD D' = ((g, sg), at_) := by
    unfold hdD
    rw [← ha, ← hbb]
    exact hnw
  have hll : ∀ s ∈ [a, b], s.length < 1000000 := by
    intro s hs
    rcases List.mem_cons.1 hs with q | q
    · rw [q]; exact hla
    · rw [List.mem_singleton.1 q]; exact hlb
  have hrg := hdD_rng D'
  rw [hhd] at hrg
  have hrg : at_ < 0 ∧ (g, sg) = ((0, 0) : Int × Int) ∨ 0 ≤ at_ ∧ at_ ≤ 1 ∧ 1 ≤ g ∧ g < 18446744073709551616 ∧ 0 ≤ sg ∧ sg ≤ 1 := hrg
  clear ha hbb
  (conv => whnf)
  (repeat (first | (refine CallVC.auto rnewE_k ⟨[a, b], rfl, rfl, Nat.le_of_ble_eq_true rfl, hll, g, sg, at_, hnw.symm, ?_⟩; conv => whnf) | (exact Out.same; conv => whnf) | (exact Out1.same; conv => whnf) | (refine QAnd.mk ?_ ?_; conv => whnf) | (apply QStepH.go; conv => whnf) | (refine Both.lit_true ?_; conv => whnf) | (refine Both.lit_false ?_; conv => whnf) | (apply QStep.go; conv => whnf) | (refine Need.au ?_; conv => whnf) | (refine ⟨_, rfl, ?_⟩; conv => whnf)))
  refine Both.dec (fun hlt => ?_) (fun hge => ?_)
  · obtain ⟨hd, eh, hh⟩ : ∃ hd eh, hRes D'.sz 1 0 = (hd, eh) := ⟨_, _, rfl⟩
    obtain ⟨e3, D3, hput⟩ : ∃ e3 D3, putV D' 1 [hd] = (e3, D3) := ⟨_, _, rfl⟩
    have hopb : opnB D' = if e3 ≠ 0 then (e3, D3, w7z, []) else (0, D3, opnW D3 1 0 1) := by
      unfold opnB
      rw [hhd, hh]
      show (if at_ < 0 then (if (putV D' 1 [hd]).1 ≠ 0 then ((putV D' 1 [hd]).1, (putV D' 1 [hd]).2, w7z, []) else (0, (putV D' 1 [hd]).2, opnW (putV D' 1 [hd]).2 1 0 1)) else _) = _
      rw [if_pos hlt, hput]
    have hop3 := putV_ok [hd] D' 1 ho1 (by show D'.buf.length + 1 < 1000000; omega)
    have hge3 := putV_geo [hd] D' 1
    rw [hput] at hop3 hge3
    have ho3 : D3.Ok := hop3
    have hc3 : D3.sc = D'.sc := hge3.2
    have h23 : 2 ≤ D3.sc := by omega
    have hd1 : D'.buf.length + ([hd] : List Bs).length < 1000000 := by show D'.buf.length + 1 < 1000000; omega
    clear hge3 hop3
    (conv => whnf)
    (repeat (first | (exact Out.same; conv => whnf) | (exact Out1.same; conv => whnf) | (refine QAnd.mk ?_ ?_; conv => whnf) | (apply QStepH.go; conv => whnf) | (refine Both.lit_true ?_; conv => whnf) | (refine Both.lit_false ?_; conv => whnf) | (apply QStep.go; conv => whnf) | (refine Need.au ?_; conv => whnf) | (refine ⟨_, rfl, ?_⟩; conv => whnf)))
    (refine DrawVC.any Γok (by kernel_rfl) (by kernel_rfl) (by kernel_rfl) (by rfl) ?_; conv => whnf)
    (repeat (first | (refine CallVC.auto rhputE_k (Need.mk ⟨by decide, by decide⟩ ⟨hd, eh, hh.symm, ?_⟩); conv => whnf) | (exact Out.same; conv => whnf) | (exact Out1.same; conv => whnf) | (refine QAnd.mk ?_ ?_; conv => whnf) | (apply QStepH.go; conv => whnf) | (refine Both.lit_true ?_; conv => whnf) | (refine Both.lit_false ?_; conv => whnf) | (apply QStep.go; conv => whnf) | (refine Need.au ?_; conv => whnf) | (refine ⟨_, rfl, ?_⟩; conv => whnf)))
    refine CallVC.auto r7put_k (rIn_mk ho1 ⟨[hd], rfl, rfl, by decide, by decide, Nat.le_of_ble_eq_true rfl, hd1, fun e5 D5 he5 => ?_⟩)
    obtain ⟨u1, u2⟩ := Prod.mk.inj (he5.trans hput)
    clear he5
    subst u1 u2
    (conv => whnf)
    (repeat (first | (exact Out.same; conv => whnf) | (exact Out1.same; conv => whnf) | (refine QAnd.mk ?_ ?_; conv => whnf) | (apply QStepH.go; conv => whnf) | (refine Both.lit_true ?_; conv => whnf) | (refine Both.lit_false ?_; conv => whnf) | (apply QStep.go; conv => whnf) | (refine Need.au ?_; conv => whnf) | (refine ⟨_, rfl, ?_⟩; conv => whnf)))
    refine Both.dec_not (fun hne3 => ?_) (fun heq3 => ?_)
    · have h := (h e5 D5 w7z [] (by rw [hopb]; exact (if_pos hne3).symm)).1 hne3
      (conv => whnf)
      (repeat (first | (exact Out.same; conv => whnf) | (exact Out1.same; conv => whnf) | (refine QAnd.mk ?_ ?_; conv => whnf) | (apply QStepH.go; conv => whnf) | (refine Both.lit_true ?_; conv => whnf) | (refine Both.lit_false ?_; conv => whnf) | (apply QStep.go; conv => whnf) | (refine Need.au ?_; conv => whnf) | (refine ⟨_, rfl, ?_⟩; conv => whnf)))
      refine ⟨_, _, WeakV.auto ?_, h⟩
      (repeat' ((conv => whnf); first | exact True.intro | (refine And.intro ?_ ?_)))
      all_goals first | rfl | exact .eq rfl
    · obtain ⟨l, n, hscan⟩ : ∃ l n, scanA D5.sz 1 (readV D5 (baseV D5 0) (segV D5)) = (l, n) := ⟨_, _, rfl⟩
      have h := (h 0 D5 ⟨1, 0, 1, n, l.length, false, false⟩ l (by
        rw [hopb, if_neg (fun q => q heq3)]
        unfold opnW
        rw [hscan])).2 rfl
      (conv => whnf)
      (repeat (first | (refine CallVC.auto recs_k (rIn_mk ho3 ⟨1, l, n, rfl, by decide, h23, hscan, ?_⟩); conv => whnf) | (exact Out.same; conv => whnf) | (exact Out1.same; conv => whnf) | (refine QAnd.mk ?_ ?_; conv => whnf) | (apply QStepH.go; conv => whnf) | (refine Both.lit_true ?_; conv => whnf) | (refine Both.lit_false ?_; conv => whnf) | (apply QStep.go; conv => whnf) | (refine Need.au ?_; conv => whnf) | (refine ⟨_, rfl, ?_⟩; conv => whnf)))
      refine ⟨_, _, WeakV.auto ?_, h⟩
      (repeat' ((conv => whnf); first | exact True.intro | (refine And.intro ?_ ?_)))
      all_goals first | rfl | exact .eq rfl
  · have hrg := hrg.resolve_left (fun q => hge q.1)
    obtain ⟨gn, rfl⟩ := Int.eq_ofNat_of_zero_le (show 0 ≤ g by omega)
    have hgn : gn < 18446744073709551616 := by omega
    obtain ⟨l, n, hscan⟩ : ∃ l n, scanA D'.sz gn (readV D' (baseV D' sg) (segV D')) = (l, n) := ⟨_, _, rfl⟩
    have h := (h 0 D' ⟨gn, sg, at_, n, l.length, false, false⟩ l (by
      unfold opnB
      rw [hhd]
      show _ = (if at_ < 0 then _ else (0, D', opnW D' ((gn : Int)).toNat sg at_))
      rw [if_neg hge, Int.toNat_natCast]
      unfold opnW
      rw [hscan])).2 rfl
    (conv => whnf)
    (repeat (first | (refine CallVC.auto recs_k (rIn_mk ho1 ⟨gn, l, n, rfl, hgn, h2, hscan, ?_⟩); conv => whnf) | (exact Out.same; conv => whnf) | (exact Out1.same; conv => whnf) | (refine QAnd.mk ?_ ?_; conv => whnf) | (apply QStepH.go; conv => whnf) | (refine Both.lit_true ?_; conv => whnf) | (refine Both.lit_false ?_; conv => whnf) | (apply QStep.go; conv => whnf) | (refine Need.au ?_; conv => whnf) | (refine ⟨_, rfl, ?_⟩; conv => whnf)))
    refine ⟨_, _, WeakV.auto ?_, h⟩
    (repeat' ((conv => whnf); first | exact True.intro | (refine And.intro ?_ ?_)))
    all_goals first | rfl | exact .eq rfl
theorem ropen_k : Contract Tryz.prog [] 55 ropenS := ⟨⟨⟨_, rfl, rfl, rfl⟩⟩, ropen_c⟩
end Go.LX
end
section
set_option maxRecDepth 100000
set_option maxHeartbeats 2000000
set_option autoImplicit false
set_option linter.unusedVariables false
set_option linter.unusedSimpArgs false
namespace Go.LX
open Go.Proofs

end Go.LX
end
section
set_option maxRecDepth 100000
set_option maxHeartbeats 2000000
set_option autoImplicit false
set_option linter.unusedVariables false
set_option linter.unusedSimpArgs false
namespace Go.LX
open Go.Proofs

end Go.LX
end
section
set_option maxRecDepth 100000
set_option maxHeartbeats 2000000
set_option autoImplicit false
set_option linter.unusedVariables false
set_option linter.unusedSimpArgs false
namespace Go.LX
open Go.Proofs

def seqs : Int → List Bs → List (Int × Bs)
  | _, [] => []
  | n, t :: l => (n, t) :: seqs (n + 1) l
theorem rd_calm {D : Dsk} (hb : D.buf = []) {n : Nat} (h : n < D.sc) : (D.rd n).1 = D.st.getD n [] := by
  unfold Dsk.rd rdOf
  rw [if_pos ⟨by omega, by omega⟩, hb]
  rfl
theorem arm0 {D : Dsk} (ha : D.ar = 0) (st : List Bs) (b : List (Int × Bs)) : ({ D with ar := D.ar - 1, st := st, buf := b } : Dsk) = { D with st := st, buf := b } := by
  cases D
  cases ha
  rfl
theorem putV_0 : ∀ (l : List Bs) (D : Dsk) (n : Int), D.ar = 0 → 0 ≤ n → n + l.length ≤ D.sc → (∀ t ∈ l, t.length = D.sz) → putV D n l = (0, { D with st := putAll D.st (D.buf ++ seqs n l), buf := [] })
  | [], D, n, ha, hn, hi, hl => by
    rw [putV]
    unfold Dsk.fl
    rw [if_neg (by omega), arm0 ha, seqs, List.append_nil]
  | t :: l, D, n, ha, hn, hi, hl => by
    rw [List.length_cons] at hi
    have hw : D.wr n t = (0, { D with buf := D.buf ++ [(n, t)] }) := by
      unfold Dsk.wr
      rw [if_pos ⟨hn, by omega, hl t List.mem_cons_self⟩, if_neg (by omega)]
      exact congrArg (fun x => ((0 : Int), x)) (arm0 ha D.st _)
    rw [putV, hw, if_pos rfl]
    have ih := putV_0 l { D with buf := D.buf ++ [(n, t)] } (n + 1) ha (by omega) (by show n + 1 + _ ≤ ((D.sc : Nat) : Int); omega) (fun x hx => hl x (List.mem_cons_of_mem _ hx))
    rw [show (((0 : Int), ({ D with buf := D.buf ++ [(n, t)] } : Dsk)).2) = { D with buf := D.buf ++ [(n, t)] } from rfl, ih]
    show (0, ({ D with st := putAll D.st ((D.buf ++ [(n, t)]) ++ seqs (n + 1) l), buf := [] } : Dsk)) = _
    rw [List.append_assoc]
    rfl
theorem putAll_seqs : ∀ (l st : List Bs) (n i : Nat), n + l.length ≤ st.length → (putAll st (seqs n l)).getD i [] = if n ≤ i ∧ i < n + l.length then l.getD (i - n) [] else st.getD i []
  | [], st, n, i, h => by
    rw [if_neg (by rw [List.length_nil]; omega)]
    rfl
  | t :: l, st, n, i, h => by
    rw [List.length_cons] at h
    have ih := putAll_seqs l (st.set n t) (n + 1) i (by rw [List.length_set]; omega)
    have e : putAll st (seqs n (t :: l)) = putAll (st.set n t) (seqs ((n + 1 : Nat) : Int) l) := by
      show putAll (st.set ((n : Int)).toNat t) (seqs ((n : Int) + 1) l) = _
      rw [Int.toNat_natCast]
      rfl
    rw [e, ih, List.length_cons]
    by_cases h1 : n + 1 ≤ i ∧ i < n + 1 + l.length
    · rw [if_pos h1, if_pos (by omega), show i - n = (i - (n + 1)) + 1 by omega]
      rfl
    · rw [if_neg h1]
      by_cases h2 : i = n
      · subst h2
        rw [if_pos (by omega), Nat.sub_self, List.getD_eq_getElem?_getD, List.getElem?_set_self (by omega)]
        rfl
      · rw [if_neg (by omega), List.getD_eq_getElem?_getD, List.getElem?_set_ne (by omega), ← List.getD_eq_getElem?_getD]
structure Calm7 (D : Dsk) : Prop where
  ok : D.Ok
  buf : D.buf = []
  ar : D.ar = 0
theorem putV_calm {D : Dsk} (hc : Calm7 D) {n : Nat} {l : List Bs} (hi : n + l.length ≤ D.sc) (hl : ∀ t ∈ l, t.length = D.sz) :
    ∃ D', putV D n l = (0, D') ∧ Calm7 D' ∧ D'.sz = D.sz ∧ D'.sc = D.sc ∧ ∀ i, D'.st.getD i [] = if n ≤ i ∧ i < n + l.length then l.getD (i - n) [] else D.st.getD i [] := by
  have h := putV_0 l D n hc.ar (by omega) (by omega) hl
  rw [hc.buf, List.nil_append] at h
  have hsc := hc.ok.sc
  have hk := putV_ok l D n hc.ok (by rw [hc.buf, List.length_nil]; omega)
  rw [h] at hk
  exact ⟨_, h, ⟨hk, rfl, hc.ar⟩, rfl, rfl, fun i => putAll_seqs l D.st n i (by rw [hc.ok.len]; exact hi)⟩
theorem readV_chunk {D : Dsk} (hc : Calm7 D) {n m k : Nat} (hi : n + m ≤ D.sc) (hk : k < m) : chunk D.sz (readV D n m) k = D.st.getD (n + k) [] := by
  have hl : ∀ x ∈ (List.range m).map (fun k => (D.rd (((n : Nat) : Int) + ((k : Nat) : Int))).1), x.length = D.sz := by
    intro x hx
    obtain ⟨j, hj, rfl⟩ := List.mem_map.1 hx
    have := List.mem_range.1 hj
    exact rd_size hc.ok (by omega) (by omega)
  have h := flat_chunk (z := D.sz) (l := (List.range m).map (fun k => (D.rd (((n : Nat) : Int) + ((k : Nat) : Int))).1)) [] [] 0 k (D.rd (((n : Nat) : Int) + ((k : Nat) : Int))).1 (by rw [List.length_nil]; omega) hl (by rw [List.getElem?_map, List.getElem?_range hk]; rfl)
  rw [List.nil_append, List.append_nil, Nat.zero_add] at h
  unfold readV
  rw [h, show ((n : Nat) : Int) + ((k : Nat) : Int) = ((n + k : Nat) : Int) from rfl]
  exact rd_calm hc.buf (by omega)
def oldS (z g : Nat) (s : Bs) : Prop := s = Z z ∨ ∃ (g' sr : Nat) (t : Bs) (k : Nat), g' < g ∧ g' < 18446744073709551616 ∧ sr < 18446744073709551616 ∧ t.length ≤ 4096 ∧ k < npar (z - 25) t.length ∧ s = secAt z g' sr t k
theorem oldS.mono {z g g1 : Nat} {s : Bs} (h : oldS z g s) (hg : g ≤ g1) : oldS z g1 s := by
  rcases h with h | ⟨g', sr, t, k, h1, h2⟩
  · exact .inl h
  · exact .inr ⟨g', sr, t, k, by omega, h2⟩
theorem readX_zero (z : Nat) : (readX (z : Int) (Z z)).2 ≠ 0 := by
  unfold readX
  split
  · decide
  rename_i h1
  have hz : 64 ≤ (z : Int) ∧ (z : Int) ≤ 512 := of_decide_eq_true (by simpa using h1 : rightN (z : Int) = true)
  split
  · decide
  split
  · decide
  rw [if_neg ?_]
  · decide
  rintro ⟨_, _, _, h, _⟩
  rw [Int.toNat_natCast] at h
  unfold Z at h
  rw [List.take_replicate, List.take_replicate, show min 1 (min (z - 4) z) = 1 by omega] at h
  cases h
theorem old_no {z g : Nat} {s : Bs} (hz : 64 ≤ z ∧ z ≤ 512) (h : oldS z g s) : (readX (z : Int) s).2 ≠ 0 ∨ (readX (z : Int) s).1.g ≠ g := by
  rcases h with h | ⟨g', sr, t, k, h1, h2, h3, h4, h5, rfl⟩
  · rw [h]
    exact .inl (readX_zero z)
  · rw [readX_at hz h2 h3 h4 h5]
    exact .inr (by show g' ≠ g; omega)
theorem head_zero (z : Nat) : (hGet (z : Int) (Z z)).2 ≠ 0 ∧ (hGet (z : Int) (Z z)).1 = (0, 0) := by
  have hz := hGet_zero (z : Int) (Z z)
  rcases hz with ⟨h, _⟩ | h
  · exfalso
    unfold hGet at h
    split at h
    · exact absurd h (by decide)
    rename_i h1
    split at h
    · exact absurd h (by decide)
    split at h
    · exact absurd h (by decide)
    split at h
    · rename_i h4
      unfold hRes at h4
      split at h4
      · rename_i h5
        have h6 := of_decide_eq_true h5
        have h7 := (Prod.mk.inj h4).1
        rw [Int.toNat_natCast] at h7
        have h8 : (hPut z (hG (Z z)) (hS (Z z))).take 1 = [72] := by
          unfold hPut Crc.seal_ hRaw
          generalize beb (hG (Z z)).toNat 8 = a
          generalize Crc.le 4 _ = b
          simp
        rw [h7] at h8
        unfold Z at h8
        rw [List.take_replicate, show min 1 z = 1 by omega] at h8
        cases h8
      · exact absurd (show (1 : Int) = 0 from congrArg Prod.snd h4) (by decide)
    · exact absurd h (by decide)
  · exact h
end Go.LX
end
section
set_option maxRecDepth 100000
set_option maxHeartbeats 2000000
set_option autoImplicit false
set_option linter.unusedVariables false
set_option linter.unusedSimpArgs false
namespace Go.LX
open Go.Proofs

theorem placed_congr7 {z g : Nat} {T T' : Bz} (hl : T'.length = T.length) : ∀ (L : List Bz) (u i : Nat), (∀ k, k < u + secs z L → chunk z T' k = chunk z T k) → placed z g T u i L → placed z g T' u i L
  | [], _, _, _, _ => trivial
  | t :: L, u, i, hc, hp => by
    rw [secs] at hc
    exact ⟨⟨fun k hk => (hc _ (by omega)).trans (hp.1.1 k hk), by rw [hl]; exact hp.1.2⟩, placed_congr7 hl L _ _ (fun k hk => hc k (by omega)) hp.2⟩
theorem placed_app1 {z g : Nat} {T : Bz} {s : Bz} : ∀ (L : List Bz) (u i : Nat), placed z g T u i L → (∀ k, k < npar (z - 25) s.length → chunk z T (u + secs z L + k) = secAt z g (i + L.length) s k) → (u + secs z L + npar (z - 25) s.length) * z ≤ T.length → placed z g T u i (L ++ [s])
  | [], u, i, _, h1, h2 => ⟨⟨h1, h2⟩, trivial⟩
  | t :: L, u, i, hp, h1, h2 => by
    rw [secs] at h1 h2
    refine ⟨hp.1, placed_app1 L _ _ hp.2 (fun k hk => ?_) ?_⟩
    · rw [show i + 1 + L.length = i + (t :: L).length by rw [List.length_cons]; omega, ← h1 k hk]
      congr 1
      omega
    · rw [show u + npar (z - 25) t.length + secs z L + npar (z - 25) s.length = u + (npar (z - 25) t.length + secs z L) + npar (z - 25) s.length by omega]
      exact h2
theorem placed_here {z g : Nat} {T : Bz} : ∀ (L : List Bz) (u i k : Nat), placed z g T u i L → k < secs z L → ∃ (sr : Nat) (t : Bz) (j : Nat), sr < i + L.length ∧ t ∈ L ∧ j < npar (z - 25) t.length ∧ chunk z T (u + k) = secAt z g sr t j
  | [], u, i, k, _, h => by
    rw [secs] at h
    omega
  | t :: L, u, i, k, hp, h => by
    rw [secs] at h
    by_cases hk : k < npar (z - 25) t.length
    · exact ⟨i, t, k, by rw [List.length_cons]; omega, List.mem_cons_self, hk, hp.1.1 k hk⟩
    · obtain ⟨sr, t', j, h1, h2, h3, h4⟩ := placed_here L _ _ (k - npar (z - 25) t.length) hp.2 (by omega)
      rw [show u + npar (z - 25) t.length + (k - npar (z - 25) t.length) = u + k by omega] at h4
      exact ⟨sr, t', j, by rw [List.length_cons]; omega, List.mem_cons_of_mem _ h2, h3, h4⟩
def bsN (D : Dsk) (sg : Int) : Nat := if sg = 1 then 2 + segV D else 2
theorem baseV_n (D : Dsk) (sg : Int) : baseV D sg = ((bsN D sg : Nat) : Int) := by
  unfold baseV bsN
  split <;> omega
theorem bsN_rng {D : Dsk} (h4 : 4 ≤ D.sc) (sg : Int) : 2 ≤ bsN D sg ∧ bsN D sg + segV D ≤ D.sc := by
  unfold bsN segV
  split <;> omega
theorem bsN_geo {D D' : Dsk} (h : D'.sc = D.sc) (sg : Int) : bsN D' sg = bsN D sg ∧ segV D' = segV D := by
  unfold bsN segV
  rw [h]
  exact ⟨rfl, rfl⟩
theorem bsN_flip {D : Dsk} {sg : Int} (h : 0 ≤ sg ∧ sg ≤ 1) : bsN D (1 - sg) + segV D ≤ bsN D sg ∨ bsN D sg + segV D ≤ bsN D (1 - sg) := by
  unfold bsN
  rcases (show sg = 0 ∨ sg = 1 by omega) with q | q
  · subst q
    rw [if_pos (by decide), if_neg (by decide)]
    omega
  · subst q
    rw [if_neg (by decide), if_pos (by decide)]
    omega
structure Inv7 (D : Dsk) (w : W7) (now : List Bs) : Prop where
  calm : Calm7 D
  wok : w.Ok D
  br : w.broken = false
  len : ∀ t ∈ now, t.length ≤ 4096
  used : w.used = secs D.sz now
  sn : w.sn = now.length
  here : placed D.sz w.g (readV D ((bsN D w.sg : Nat) : Int) (segV D)) 0 0 now
  head : hGet D.sz (D.st.getD w.slot.toNat []) = (((w.g : Int), w.sg), 0)
  other : (hGet D.sz (D.st.getD (1 - w.slot).toNat [])).1.1 < (w.g : Int)
  old1 : ∀ k, w.used ≤ k → k < segV D → oldS D.sz w.g (D.st.getD (bsN D w.sg + k) [])
  old2 : ∀ k, k < segV D → oldS D.sz w.g (D.st.getD (bsN D (1 - w.sg) + k) [])
theorem inv_scan {D : Dsk} {w : W7} {now : List Bs} (h : Inv7 D w now) : scanA D.sz w.g (readV D (baseV D w.sg) (segV D)) = (now, w.used) := by
  rw [baseV_n]
  have hz := h.calm.ok.sz
  have hr := bsN_rng h.wok.sc w.sg
  have hT : (readV D ((bsN D w.sg : Nat) : Int) (segV D)).length = segV D * D.sz := readV_size h.calm.ok (by omega) _ (by omega)
  have hck : ∀ k, k < segV D → chunk D.sz (readV D ((bsN D w.sg : Nat) : Int) (segV D)) k = D.st.getD (bsN D w.sg + k) [] := fun k hk => readV_chunk h.calm hr.2 hk
  have hp := h.here
  generalize readV D ((bsN D w.sg : Nat) : Int) (segV D) = T at hT hck hp
  have hg := h.wok.g
  have hu := h.wok.used
  have hue := h.used
  have hsg := secs_ge D.sz now
  have h1 : segV D * 1 ≤ segV D * D.sz := Nat.mul_le_mul_left _ (by omega)
  have hsc := h.calm.ok.sc
  have hv : segV D ≤ 2047 := by unfold segV; omega
  have hgo := scanX_placed hz hg.2 now 0 [] (T.length + 1 - now.length) h.len (by rw [List.length_nil]; omega) hp
  unfold scanA
  rw [show T.length + 1 = (T.length + 1 - now.length) + now.length by omega, hgo, Nat.zero_add, List.nil_append, ← hue]
  refine scanX_stop ?_ _
  refine congrArg Prod.snd (recX_no (fun q => ?_) : recA D.sz w.g now.length (T.drop (w.used * D.sz)) = ([], 0))
  by_cases hq : w.used = segV D
  · have q1 := q.1
    rw [List.length_drop, hT, hq] at q1
    omega
  · have ho := old_no hz (h.old1 w.used (Nat.le_refl _) (by omega))
    rw [← hck w.used (by omega), ← Nat.add_zero w.used, ← chunk_drop] at ho
    rcases ho with ho | ho
    · exact ho q.2.1
    · exact ho q.2.2.1
theorem fl_calm {D : Dsk} (h : Calm7 D) : D.fl = (0, D) := by
  unfold Dsk.fl
  rw [if_neg (by rw [h.ar]; decide), arm0 h.ar, h.buf]
  have hb := h.buf
  cases D
  cases hb
  rfl
theorem h7_in {z : Int} {x : (Int × Int) × Int} {k : Nat} {s : Bs} {g sg : Int} (h : hGet z s = ((g, sg), 0)) (hx : x.1.1 < g) : hStep z x k s = ((g, sg), (k : Int)) := by
  unfold hStep
  rw [h, if_pos ⟨rfl, hx⟩]
theorem h7_out {z : Int} {x : (Int × Int) × Int} {k : Nat} {s : Bs} (h : (hGet z s).1.1 ≤ x.1.1) : hStep z x k s = x := by
  unfold hStep
  rw [if_neg (fun q => by have := q.2; omega)]
theorem hdD_calm {D : Dsk} (h : Calm7 D) (h2 : 2 ≤ D.sc) : hdD D = hStep D.sz (hStep D.sz ((0, 0), -1) 0 (D.st.getD 0 [])) 1 (D.st.getD 1 []) := by
  have e0 : (D.rd 0).1 = D.st.getD 0 [] := rd_calm (n := 0) h.buf (by omega)
  have e1 : (D.rd 1).1 = D.st.getD 1 [] := rd_calm (n := 1) h.buf (by omega)
  rw [← e0, ← e1]
  rfl
theorem inv_head {D : Dsk} {w : W7} {now : List Bs} (h : Inv7 D w now) : hdD D = (((w.g : Int), w.sg), w.slot) := by
  have h4 := h.wok.sc
  have hg := h.wok.g
  have hs := h.wok.slot
  rw [hdD_calm h.calm (by omega)]
  have hh := h.head
  have ho := h.other
  rcases (show w.slot = 0 ∨ w.slot = 1 by omega) with q | q
  · rw [q] at hh ho ⊢
    have hh : hGet D.sz (D.st.getD 0 []) = (((w.g : Int), w.sg), 0) := hh
    have ho : (hGet D.sz (D.st.getD 1 [])).1.1 < (w.g : Int) := ho
    rw [h7_in hh (by show (0 : Int) < _; omega), h7_out (by show _ ≤ (w.g : Int); omega)]
    rfl
  · rw [q] at hh ho ⊢
    have hh : hGet D.sz (D.st.getD 1 []) = (((w.g : Int), w.sg), 0) := hh
    have ho : (hGet D.sz (D.st.getD 0 [])).1.1 < (w.g : Int) := ho
    refine h7_in hh ?_
    unfold hStep
    split
    · exact ho
    · show (0 : Int) < _
      omega
theorem inv_open {D : Dsk} {w : W7} {now : List Bs} (h : Inv7 D w now) : opn D = (0, D, ⟨w.g, w.sg, w.slot, w.used, w.sn, false, false⟩, now) := by
  have hs := h.wok.slot
  unfold opn
  rw [if_neg (by have := h.wok.sc; omega), fl_calm h.calm]
  show (if (0 : Int) ≠ 0 then _ else opnB D) = _
  rw [if_neg (fun q => q rfl)]
  unfold opnB
  rw [inv_head h]
  show (if w.slot < 0 then _ else ((0 : Int), D, opnW D ((w.g : Int)).toNat w.sg w.slot)) = _
  rw [if_neg (by omega), Int.toNat_natCast]
  unfold opnW
  rw [inv_scan h, h.sn]
theorem parts_n {D : Dsk} (ho : D.Ok) {s : Bs} (hs : s.length ≤ 4096) : partsV D.sz s.length = npar (D.sz - 25) s.length := by
  have := ho.sz
  unfold partsV
  rw [if_pos (by omega), Int.toNat_natCast, Int.toNat_natCast]
theorem inv_app {D : Dsk} {w : W7} {now : List Bs} {s : Bs} (h : Inv7 D w now) (hs : s.length ≤ 4096) (hr : w.ready = true) (hf : fitsW D w s.length) :
    ∃ D', appL D w s = (0, D', { w with used := w.used + npar (D.sz - 25) s.length, sn := w.sn + 1 }) ∧ Inv7 D' { w with used := w.used + npar (D.sz - 25) s.length, sn := w.sn + 1 } (now ++ [s]) ∧ D'.sz = D.sz ∧ D'.sc = D.sc := by
  have hz := h.calm.ok.sz
  have hrg := bsN_rng h.wok.sc w.sg
  have hrg2 := bsN_rng h.wok.sc (1 - w.sg)
  have hpn := parts_n h.calm.ok hs
  have hpos := npar_pos (D.sz - 25) s.length
  obtain ⟨f1, f2⟩ := hf
  rw [hpn] at f1 f2
  have hu := h.wok.used
  have hsl := h.wok.slot
  have hsg := h.wok.sg
  have hsn := h.wok.sn
  have hgg := h.wok.g
  have hsc := h.calm.ok.sc
  have hv : segV D ≤ 2047 := by unfold segV; omega
  obtain ⟨D', hp, hc', hz', hs', hst⟩ := putV_calm (D := D) h.calm (n := bsN D w.sg + w.used) (l := splitL D.sz w.g w.sn s) (by rw [splitL_len]; omega) (fun t ht => splitL_size hz ht)
  rw [splitL_len] at hst
  have hbg := bsN_geo (D := D) hs'
  have hwo : ({ w with used := w.used + npar (D.sz - 25) s.length, sn := w.sn + 1 } : W7).Ok D' := ⟨by rw [hs']; exact h.wok.sc, hgg, hsg, hsl, by rw [(hbg 0).2]; show w.used + _ ≤ _; omega, by show w.sn + 1 ≤ w.used + _; omega⟩
  refine ⟨D', ?_, ⟨hc', hwo, h.br, ?_, ?_, ?_, ?_, ?_, ?_, ?_, ?_⟩, hz', hs'⟩
  · have hap : appP D w s = (0, D', { w with used := w.used + npar (D.sz - 25) s.length, sn := w.sn + 1 }) := by
      unfold appP
      rw [if_neg (by rw [hr]; decide), if_neg (by rw [hpn]; omega), if_neg (fun q => q ⟨by rw [hpn]; exact f1, by rw [hpn]; exact f2⟩), baseV_n,
        show ((bsN D w.sg : Nat) : Int) + ((w.used : Nat) : Int) = ((bsN D w.sg + w.used : Nat) : Int) from rfl, hp, if_pos rfl, splitL_len]
    unfold appL
    rw [if_neg (by rw [h.br]; decide), hap]
    show (0, D', ({ w with used := _, sn := _, broken := decide ((0 : Int) = 13) } : W7)) = _
    have hb := h.br
    cases w
    cases hb
    rfl
  · intro t ht
    rcases List.mem_append.1 ht with q | q
    · exact h.len t q
    · rw [List.mem_singleton.1 q]; exact hs
  · show w.used + _ = _
    rw [hz', secs_app, ← h.used, secs, secs, Nat.add_zero]
  · show w.sn + 1 = _
    rw [h.sn, List.length_append, List.length_singleton]
  · show placed D'.sz w.g (readV D' ((bsN D' w.sg : Nat) : Int) (segV D')) 0 0 (now ++ [s])
    have hT := readV_size h.calm.ok (n := ((bsN D w.sg : Nat) : Int)) (by omega) (segV D) (by omega)
    have hT' := readV_size hc'.ok (n := ((bsN D w.sg : Nat) : Int)) (by omega) (segV D) (by rw [hs']; omega)
    have hck : ∀ k, k < segV D → chunk D.sz (readV D ((bsN D w.sg : Nat) : Int) (segV D)) k = D.st.getD (bsN D w.sg + k) [] := fun k hk => readV_chunk h.calm hrg.2 hk
    have hck' : ∀ k, k < segV D → chunk D'.sz (readV D' ((bsN D w.sg : Nat) : Int) (segV D)) k = D'.st.getD (bsN D w.sg + k) [] := fun k hk => readV_chunk hc' (by rw [hs']; exact hrg.2) hk
    rw [(hbg w.sg).1, (hbg w.sg).2]
    rw [hz'] at hT' hck' ⊢
    refine placed_app1 now 0 0 (placed_congr7 (hT'.trans hT.symm) now 0 0 (fun k hk => ?_) h.here) (fun k hk => ?_) ?_
    · rw [Nat.zero_add, ← h.used] at hk
      rw [hck' k (by omega), hck k (by omega), hst, if_neg (by omega)]
    · rw [Nat.zero_add, Nat.zero_add, ← h.used, hck' _ (by omega), hst, if_pos (by omega), show bsN D w.sg + (w.used + k) - (bsN D w.sg + w.used) = k by omega, List.getD_eq_getElem?_getD, splitL_at hk, ← h.sn]
      rfl
    · rw [hT', Nat.zero_add, ← h.used]
      exact Nat.mul_le_mul_right _ (by omega)
  · show hGet D'.sz (D'.st.getD w.slot.toNat []) = _
    rw [hz', hst, if_neg (by omega)]
    exact h.head
  · show (hGet D'.sz (D'.st.getD (1 - w.slot).toNat [])).1.1 < _
    rw [hz', hst, if_neg (by omega)]
    exact h.other
  · intro k hk1 hk2
    have hk1 : w.used + npar (D.sz - 25) s.length ≤ k := hk1
    rw [(hbg 0).2] at hk2
    show oldS D'.sz w.g (D'.st.getD (bsN D' w.sg + k) [])
    rw [hz', (hbg w.sg).1, hst, if_neg (by omega)]
    exact h.old1 k (by omega) hk2
  · intro k hk2
    rw [(hbg 0).2] at hk2
    show oldS D'.sz w.g (D'.st.getD (bsN D' (1 - w.sg) + k) [])
    rw [hz', (hbg _).1, hst, if_neg ?_]
    · exact h.old2 k hk2
    · have hfl := bsN_flip (D := D) hsg
      omega
theorem app_full {D : Dsk} {w : W7} {s : Bs} (hb : w.broken = false) (hr : w.ready = true) (hp : partsV D.sz s.length ≠ 0) (hn : ¬ fitsW D w s.length) : appL D w s = (2, D, w) := by
  unfold appL
  rw [if_neg (by rw [hb]; decide)]
  have h : appP D w s = (2, D, w) := by
    unfold appP
    rw [if_neg (by rw [hr]; decide), if_neg hp, if_pos hn]
  rw [h]
  show (2, D, ({ w with broken := decide ((2 : Int) = 13) } : W7)) = _
  cases w
  cases hb
  rfl
end Go.LX
end
section
set_option maxRecDepth 100000
set_option maxHeartbeats 2000000
set_option autoImplicit false
set_option linter.unusedVariables false
set_option linter.unusedSimpArgs false
namespace Go.LX
open Go.Proofs

theorem inv_chk {D : Dsk} {w : W7} {now : List Bs} {s : Bs} (h : Inv7 D w now) (hs : s.length ≤ 4096) (hp : partsV D.sz s.length ≤ segV D) (hg : w.g + 1 < 18446744073709551615) :
    ∃ D', chkL D w s = (0, D', ⟨w.g + 1, 1 - w.sg, 1 - w.slot, npar (D.sz - 25) s.length, 1, true, false⟩) ∧ Inv7 D' ⟨w.g + 1, 1 - w.sg, 1 - w.slot, npar (D.sz - 25) s.length, 1, true, false⟩ [s] ∧ D'.sz = D.sz ∧ D'.sc = D.sc := by
  have hz := h.calm.ok.sz
  have h4 := h.wok.sc
  have hrg := bsN_rng h.wok.sc w.sg
  have hrg2 := bsN_rng h.wok.sc (1 - w.sg)
  have hpn := parts_n h.calm.ok hs
  have hpos := npar_pos (D.sz - 25) s.length
  rw [hpn] at hp
  have hu := h.wok.used
  have hsl := h.wok.slot
  have hsg := h.wok.sg
  have hsn := h.wok.sn
  have hgg := h.wok.g
  have hfl := bsN_flip (D := D) hsg
  have hsc := h.calm.ok.sc
  have hv : segV D ≤ 2047 := by unfold segV; omega
  have hnx : hNext (w.g : Int) w.sg = ((((w.g + 1 : Nat) : Int), 1 - w.sg), 0) := by
    unfold hNext
    rw [if_neg (by omega)]
    rcases (show w.sg = 0 ∨ w.sg = 1 by omega) with q | q
    · rw [q, if_pos rfl]
      rfl
    · rw [q, if_neg (by decide)]
      rfl
  obtain ⟨D1, hp1, hc1, hz1, hs1, hst1⟩ := putV_calm (D := D) h.calm (n := bsN D (1 - w.sg)) (l := splitL D.sz (w.g + 1) 0 s) (by rw [splitL_len]; omega) (fun t ht => splitL_size hz ht)
  rw [splitL_len] at hst1
  have hok : hOk (D.sz : Int) ((w.g + 1 : Nat) : Int) (1 - w.sg) = true := decide_eq_true ⟨by omega, by omega, by omega, by omega, by omega⟩
  have hres : hRes (D.sz : Int) ((w.g + 1 : Nat) : Int) (1 - w.sg) = (hPut D.sz ((w.g + 1 : Nat) : Int) (1 - w.sg), 0) := by rw [hRes, if_pos hok, Int.toNat_natCast]
  have hhl := hPut_len (z := D.sz) (by omega) ((w.g + 1 : Nat) : Int) (1 - w.sg)
  have hgp := hGet_put hok (by omega) (by omega)
  obtain ⟨hd, hhd⟩ : ∃ x, hPut D.sz ((w.g + 1 : Nat) : Int) (1 - w.sg) = x := ⟨_, rfl⟩
  rw [hhd] at hres hhl hgp
  obtain ⟨D2, hp2, hc2, hz2, hs2, hst2⟩ := putV_calm (D := D1) hc1 (n := (1 - w.slot).toNat) (l := [hd]) (by rw [hs1, List.length_singleton]; omega) (fun t ht => by rw [List.mem_singleton.1 ht, hz1]; exact hhl)
  rw [List.length_singleton] at hst2
  have hbg := bsN_geo (D := D) (hs2.trans hs1)
  have hz' := hz2.trans hz1
  have hs' := hs2.trans hs1
  have hlow : ∀ i, 2 ≤ i → D2.st.getD i [] = D1.st.getD i [] := fun i hi => by rw [hst2, if_neg (by omega)]
  have hwo : (⟨w.g + 1, 1 - w.sg, 1 - w.slot, npar (D.sz - 25) s.length, 1, true, false⟩ : W7).Ok D2 := ⟨by rw [hs']; exact h4, ⟨by show 1 ≤ w.g + 1; omega, by show w.g + 1 < _; omega⟩, ⟨by show 0 ≤ 1 - w.sg; omega, by show 1 - w.sg ≤ 1; omega⟩, ⟨by show 0 ≤ 1 - w.slot; omega, by show 1 - w.slot ≤ 1; omega⟩, by rw [(hbg 0).2]; exact hp, hpos⟩
  refine ⟨D2, ?_, ⟨hc2, hwo, rfl, ?_, ?_, rfl, ?_, ?_, ?_, ?_, ?_⟩, hz', hs'⟩
  · have hap : chkP D w s = (0, D2, ⟨w.g + 1, 1 - w.sg, 1 - w.slot, npar (D.sz - 25) s.length, 1, true, w.broken⟩) := by
      unfold chkP
      rw [if_neg (by rw [hpn]; omega), if_neg (by rw [hpn]; omega), hnx]
      show (if (0 : Int) ≠ 0 then _ else _) = _
      rw [if_neg (fun q => q rfl)]
      show (if (putV D (baseV D (1 - w.sg)) (splitL D.sz (((w.g + 1 : Nat) : Int)).toNat 0 s)).1 ≠ 0 then _ else if (putV (putV D (baseV D (1 - w.sg)) (splitL D.sz (((w.g + 1 : Nat) : Int)).toNat 0 s)).2 (1 - w.slot) [(hRes D.sz ((w.g + 1 : Nat) : Int) (1 - w.sg)).1]).1 ≠ 0 then _ else
        (0, (putV (putV D (baseV D (1 - w.sg)) (splitL D.sz (((w.g + 1 : Nat) : Int)).toNat 0 s)).2 (1 - w.slot) [(hRes D.sz ((w.g + 1 : Nat) : Int) (1 - w.sg)).1]).2, (⟨(((w.g + 1 : Nat) : Int)).toNat, 1 - w.sg, 1 - w.slot, partsV D.sz s.length, 1, true, w.broken⟩ : W7))) = _
      rw [Int.toNat_natCast, hres, baseV_n, hp1]
      show (if (0 : Int) ≠ 0 then _ else if (putV D1 (1 - w.slot) [hd]).1 ≠ 0 then _ else (0, (putV D1 (1 - w.slot) [hd]).2, _)) = _
      rw [if_neg (fun q => q rfl), show 1 - w.slot = (((1 - w.slot).toNat : Nat) : Int) by omega, hp2]
      show (if (0 : Int) ≠ 0 then _ else (0, D2, _)) = _
      rw [if_neg (fun q => q rfl), hpn]
    unfold chkL
    rw [if_neg (by rw [h.br]; decide), hap]
    rfl
  · intro t ht
    rw [List.mem_singleton.1 ht]
    exact hs
  · show npar (D.sz - 25) s.length = _
    rw [hz', secs, secs, Nat.add_zero]
  · show placed D2.sz (w.g + 1) (readV D2 ((bsN D2 (1 - w.sg) : Nat) : Int) (segV D2)) 0 0 [s]
    have hT' := readV_size hc2.ok (n := ((bsN D (1 - w.sg) : Nat) : Int)) (by omega) (segV D) (by rw [hs']; omega)
    have hck' : ∀ k, k < segV D → chunk D2.sz (readV D2 ((bsN D (1 - w.sg) : Nat) : Int) (segV D)) k = D2.st.getD (bsN D (1 - w.sg) + k) [] := fun k hk => readV_chunk hc2 (by rw [hs']; exact hrg2.2) hk
    rw [(hbg _).1, (hbg w.sg).2]
    rw [hz'] at hT' hck' ⊢
    refine placed_app1 [] 0 0 trivial (fun k hk => ?_) ?_
    · rw [Nat.zero_add, secs, Nat.zero_add, hck' _ (by omega), hlow _ (by omega), hst1, if_pos (by omega), show bsN D (1 - w.sg) + k - bsN D (1 - w.sg) = k by omega, List.getD_eq_getElem?_getD, splitL_at hk]
      rfl
    · rw [hT', Nat.zero_add, secs, Nat.zero_add]
      exact Nat.mul_le_mul_right _ hp
  · show hGet D2.sz (D2.st.getD (1 - w.slot).toNat []) = _
    rw [hz', hst2, if_pos (by omega), Nat.sub_self]
    exact hgp
  · show (hGet D2.sz (D2.st.getD (1 - (1 - w.slot)).toNat [])).1.1 < ((w.g + 1 : Nat) : Int)
    rw [hz', show 1 - (1 - w.slot) = w.slot by omega, hst2, if_neg (by omega), hst1, if_neg (by omega), h.head]
    show (w.g : Int) < _
    omega
  · intro k hk1 hk2
    have hk1 : npar (D.sz - 25) s.length ≤ k := hk1
    rw [(hbg 0).2] at hk2
    show oldS D2.sz (w.g + 1) (D2.st.getD (bsN D2 (1 - w.sg) + k) [])
    rw [hz', (hbg _).1, hlow _ (by omega), hst1, if_neg (by omega)]
    exact (h.old2 k hk2).mono (Nat.le_succ _)
  · intro k hk2
    rw [(hbg 0).2] at hk2
    show oldS D2.sz (w.g + 1) (D2.st.getD (bsN D2 (1 - (1 - w.sg)) + k) [])
    rw [show 1 - (1 - w.sg) = w.sg by omega, hz', (hbg _).1, hlow _ (by omega), hst1, if_neg (by omega)]
    by_cases hk : w.used ≤ k
    · exact (h.old1 k hk hk2).mono (Nat.le_succ _)
    · have hck : chunk D.sz (readV D ((bsN D w.sg : Nat) : Int) (segV D)) k = D.st.getD (bsN D w.sg + k) [] := readV_chunk h.calm hrg.2 hk2
      obtain ⟨sr, t, j, q1, q2, q3, q4⟩ := placed_here now 0 0 k h.here (by rw [← h.used]; omega)
      rw [Nat.zero_add, hck] at q4
      refine .inr ⟨w.g, sr, t, j, Nat.lt_succ_self _, hgg.2, ?_, h.len t q2, q3, q4⟩
      rw [Nat.zero_add, ← h.sn] at q1
      omega
theorem calm_fresh {z c : Nat} (h1 : 64 ≤ z ∧ z ≤ 512) (h2 : 1 ≤ c ∧ c ≤ 4096) : Calm7 (Dsk.fresh z c) := ⟨Dsk.fresh_ok h1 h2, rfl, rfl⟩
theorem fresh_at {z c i : Nat} (h : i < c) : (Dsk.fresh z c).st.getD i [] = Z z := by
  show (List.replicate c (Z z)).getD i [] = Z z
  rw [List.getD_eq_getElem?_getD, List.getElem?_replicate, if_pos h]
  rfl
theorem opnB_none {D : Dsk} (hc : Calm7 D) (h4 : 4 ≤ D.sc) (hh : (hdD D).2 < 0) :
    ∃ D', opnB D = (0, D', opnW D' 1 0 1) ∧ Calm7 D' ∧ D'.sz = D.sz ∧ D'.sc = D.sc ∧ hGet D.sz (D'.st.getD 1 []) = ((1, 0), 0) ∧ ∀ i, i ≠ 1 → D'.st.getD i [] = D.st.getD i [] := by
  have hz := hc.ok.sz
  have hok : hOk (D.sz : Int) 1 0 = true := decide_eq_true ⟨by omega, by omega, by omega, by omega, by omega⟩
  have hres : hRes (D.sz : Int) 1 0 = (hPut D.sz 1 0, 0) := by rw [hRes, if_pos hok, Int.toNat_natCast]
  have hhl := hPut_len (z := D.sz) (by omega) 1 0
  have hgp := hGet_put hok (by omega) (by omega)
  obtain ⟨hd, hhd⟩ : ∃ x, hPut D.sz 1 0 = x := ⟨_, rfl⟩
  rw [hhd] at hres hhl hgp
  obtain ⟨D2, hp2, hc2, hz2, hs2, hst2⟩ := putV_calm (D := D) hc (n := 1) (l := [hd]) (by rw [List.length_singleton]; omega) (fun t ht => by rw [List.mem_singleton.1 ht]; exact hhl)
  rw [List.length_singleton] at hst2
  have hp2 : putV D 1 [hd] = (0, D2) := hp2
  refine ⟨D2, ?_, hc2, hz2, hs2, ?_, fun i hi => ?_⟩
  · unfold opnB
    rw [if_pos hh, hres]
    show (if (putV D 1 [hd]).1 ≠ 0 then _ else ((0 : Int), (putV D 1 [hd]).2, opnW (putV D 1 [hd]).2 1 0 1)) = _
    rw [hp2]
    exact if_neg (fun q => q rfl)
  · rw [hst2, if_pos (by omega)]
    exact hgp
  · rw [hst2, if_neg (by omega)]
theorem opn_calm {D : Dsk} (hc : Calm7 D) (h4 : 4 ≤ D.sc) : opn D = opnB D := by
  unfold opn
  rw [if_neg (by omega), fl_calm hc]
  show (if (0 : Int) ≠ 0 then _ else opnB D) = _
  exact if_neg (fun q => q rfl)
theorem fresh_inv {z c : Nat} (h1 : 64 ≤ z ∧ z ≤ 512) (h2 : 4 ≤ c ∧ c ≤ 4096) :
    ∃ D', opn (Dsk.fresh z c) = (0, D', ⟨1, 0, 1, 0, 0, false, false⟩, []) ∧ Inv7 D' ⟨1, 0, 1, 0, 0, false, false⟩ [] ∧ D'.sz = z ∧ D'.sc = c := by
  have hc := calm_fresh (z := z) (c := c) h1 (by omega)
  have hh0 := head_zero z
  have hhd : hdD (Dsk.fresh z c) = ((0, 0), -1) := by
    rw [hdD_calm hc (by show 2 ≤ c; omega), fresh_at (by omega), fresh_at (by omega)]
    show hStep z (hStep z ((0, 0), -1) 0 (Z z)) 1 (Z z) = _
    rw [h7_out (k := 0) (by rw [hh0.2]; exact Int.le_refl _), h7_out (by rw [hh0.2]; exact Int.le_refl _)]
  obtain ⟨D', e, hc', hz', hs', hg, hst⟩ := opnB_none hc (by show 4 ≤ c; omega) (by rw [hhd]; decide)
  have hz' : D'.sz = z := hz'
  have hs' : D'.sc = c := hs'
  have hsv : segV D' = (c - 2) / 2 := by unfold segV; rw [hs']
  have hbn : ∀ sg, 2 ≤ bsN D' sg ∧ bsN D' sg + segV D' ≤ c := fun sg => by
    have := bsN_rng (D := D') (by omega) sg
    omega
  have hold : ∀ sg k, k < segV D' → oldS D'.sz 1 (D'.st.getD (bsN D' sg + k) []) := fun sg k hk => by
    have := hbn sg
    rw [hst _ (by omega), fresh_at (by omega), hz']
    exact .inl rfl
  have hother : (hGet D'.sz (D'.st.getD 0 [])).1.1 < 1 := by
    rw [hst 0 (by decide), fresh_at (by omega), hz', hh0.2]
    decide
  have hI : Inv7 D' ⟨1, 0, 1, 0, 0, false, false⟩ [] := ⟨hc', ⟨by omega, ⟨by decide, by decide⟩, ⟨by decide, by decide⟩, ⟨by decide, by decide⟩, Nat.zero_le _, Nat.le_refl _⟩, rfl, (fun t ht => absurd ht List.not_mem_nil), rfl, rfl, trivial,
    (by rw [hz']; exact hg), hother, fun k _ hk => hold 0 k hk, fun k hk => hold (1 - 0) k hk⟩
  refine ⟨D', ?_, hI, hz', hs'⟩
  rw [opn_calm hc (by show 4 ≤ c; omega), e]
  have hs := inv_scan hI
  unfold opnW
  have hs : scanA D'.sz 1 (readV D' (baseV D' 0) (segV D')) = ([], 0) := hs
  rw [hs]
  rfl
end Go.LX
end
section
set_option maxRecDepth 100000
set_option maxHeartbeats 2000000
set_option autoImplicit false
set_option linter.unusedVariables false
set_option linter.unusedSimpArgs false
namespace Go.LX
open Go.Proofs

theorem strL_at (l : List Bz) {k : Nat} (h : k < l.length) : (strL l)[((k : Nat) : Int).toNat]? = some (CV.str (l.getD k [])) := by
  rw [Int.toNat_natCast, List.getElem?_map, List.getElem?_eq_getElem h, List.getD_eq_getElem?_getD, List.getElem?_eq_getElem h]
  rfl
def textsS : Spec := fun args H Q => match args, H with
  | [.sl 1 n cs f, .sl 1 n' cs' f'], [] => ∃ p q : List Bz, cs = strL p ∧ cs' = strL q ∧ n = p.length ∧ n' = q.length ∧ p.length ≤ 9223372036854775807 ∧ q.length ≤ 9223372036854775807 ∧ Q (.bool (decide (p = q))) []
  | _, _ => False
theorem texts_c : Meets Tryz.prog [] 18 textsS := by
  refine meets_of Γok Tryz.func18 rfl ?_
  intro args H Q h
  unfold textsS at h
  split at h
  case h_2 => exact h.elim
  rename_i n cs f n' cs' f'
  obtain ⟨p, q, rfl, rfl, rfl, rfl, hp, hq, h⟩ := h
  by_cases hlen : p.length = q.length
  case neg =>
    have e : (!decide (((p.length : Nat) : Int) = ((q.length : Nat) : Int))) = true := by rw [decide_eq_false (by omega)]; rfl
    have e2 : decide (p = q) = false := decide_eq_false (fun u => hlen (congrArg List.length u))
    rw [e2] at h
    (refine sx_sound Γok _ ?_; conv => whnf)
    (repeat (first | (refine Both.of_true e ?_; conv => whnf) | (exact Out.same; conv => whnf) | (exact Out1.same; conv => whnf) | (refine QAnd.mk ?_ ?_; conv => whnf) | (apply QStepH.go; conv => whnf) | (refine Both.lit_true ?_; conv => whnf) | (refine Both.lit_false ?_; conv => whnf) | (apply QStep.go; conv => whnf) | (refine Need.au ?_; conv => whnf) | (refine ⟨_, rfl, ?_⟩; conv => whnf)))
    exact ⟨_, _, WeakV.drop rfl, h⟩
  have e : (!decide (((p.length : Nat) : Int) = ((q.length : Nat) : Int))) = false := by rw [decide_eq_true (by omega)]; rfl
  (refine sx_sound Γok _ ?_; conv => whnf)
  (repeat (first | (refine Both.of_false e ?_; conv => whnf) | (exact Out.same; conv => whnf) | (exact Out1.same; conv => whnf) | (refine QAnd.mk ?_ ?_; conv => whnf) | (apply QStepH.go; conv => whnf) | (refine Both.lit_true ?_; conv => whnf) | (refine Both.lit_false ?_; conv => whnf) | (apply QStep.go; conv => whnf) | (refine Need.au ?_; conv => whnf) | (refine ⟨_, rfl, ?_⟩; conv => whnf)))
  refine loop_rule (fun k : Nat => ⟨[.sl 1 p.length (strL p) f, .sl 1 q.length (strL q) f', .any, .any, .any, .int .i64 (k : Int), .any, .any, .any, .any, .any, .any, .any, .any, .any, .any, .any, .any, .any, .any, .any, .any, .any, .any, .any, .any], []⟩) (fun k => k ≤ p.length ∧ p.take k = q.take k) (fun k => p.length - k) 0 ⟨Nat.zero_le _, rfl⟩ (Weak.auto ?_) ?_
  · (repeat' ((conv => whnf); first | exact True.intro | (refine And.intro ?_ ?_)))
    all_goals first | rfl | exact .eq rfl
  rintro k ⟨hk, hpq⟩
  (refine sx_sound Γok _ ?_; conv => whnf)
  (repeat (first | (exact Out.same; conv => whnf) | (exact Out1.same; conv => whnf) | (refine QAnd.mk ?_ ?_; conv => whnf) | (apply QStepH.go; conv => whnf) | (refine Both.lit_true ?_; conv => whnf) | (refine Both.lit_false ?_; conv => whnf) | (apply QStep.go; conv => whnf) | (refine Need.au ?_; conv => whnf) | (refine ⟨_, rfl, ?_⟩; conv => whnf)))
  refine Both.dec (fun hlt => ?_) (fun hge => ?_)
  · have hkl : k < p.length := by omega
    have hat := strL_at p hkl
    have hat2 := strL_at q (show k < q.length by omega)
    have hwr : IntKind.i64.wrap ((k : Int) + 1) = ((k + 1 : Nat) : Int) := by rw [wrap_i64 (by omega) (by omega)]; rfl
    have g1 : p.getD k [] = p[k] := by rw [List.getD_eq_getElem?_getD, List.getElem?_eq_getElem hkl]; rfl
    have g2 : q.getD k [] = q[k]'(by omega) := by rw [List.getD_eq_getElem?_getD, List.getElem?_eq_getElem (show k < q.length by omega)]; rfl
    by_cases hne : p.getD k [] = q.getD k []
    · have e2 : (!decide (p.getD k [] = q.getD k [])) = false := by rw [decide_eq_true hne]; rfl
      have hnext : p.take (k + 1) = q.take (k + 1) := by
        rw [List.take_succ_eq_append_getElem hkl, List.take_succ_eq_append_getElem (show k < q.length by omega), hpq, ← g1, ← g2, hne]
      (conv => whnf)
      (refine DrawVC.any Γok (by kernel_rfl) (by kernel_rfl) (by kernel_rfl) (by rfl) ?_; conv => whnf)
      (repeat (first | (refine ⟨_, hat, ?_⟩; conv => whnf) | (refine ⟨_, hat2, ?_⟩; conv => whnf) | (refine Both.of_false e2 ?_; conv => whnf) | (exact Out.same; conv => whnf) | (exact Out1.same; conv => whnf) | (refine QAnd.mk ?_ ?_; conv => whnf) | (apply QStepH.go; conv => whnf) | (refine Both.lit_true ?_; conv => whnf) | (refine Both.lit_false ?_; conv => whnf) | (apply QStep.go; conv => whnf) | (refine Need.au ?_; conv => whnf) | (refine ⟨_, rfl, ?_⟩; conv => whnf)))
      refine ⟨k + 1, ⟨by omega, hnext⟩, by omega, Weak.auto ?_⟩
      (repeat' ((conv => whnf); first | exact True.intro | (refine And.intro ?_ ?_)))
      all_goals first | rfl | exact .eq rfl | exact congrArg (SV.int .i64) hwr
    · have e2 : (!decide (p.getD k [] = q.getD k [])) = true := by rw [decide_eq_false hne]; rfl
      have e3 : decide (p = q) = false := decide_eq_false (fun u => hne (by rw [u]))
      rw [e3] at h
      (conv => whnf)
      (refine DrawVC.any Γok (by kernel_rfl) (by kernel_rfl) (by kernel_rfl) (by rfl) ?_; conv => whnf)
      (repeat (first | (refine ⟨_, hat, ?_⟩; conv => whnf) | (refine ⟨_, hat2, ?_⟩; conv => whnf) | (refine Both.of_true e2 ?_; conv => whnf) | (exact Out.same; conv => whnf) | (exact Out1.same; conv => whnf) | (refine QAnd.mk ?_ ?_; conv => whnf) | (apply QStepH.go; conv => whnf) | (refine Both.lit_true ?_; conv => whnf) | (refine Both.lit_false ?_; conv => whnf) | (apply QStep.go; conv => whnf) | (refine Need.au ?_; conv => whnf) | (refine ⟨_, rfl, ?_⟩; conv => whnf)))
      exact ⟨_, _, WeakV.drop rfl, h⟩
  · have e3 : decide (p = q) = true := by
      refine decide_eq_true ?_
      have hk1 : k = p.length := by omega
      rw [hk1, List.take_length, hlen, List.take_length] at hpq
      exact hpq
    rw [e3] at h
    (conv => whnf)
    (repeat (first | (exact Out.same; conv => whnf) | (exact Out1.same; conv => whnf) | (refine QAnd.mk ?_ ?_; conv => whnf) | (apply QStepH.go; conv => whnf) | (refine Both.lit_true ?_; conv => whnf) | (refine Both.lit_false ?_; conv => whnf) | (apply QStep.go; conv => whnf) | (refine Need.au ?_; conv => whnf) | (refine ⟨_, rfl, ?_⟩; conv => whnf)))
    exact ⟨_, _, WeakV.drop rfl, h⟩
theorem texts_k : Contract Tryz.prog [] 18 textsS := ⟨⟨⟨_, rfl, rfl, rfl⟩⟩, texts_c⟩
def textsNS : Spec := fun args H Q => match args, H with
  | [.nilsl, .nilsl], [] => Q (.bool true) []
  | _, _ => False
theorem textsN_c : Meets Tryz.prog [] 18 textsNS := by
  refine meets_of Γok Tryz.func18 rfl ?_
  intro args H Q h
  unfold textsNS at h
  split at h
  case h_2 => exact h.elim
  (refine sx_sound Γok _ ?_; conv => whnf)
  (repeat (first | (exact Out.same; conv => whnf) | (exact Out1.same; conv => whnf) | (refine QAnd.mk ?_ ?_; conv => whnf) | (apply QStepH.go; conv => whnf) | (refine Both.lit_true ?_; conv => whnf) | (refine Both.lit_false ?_; conv => whnf) | (apply QStep.go; conv => whnf) | (refine Need.au ?_; conv => whnf) | (refine ⟨_, rfl, ?_⟩; conv => whnf)))
  refine loop_rule (fun k : Nat => ⟨[.nilsl, .nilsl, .any, .any, .any, .int .i64 0, .any, .any, .any, .any, .any, .any, .any, .any, .any, .any, .any, .any, .any, .any, .any, .any, .any, .any, .any, .any], []⟩) (fun k => k = 0) (fun k => k) 0 rfl (Weak.auto ?_) ?_
  · (repeat' ((conv => whnf); first | exact True.intro | (refine And.intro ?_ ?_)))
    all_goals first | rfl | exact .eq rfl
  intro k hk
  (refine sx_sound Γok _ ?_; conv => whnf)
  (repeat (first | (exact Out.same; conv => whnf) | (exact Out1.same; conv => whnf) | (refine QAnd.mk ?_ ?_; conv => whnf) | (apply QStepH.go; conv => whnf) | (refine Both.lit_true ?_; conv => whnf) | (refine Both.lit_false ?_; conv => whnf) | (apply QStep.go; conv => whnf) | (refine Need.au ?_; conv => whnf) | (refine ⟨_, rfl, ?_⟩; conv => whnf)))
  exact ⟨_, _, WeakV.drop rfl, h⟩
theorem textsN_k : Contract Tryz.prog [] 18 textsNS := ⟨⟨⟨_, rfl, rfl, rfl⟩⟩, textsN_c⟩
end Go.LX
end
section
set_option maxRecDepth 100000
set_option maxHeartbeats 1000000
set_option autoImplicit false
set_option linter.unusedVariables false
set_option linter.unusedSimpArgs false
namespace Go.LX
open Go.Proofs

def mvF (n i : Nat) : Nat → Option Nat := fun j => some (bif Nat.beq j i then n else j)
def mvH (H : List LObj) (i : Nat) : List LObj := ((H.set i .gone).map (LObj.ren (mvF H.length i))) ++ [(H.getD i .gone).ren (mvF H.length i)]
theorem mvF_eq (n i : Nat) : mvF n i i = some n := by
  unfold mvF
  rw [show Nat.beq i i = true from Nat.beq_refl i]
  rfl
theorem mvF_ne {n i j : Nat} (h : j ≠ i) : mvF n i j = some j := by
  unfold mvF
  cases hb : Nat.beq j i with
  | true => exact absurd (Nat.eq_of_beq_eq_true hb) h
  | false => rfl
theorem mvH_get {H : List LObj} {i k : Nat} {o' : LObj} (hi : i < H.length) (h : (mvH H i)[k]? = some o') :
    (∃ j o, H[j]? = some o ∧ o' = o.ren (mvF H.length i) ∧ ((j = k ∧ k ≠ i ∧ k < H.length) ∨ (j = i ∧ k = H.length))) ∨ (k = i ∧ o' = .gone) := by
  unfold mvH at h
  rw [List.getElem?_append] at h
  split at h
  · rename_i hk
    rw [List.length_map, List.length_set] at hk
    rw [List.getElem?_map] at h
    by_cases hki : k = i
    · rw [hki, List.getElem?_set_self hi] at h
      exact .inr ⟨hki, (Option.some.inj h).symm⟩
    · rw [List.getElem?_set_ne (fun q => hki q.symm), List.getElem?_eq_getElem hk] at h
      exact .inl ⟨k, H[k], List.getElem?_eq_getElem hk, (Option.some.inj h).symm, .inl ⟨rfl, hki, hk⟩⟩
  · rename_i hk
    rw [List.length_map, List.length_set] at h hk
    have hk2 : k = H.length := by
      rcases Nat.lt_or_ge (k - H.length) 1 with q | q
      · omega
      · rw [List.getElem?_eq_none (by simpa using q)] at h
        cases h
    rw [hk2, Nat.sub_self] at h
    refine .inl ⟨i, H[i], List.getElem?_eq_getElem hi, ?_, .inr ⟨rfl, hk2⟩⟩
    rw [List.getElem?_cons_zero, List.getD_eq_getElem?_getD, List.getElem?_eq_getElem hi] at h
    exact (Option.some.inj h).symm
theorem Weak.move {G : Gl} {N : Nat} {s : LS} (i : Nat) (hi : i < s.h.length) : Weak G N s ⟨SV.renL (mvF s.h.length i) s.t, mvH s.h i⟩ := by
  intro A E w a hA hs
  have hn := hs.rel.len
  have hin : i < E.n := by rw [← hn]; exact hi
  have le := E.le_add (E.b i) (E.v i)
  have nam : E.Named (E.add (E.b i) (E.v i)) (mvF s.h.length i) := by
    refine ⟨fun j k hj hk => ?_, fun j k hj hk => ?_, fun j k hj hk => ?_, fun b hb => hb⟩
    all_goals
      by_cases hji : j = i
      · rw [hji, mvF_eq] at hk
        obtain rfl := Option.some.inj hk
        first
          | (show s.h.length < E.n + 1; omega)
          | (rw [hn, Env.add_b, hji])
          | (rw [hn, Env.add_v, hji])
      · rw [mvF_ne hji] at hk
        obtain rfl := Option.some.inj hk
        first
          | (show j < E.n + 1; omega)
          | exact le.b j hj
          | exact le.v j hj
  have hsrc : ∀ {k : Nat} {o' : LObj}, (mvH s.h i)[k]? = some o' → ∀ b, foot (E.add (E.b i) (E.v i)) k o' = some b → ∃ j o, s.h[j]? = some o ∧ foot E j o = some b ∧ ((j = k ∧ k ≠ i ∧ k < s.h.length) ∨ (j = i ∧ k = s.h.length)) := by
    intro k o' hk b hb
    rcases mvH_get hi hk with ⟨j, o, h1, rfl, h2⟩ | ⟨_, rfl⟩
    · refine ⟨j, o, h1, ?_, h2⟩
      have hj : j < E.n := by rw [← hn]; exact lt_of_get h1
      have hf : mvF s.h.length i j = some k := by
        rcases h2 with ⟨rfl, h3, _⟩ | ⟨rfl, rfl⟩
        · exact mvF_ne h3
        · exact mvF_eq _ _
      rw [← foot_ren nam hj hf]
      exact hb
    · cases hb
  have hfo : ∀ b, InFoot (E.add (E.b i) (E.v i)) (mvH s.h i) b → InFoot E s.h b := by
    rintro b ⟨k, o', hk, hf⟩
    obtain ⟨j, o, h1, h2, _⟩ := hsrc hk b hf
    exact ⟨j, o, h1, h2⟩
  have hrel : Rel (E.add (E.b i) (E.v i)) (mvH s.h i) w := by
    refine ⟨?_, ?_, ?_, fun b hb => hs.rel.imm b (hfo b hb), hs.rel.ltI⟩
    · show (mvH s.h i).length = E.n + 1
      unfold mvH
      rw [List.length_append, List.length_map, List.length_set, hn]
      rfl
    · intro k o' hk
      rcases mvH_get hi hk with ⟨j, o, h1, rfl, h2⟩ | ⟨_, rfl⟩
      · have hj : j < E.n := by rw [← hn]; exact lt_of_get h1
        have hf : mvF s.h.length i j = some k := by
          rcases h2 with ⟨rfl, h3, _⟩ | ⟨rfl, rfl⟩
          · exact mvF_ne h3
          · exact mvF_eq _ _
        exact ObjR.ren nam hj hf (hs.rel.obj j o h1)
      · trivial
    · intro k k' o o' b hne hk hk' hf hf'
      obtain ⟨j, x, h1, h2, h3⟩ := hsrc hk b hf
      obtain ⟨j', x', h1', h2', h3'⟩ := hsrc hk' b hf'
      refine hs.rel.sep j j' x x' b ?_ h1 h1' h2 h2'
      intro q
      omega
  exact ⟨_, ⟨hs.anc.trans le, hs.vals.ren nam, hrel, ⟨hs.gl.ok⟩, hs.nod⟩, ⟨Nat.le_refl _, fun _ _ _ => rfl, rfl, rfl, rfl, fun b hb => .inr (hfo b hb), fun b h => h, fun b h => .inl h⟩⟩
theorem WeakV.move {G : Gl} {N : Nat} {r : SV} {H : List LObj} (i : Nat) (hi : i < H.length) : WeakV G N r H (r.ren (mvF H.length i)) (mvH H i) := WeakV.of (Weak.move (s := ⟨[r], H⟩) i hi)
end Go.LX
end
section
set_option maxRecDepth 100000
set_option maxHeartbeats 2000000
set_option autoImplicit false
set_option linter.unusedVariables false
set_option linter.unusedSimpArgs false
namespace Go.LX
open Go.Proofs

structure Act7 where
  kd : Int
  n : Int
  s : Bs
  las : List Bool
  torn : List Int
def lastsV (a : Act7) : List (Bool × Int) := (List.range a.las.length).map fun i => (a.las.getD i false, a.torn.getD i 0)
end Go.LX
end
section
set_option maxRecDepth 100000
set_option maxHeartbeats 2000000
set_option autoImplicit false
set_option linter.unusedVariables false
set_option linter.unusedSimpArgs false
namespace Go.LX
open Go.Proofs

structure P7 where
  D : Dsk
  w : Option W7
  e : Int
  l : List Bs
def prB (P : P7) : List LObj :=
  match P.w with
  | none => [.cells [.ptr 1 0, .nil, .int .i64 P.e, .nilsl, .ptr 4 0, .nil] 33,
      .cells [.int .i64 (P.D.sz : Int), .int .i64 (P.D.sc : Int), .own 2, .own 3, .int .i64 (P.D.ar : Int)] 79, .own 9 1 P.D.st.length (P.D.st.map CV.str) true, .own 91 2 P.D.buf.length (P.D.buf.flatMap wrEn) true,
      .cells [.int .i64 (P.D.sz : Int), .int .i64 (P.D.sc : Int), .str P.D.st.flatten, .own 5, .int .i64 (P.D.ar : Int)] 59, .own 135 2 P.D.buf.length (P.D.buf.flatMap wrEn) true]
  | some w => [.cells [.ptr 1 0, .ptr 4 0, .int .i64 P.e, .sl 1 P.l.length (P.l.map CV.str) false, .ptr 5 0, .ptr 7 0] 33,
      .cells [.int .i64 (P.D.sz : Int), .int .i64 (P.D.sc : Int), .own 2, .own 3, .int .i64 (P.D.ar : Int)] 79, .own 9 1 P.D.st.length (P.D.st.map CV.str) true, .own 91 2 P.D.buf.length (P.D.buf.flatMap wrEn) true,
      .cells [.ptr 1 0, .int .u64 (w.g : Int), .int .i64 w.sg, .int .i64 w.slot, .int .i64 (w.used : Int), .int .u64 (w.sn : Int), .bool w.ready, .bool w.broken] 74,
      .cells [.int .i64 (P.D.sz : Int), .int .i64 (P.D.sc : Int), .str P.D.st.flatten, .own 6, .int .i64 (P.D.ar : Int)] 59, .own 135 2 P.D.buf.length (P.D.buf.flatMap wrEn) true,
      .cells [.ptr 5 0, .int .u64 (w.g : Int), .int .i64 w.sg, .int .i64 w.slot, .int .i64 (w.used : Int), .int .i64 (w.sn : Int), .bool w.ready, .bool w.broken] 63]
def prA (b : Bool) (P : P7) : List LObj :=
  match b, P.w with
  | true, some w => [.cells [.ptr 1 0, .ptr 8 0, .int .i64 P.e, .sl 1 P.l.length (P.l.map CV.str) false, .ptr 5 0, .ptr 9 0] 33,
      .cells [.int .i64 (P.D.sz : Int), .int .i64 (P.D.sc : Int), .own 2, .own 10, .int .i64 (P.D.ar : Int)] 79, .own 9 1 P.D.st.length (P.D.st.map CV.str) true, .gone, .gone,
      .cells [.int .i64 (P.D.sz : Int), .int .i64 (P.D.sc : Int), .str P.D.st.flatten, .own 11, .int .i64 (P.D.ar : Int)] 59, .gone, .gone,
      .cells [.ptr 1 0, .int .u64 (w.g : Int), .int .i64 w.sg, .int .i64 w.slot, .int .i64 (w.used : Int), .int .u64 (w.sn : Int), .bool w.ready, .bool w.broken] 74,
      .cells [.ptr 5 0, .int .u64 (w.g : Int), .int .i64 w.sg, .int .i64 w.slot, .int .i64 (w.used : Int), .int .i64 (w.sn : Int), .bool w.ready, .bool w.broken] 63,
      .own 91 2 P.D.buf.length (P.D.buf.flatMap wrEn) true, .own 135 2 P.D.buf.length (P.D.buf.flatMap wrEn) true]
  | true, none => [.cells [.ptr 1 0, .nil, .int .i64 P.e, .nilsl, .ptr 5 0, .nil] 33,
      .cells [.int .i64 (P.D.sz : Int), .int .i64 (P.D.sc : Int), .own 2, .own 8, .int .i64 (P.D.ar : Int)] 79, .own 9 1 P.D.st.length (P.D.st.map CV.str) true, .gone, .gone,
      .cells [.int .i64 (P.D.sz : Int), .int .i64 (P.D.sc : Int), .str P.D.st.flatten, .own 9, .int .i64 (P.D.ar : Int)] 59, .gone, .gone,
      .own 91 2 P.D.buf.length (P.D.buf.flatMap wrEn) true, .own 135 2 P.D.buf.length (P.D.buf.flatMap wrEn) true]
  | false, some w => [.cells [.ptr 1 0, .ptr 6 0, .int .i64 P.e, .sl 1 P.l.length (P.l.map CV.str) false, .ptr 4 0, .ptr 7 0] 33,
      .cells [.int .i64 (P.D.sz : Int), .int .i64 (P.D.sc : Int), .own 2, .own 8, .int .i64 (P.D.ar : Int)] 79, .own 9 1 P.D.st.length (P.D.st.map CV.str) true, .gone,
      .cells [.int .i64 (P.D.sz : Int), .int .i64 (P.D.sc : Int), .str P.D.st.flatten, .own 9, .int .i64 (P.D.ar : Int)] 59, .gone,
      .cells [.ptr 1 0, .int .u64 (w.g : Int), .int .i64 w.sg, .int .i64 w.slot, .int .i64 (w.used : Int), .int .u64 (w.sn : Int), .bool w.ready, .bool w.broken] 74,
      .cells [.ptr 4 0, .int .u64 (w.g : Int), .int .i64 w.sg, .int .i64 w.slot, .int .i64 (w.used : Int), .int .i64 (w.sn : Int), .bool w.ready, .bool w.broken] 63,
      .own 91 2 P.D.buf.length (P.D.buf.flatMap wrEn) true, .own 135 2 P.D.buf.length (P.D.buf.flatMap wrEn) true]
  | false, none => [.cells [.ptr 1 0, .nil, .int .i64 P.e, .nilsl, .ptr 4 0, .nil] 33,
      .cells [.int .i64 (P.D.sz : Int), .int .i64 (P.D.sc : Int), .own 2, .own 6, .int .i64 (P.D.ar : Int)] 79, .own 9 1 P.D.st.length (P.D.st.map CV.str) true, .gone,
      .cells [.int .i64 (P.D.sz : Int), .int .i64 (P.D.sc : Int), .str P.D.st.flatten, .own 7, .int .i64 (P.D.ar : Int)] 59, .gone,
      .own 91 2 P.D.buf.length (P.D.buf.flatMap wrEn) true, .own 135 2 P.D.buf.length (P.D.buf.flatMap wrEn) true]
noncomputable def popV (P : P7) : P7 := if (opn P.D).1 = 0 then ⟨(opn P.D).2.1, some (opn P.D).2.2.1, 0, (opn P.D).2.2.2⟩ else ⟨(opn P.D).2.1, none, (opn P.D).1, []⟩
def likeS : Spec := fun args H Q => match args, H with
  | [.sl 1 n cs f, .sl 1 n' cs' f'], [] => ∃ p : List Bz, cs = strL p ∧ cs' = strL p ∧ n = p.length ∧ n' = p.length ∧ p.length ≤ 9223372036854775807 ∧ Q (.bool true) []
  | _, _ => False
theorem like_k : Contract Tryz.prog [] 18 likeS := texts_k.imp fun args H Q h => by
  unfold likeS at h
  split at h
  case h_2 => exact h.elim
  obtain ⟨p, rfl, rfl, rfl, rfl, h1, h⟩ := h
  refine ⟨p, p, rfl, rfl, rfl, rfl, h1, h1, ?_⟩
  rw [decide_eq_true rfl]
  exact h
def popS : Spec := fun args H Q => match args with
  | [.ptr 0 0] => ∃ P : P7, H = prB P ∧ P.D.Ok ∧ P.D.buf.length ≤ 900000 ∧ Q (.bool true) (prA P.w.isSome (popV P))
  | _ => False
theorem pop_c : Meets Tryz.prog [] 29 popS := by
  refine meets_of Γok Tryz.func29 rfl ?_
  intro args H Q h
  unfold popS at h
  split at h
  case h_2 => exact h.elim
  obtain ⟨⟨D, w, e, l⟩, rfl, ho, hb, h⟩ := h
  have ho : D.Ok := ho
  have hb : D.buf.length ≤ 900000 := hb
  obtain ⟨e1, D1, w1, l1, hop⟩ : ∃ e1 D1 w1 l1, opn D = (e1, D1, w1, l1) := ⟨_, _, _, _, rfl⟩
  have hk := opn_ok ho hb hop
  have c0 : decide (e1 = e1) = true := decide_eq_true rfl
  by_cases he : e1 = 0
  · have hll : l1.length ≤ 9223372036854775807 := by
      obtain ⟨h4, hw, hl, _⟩ := hk.2.2.2.1 he
      have := hw.sn
      have := hw.used
      have := seg_bd hk.1
      omega
    have hP : popV ⟨D, w, e, l⟩ = ⟨D1, some w1, 0, l1⟩ := by
      unfold popV
      rw [hop]
      exact if_pos he
    rw [hP] at h
    clear hk hP
    cases w with
    | none =>
      have h : Q (.bool true) (prA false ⟨D1, some w1, 0, l1⟩) := h
      (refine sx_sound Γok _ ?_; conv => whnf)
      (repeat (first | (exact Out.same; conv => whnf) | (exact Out1.same; conv => whnf) | (refine QAnd.mk ?_ ?_; conv => whnf) | (apply QStepH.go; conv => whnf) | (refine Both.lit_true ?_; conv => whnf) | (refine Both.lit_false ?_; conv => whnf) | (apply QStep.go; conv => whnf) | (refine Need.au ?_; conv => whnf) | (refine ⟨_, rfl, ?_⟩; conv => whnf)))
      refine CallVC.auto openW_k (dIn_mk ho ⟨hb, fun e2 D2 w2 l2 h2 => ⟨fun hne => ?_, fun heq => ?_⟩⟩)
      · exact absurd ((Prod.mk.inj (h2.trans hop)).1.trans he) hne
      obtain ⟨u1, u2⟩ := Prod.mk.inj (h2.trans hop)
      obtain ⟨u2, u3⟩ := Prod.mk.inj u2
      obtain ⟨u3, u4⟩ := Prod.mk.inj u3
      subst u1 u2 u3 u4
      clear h2
      (conv => whnf)
      (repeat (first | (exact Out.same; conv => whnf) | (exact Out1.same; conv => whnf) | (refine QAnd.mk ?_ ?_; conv => whnf) | (apply QStepH.go; conv => whnf) | (refine Both.lit_true ?_; conv => whnf) | (refine Both.lit_false ?_; conv => whnf) | (apply QStep.go; conv => whnf) | (refine Need.au ?_; conv => whnf) | (refine ⟨_, rfl, ?_⟩; conv => whnf)))
      refine CallVC.auto ropen_k (rIn_mk ho ⟨hb, fun e3 D3 w3 l3 h3 => ⟨fun hne => ?_, fun heq3 => ?_⟩⟩)
      · exact absurd ((Prod.mk.inj (h3.trans hop)).1.trans he) hne
      obtain ⟨v1, v2⟩ := Prod.mk.inj (h3.trans hop)
      obtain ⟨v2, v3⟩ := Prod.mk.inj v2
      obtain ⟨v3, v4⟩ := Prod.mk.inj v3
      subst v1 v2 v3 v4
      clear h3
      (conv => whnf)
      (repeat (first | (exact Out.same; conv => whnf) | (exact Out1.same; conv => whnf) | (refine QAnd.mk ?_ ?_; conv => whnf) | (apply QStepH.go; conv => whnf) | (refine Both.lit_true ?_; conv => whnf) | (refine Both.lit_false ?_; conv => whnf) | (apply QStep.go; conv => whnf) | (refine Need.au ?_; conv => whnf) | (refine ⟨_, rfl, ?_⟩; conv => whnf)))
      (refine DrawVC.any Γok (by kernel_rfl) (by kernel_rfl) (by kernel_rfl) (by rfl) ?_; conv => whnf)
      (repeat (first | (refine CallVC.auto like_k ⟨l3, rfl, rfl, rfl, rfl, hll, ?_⟩; conv => whnf) | (exact Out.same; conv => whnf) | (exact Out1.same; conv => whnf) | (refine QAnd.mk ?_ ?_; conv => whnf) | (apply QStepH.go; conv => whnf) | (refine Both.lit_true ?_; conv => whnf) | (refine Both.lit_false ?_; conv => whnf) | (apply QStep.go; conv => whnf) | (refine Need.au ?_; conv => whnf) | (refine ⟨_, rfl, ?_⟩; conv => whnf)))
      refine ⟨_, _, WeakV.auto ?_, h⟩
      (repeat' ((conv => whnf); first | exact True.intro | (refine And.intro ?_ ?_)))
      all_goals first | rfl | exact .eq rfl
    | some w0 =>
      have h : Q (.bool true) (prA true ⟨D1, some w1, 0, l1⟩) := h
      (refine sx_sound Γok _ ?_; conv => whnf)
      (repeat (first | (exact Out.same; conv => whnf) | (exact Out1.same; conv => whnf) | (refine QAnd.mk ?_ ?_; conv => whnf) | (apply QStepH.go; conv => whnf) | (refine Both.lit_true ?_; conv => whnf) | (refine Both.lit_false ?_; conv => whnf) | (apply QStep.go; conv => whnf) | (refine Need.au ?_; conv => whnf) | (refine ⟨_, rfl, ?_⟩; conv => whnf)))
      refine CallVC.auto openW_k (dIn_mk ho ⟨hb, fun e2 D2 w2 l2 h2 => ⟨fun hne => ?_, fun heq => ?_⟩⟩)
      · exact absurd ((Prod.mk.inj (h2.trans hop)).1.trans he) hne
      obtain ⟨u1, u2⟩ := Prod.mk.inj (h2.trans hop)
      obtain ⟨u2, u3⟩ := Prod.mk.inj u2
      obtain ⟨u3, u4⟩ := Prod.mk.inj u3
      subst u1 u2 u3 u4
      clear h2
      (conv => whnf)
      (repeat (first | (exact Out.same; conv => whnf) | (exact Out1.same; conv => whnf) | (refine QAnd.mk ?_ ?_; conv => whnf) | (apply QStepH.go; conv => whnf) | (refine Both.lit_true ?_; conv => whnf) | (refine Both.lit_false ?_; conv => whnf) | (apply QStep.go; conv => whnf) | (refine Need.au ?_; conv => whnf) | (refine ⟨_, rfl, ?_⟩; conv => whnf)))
      refine CallVC.auto ropen_k (rIn_mk ho ⟨hb, fun e3 D3 w3 l3 h3 => ⟨fun hne => ?_, fun heq3 => ?_⟩⟩)
      · exact absurd ((Prod.mk.inj (h3.trans hop)).1.trans he) hne
      obtain ⟨v1, v2⟩ := Prod.mk.inj (h3.trans hop)
      obtain ⟨v2, v3⟩ := Prod.mk.inj v2
      obtain ⟨v3, v4⟩ := Prod.mk.inj v3
      subst v1 v2 v3 v4
      clear h3
      (conv => whnf)
      (repeat (first | (exact Out.same; conv => whnf) | (exact Out1.same; conv => whnf) | (refine QAnd.mk ?_ ?_; conv => whnf) | (apply QStepH.go; conv => whnf) | (refine Both.lit_true ?_; conv => whnf) | (refine Both.lit_false ?_; conv => whnf) | (apply QStep.go; conv => whnf) | (refine Need.au ?_; conv => whnf) | (refine ⟨_, rfl, ?_⟩; conv => whnf)))
      (refine DrawVC.any Γok (by kernel_rfl) (by kernel_rfl) (by kernel_rfl) (by rfl) ?_; conv => whnf)
      (repeat (first | (refine CallVC.auto like_k ⟨l3, rfl, rfl, rfl, rfl, hll, ?_⟩; conv => whnf) | (exact Out.same; conv => whnf) | (exact Out1.same; conv => whnf) | (refine QAnd.mk ?_ ?_; conv => whnf) | (apply QStepH.go; conv => whnf) | (refine Both.lit_true ?_; conv => whnf) | (refine Both.lit_false ?_; conv => whnf) | (apply QStep.go; conv => whnf) | (refine Need.au ?_; conv => whnf) | (refine ⟨_, rfl, ?_⟩; conv => whnf)))
      refine ⟨_, _, WeakV.auto ?_, h⟩
      (repeat' ((conv => whnf); first | exact True.intro | (refine And.intro ?_ ?_)))
      all_goals first | rfl | exact .eq rfl
  · have hP : popV ⟨D, w, e, l⟩ = ⟨D1, none, e1, []⟩ := by
      unfold popV
      rw [hop]
      exact if_neg he
    rw [hP] at h
    clear hk hP
    cases w with
    | none =>
      have h : Q (.bool true) (prA false ⟨D1, none, e1, []⟩) := h
      (refine sx_sound Γok _ ?_; conv => whnf)
      (repeat (first | (exact Out.same; conv => whnf) | (exact Out1.same; conv => whnf) | (refine QAnd.mk ?_ ?_; conv => whnf) | (apply QStepH.go; conv => whnf) | (refine Both.lit_true ?_; conv => whnf) | (refine Both.lit_false ?_; conv => whnf) | (apply QStep.go; conv => whnf) | (refine Need.au ?_; conv => whnf) | (refine ⟨_, rfl, ?_⟩; conv => whnf)))
      refine CallVC.auto openW_k (dIn_mk ho ⟨hb, fun e2 D2 w2 l2 h2 => ⟨fun hne => ?_, fun heq => ?_⟩⟩)
      rotate_left
      · exact absurd ((Prod.mk.inj (h2.trans hop)).1.symm.trans heq) he
      obtain ⟨u1, u2⟩ := Prod.mk.inj (h2.trans hop)
      obtain ⟨u2, u3⟩ := Prod.mk.inj u2
      obtain ⟨u3, u4⟩ := Prod.mk.inj u3
      subst u1 u2 u3 u4
      clear h2
      (conv => whnf)
      (repeat (first | (exact Out.same; conv => whnf) | (exact Out1.same; conv => whnf) | (refine QAnd.mk ?_ ?_; conv => whnf) | (apply QStepH.go; conv => whnf) | (refine Both.lit_true ?_; conv => whnf) | (refine Both.lit_false ?_; conv => whnf) | (apply QStep.go; conv => whnf) | (refine Need.au ?_; conv => whnf) | (refine ⟨_, rfl, ?_⟩; conv => whnf)))
      refine CallVC.auto ropen_k (rIn_mk ho ⟨hb, fun e3 D3 w3 l3 h3 => ⟨fun hne => ?_, fun heq3 => ?_⟩⟩)
      rotate_left
      · exact absurd ((Prod.mk.inj (h3.trans hop)).1.symm.trans heq3) he
      obtain ⟨v1, v2⟩ := Prod.mk.inj (h3.trans hop)
      obtain ⟨v2, v3⟩ := Prod.mk.inj v2
      obtain ⟨v3, v4⟩ := Prod.mk.inj v3
      subst v1 v2 v3 v4
      clear h3
      (conv => whnf)
      (repeat (first | (exact Out.same; conv => whnf) | (exact Out1.same; conv => whnf) | (refine QAnd.mk ?_ ?_; conv => whnf) | (apply QStepH.go; conv => whnf) | (refine Both.lit_true ?_; conv => whnf) | (refine Both.lit_false ?_; conv => whnf) | (apply QStep.go; conv => whnf) | (refine Need.au ?_; conv => whnf) | (refine ⟨_, rfl, ?_⟩; conv => whnf)))
      (refine DrawVC.any Γok (by kernel_rfl) (by kernel_rfl) (by kernel_rfl) (by rfl) ?_; conv => whnf)
      (repeat (first | (refine Both.of_true c0 ?_; conv => whnf) | (exact Out.same; conv => whnf) | (exact Out1.same; conv => whnf) | (refine QAnd.mk ?_ ?_; conv => whnf) | (apply QStepH.go; conv => whnf) | (refine Both.lit_true ?_; conv => whnf) | (refine Both.lit_false ?_; conv => whnf) | (apply QStep.go; conv => whnf) | (refine Need.au ?_; conv => whnf) | (refine ⟨_, rfl, ?_⟩; conv => whnf) | (refine CallVC.auto textsN_k ?_; conv => whnf)))
      refine ⟨_, _, WeakV.auto ?_, h⟩
      (repeat' ((conv => whnf); first | exact True.intro | (refine And.intro ?_ ?_)))
      all_goals first | rfl | exact .eq rfl
    | some w0 =>
      have h : Q (.bool true) (prA true ⟨D1, none, e1, []⟩) := h
      (refine sx_sound Γok _ ?_; conv => whnf)
      (repeat (first | (exact Out.same; conv => whnf) | (exact Out1.same; conv => whnf) | (refine QAnd.mk ?_ ?_; conv => whnf) | (apply QStepH.go; conv => whnf) | (refine Both.lit_true ?_; conv => whnf) | (refine Both.lit_false ?_; conv => whnf) | (apply QStep.go; conv => whnf) | (refine Need.au ?_; conv => whnf) | (refine ⟨_, rfl, ?_⟩; conv => whnf)))
      refine CallVC.auto openW_k (dIn_mk ho ⟨hb, fun e2 D2 w2 l2 h2 => ⟨fun hne => ?_, fun heq => ?_⟩⟩)
      rotate_left
      · exact absurd ((Prod.mk.inj (h2.trans hop)).1.symm.trans heq) he
      obtain ⟨u1, u2⟩ := Prod.mk.inj (h2.trans hop)
      obtain ⟨u2, u3⟩ := Prod.mk.inj u2
      obtain ⟨u3, u4⟩ := Prod.mk.inj u3
      subst u1 u2 u3 u4
      clear h2
      (conv => whnf)
      (repeat (first | (exact Out.same; conv => whnf) | (exact Out1.same; conv => whnf) | (refine QAnd.mk ?_ ?_; conv => whnf) | (apply QStepH.go; conv => whnf) | (refine Both.lit_true ?_; conv => whnf) | (refine Both.lit_false ?_; conv => whnf) | (apply QStep.go; conv => whnf) | (refine Need.au ?_; conv => whnf) | (refine ⟨_, rfl, ?_⟩; conv => whnf)))
      refine CallVC.auto ropen_k (rIn_mk ho ⟨hb, fun e3 D3 w3 l3 h3 => ⟨fun hne => ?_, fun heq3 => ?_⟩⟩)
      rotate_left
      · exact absurd ((Prod.mk.inj (h3.trans hop)).1.symm.trans heq3) he
      obtain ⟨v1, v2⟩ := Prod.mk.inj (h3.trans hop)
      obtain ⟨v2, v3⟩ := Prod.mk.inj v2
      obtain ⟨v3, v4⟩ := Prod.mk.inj v3
      subst v1 v2 v3 v4
      clear h3
      (conv => whnf)
      (repeat (first | (exact Out.same; conv => whnf) | (exact Out1.same; conv => whnf) | (refine QAnd.mk ?_ ?_; conv => whnf) | (apply QStepH.go; conv => whnf) | (refine Both.lit_true ?_; conv => whnf) | (refine Both.lit_false ?_; conv => whnf) | (apply QStep.go; conv => whnf) | (refine Need.au ?_; conv => whnf) | (refine ⟨_, rfl, ?_⟩; conv => whnf)))
      (refine DrawVC.any Γok (by kernel_rfl) (by kernel_rfl) (by kernel_rfl) (by rfl) ?_; conv => whnf)
      (repeat (first | (refine Both.of_true c0 ?_; conv => whnf) | (exact Out.same; conv => whnf) | (exact Out1.same; conv => whnf) | (refine QAnd.mk ?_ ?_; conv => whnf) | (apply QStepH.go; conv => whnf) | (refine Both.lit_true ?_; conv => whnf) | (refine Both.lit_false ?_; conv => whnf) | (apply QStep.go; conv => whnf) | (refine Need.au ?_; conv => whnf) | (refine ⟨_, rfl, ?_⟩; conv => whnf) | (refine CallVC.auto textsN_k ?_; conv => whnf)))
      refine ⟨_, _, WeakV.auto ?_, h⟩
      (repeat' ((conv => whnf); first | exact True.intro | (refine And.intro ?_ ?_)))
      all_goals first | rfl | exact .eq rfl
theorem pop_k : Contract Tryz.prog [] 29 popS := ⟨⟨⟨_, rfl, rfl, rfl⟩⟩, pop_c⟩
def new7S : Spec := fun args H Q => match args, H with
  | [.int .i64 z, .int .i64 c], [] => okG z c = true ∧ Q (.tuple [.ptr 0 0, .int .i64 0]) (dB (Dsk.fresh z.toNat c.toNat))
  | _, _ => False
theorem new7_k : Contract Tryz.prog [] 27 new7S := new_k.imp fun args H Q h => by
  unfold new7S at h
  split at h
  case h_2 => exact h.elim
  obtain ⟨h1, h2⟩ := h
  show _ ∧ _
  exact ⟨fun h0 => absurd (h1.symm.trans h0) (by decide), fun _ => h2⟩
noncomputable def madeV (z c : Nat) : P7 := popV ⟨Dsk.fresh z c, none, 0, []⟩
def madeS7 : Spec := fun args H Q => match args, H with
  | [.int .i64 z, .int .i64 c], [] => okG z c = true ∧ Q (.ptr 0 0) (prB (madeV z.toNat c.toNat))
  | _, _ => False
theorem made7_c : Meets Tryz.prog [] 8 madeS7 := by
  refine meets_of Γok Tryz.func8 rfl ?_
  intro args H Q h
  unfold madeS7 at h
  split at h
  case h_2 => exact h.elim
  rename_i z c
  obtain ⟨hz, h⟩ := h
  have hk := of_decide_eq_true hz
  have ok0 := Dsk.fresh_ok (z := z.toNat) (c := c.toNat) (by omega) (by omega)
  have hb0 : (Dsk.fresh z.toNat c.toNat).buf.length ≤ 900000 := by show 0 ≤ 900000; decide
  obtain ⟨⟨D1, w1, e1, l1⟩, hP⟩ : ∃ P, madeV z.toNat c.toNat = P := ⟨_, rfl⟩
  have hP2 : popV ⟨Dsk.fresh z.toNat c.toNat, none, 0, []⟩ = ⟨D1, w1, e1, l1⟩ := hP
  rw [hP] at h
  (refine sx_sound Γok _ ?_; conv => whnf)
  (repeat (first | (refine CallVC.auto new7_k ⟨hz, ?_⟩; conv => whnf) | (refine CallVC.auto d4rnew_k ⟨hz, ?_⟩; conv => whnf) | (exact Out.same; conv => whnf) | (exact Out1.same; conv => whnf) | (refine QAnd.mk ?_ ?_; conv => whnf) | (apply QStepH.go; conv => whnf) | (refine Both.lit_true ?_; conv => whnf) | (refine Both.lit_false ?_; conv => whnf) | (apply QStep.go; conv => whnf) | (refine Need.au ?_; conv => whnf) | (refine ⟨_, rfl, ?_⟩; conv => whnf)))
  refine CallVC.auto pop_k ⟨⟨Dsk.fresh z.toNat c.toNat, none, 0, []⟩, rfl, ok0, hb0, ?_⟩
  rw [hP2]
  cases w1 with
  | none =>
    (conv => whnf)
    (repeat (first | (exact Out.same; conv => whnf) | (exact Out1.same; conv => whnf) | (refine QAnd.mk ?_ ?_; conv => whnf) | (apply QStepH.go; conv => whnf) | (refine Both.lit_true ?_; conv => whnf) | (refine Both.lit_false ?_; conv => whnf) | (apply QStep.go; conv => whnf) | (refine Need.au ?_; conv => whnf) | (refine ⟨_, rfl, ?_⟩; conv => whnf)))
    refine ⟨_, _, WeakV.auto ?_, h⟩
    (repeat' ((conv => whnf); first | exact True.intro | (refine And.intro ?_ ?_)))
    all_goals first | rfl | exact .eq rfl
  | some w1 =>
    (conv => whnf)
    (repeat (first | (exact Out.same; conv => whnf) | (exact Out1.same; conv => whnf) | (refine QAnd.mk ?_ ?_; conv => whnf) | (apply QStepH.go; conv => whnf) | (refine Both.lit_true ?_; conv => whnf) | (refine Both.lit_false ?_; conv => whnf) | (apply QStep.go; conv => whnf) | (refine Need.au ?_; conv => whnf) | (refine ⟨_, rfl, ?_⟩; conv => whnf)))
    refine ⟨_, _, WeakV.auto ?_, h⟩
    (repeat' ((conv => whnf); first | exact True.intro | (refine And.intro ?_ ?_)))
    all_goals first | rfl | exact .eq rfl
theorem made7_k : Contract Tryz.prog [] 8 madeS7 := ⟨⟨⟨_, rfl, rfl, rfl⟩⟩, made7_c⟩
end Go.LX
end
section
set_option maxRecDepth 100000
set_option maxHeartbeats 2000000
set_option autoImplicit false
set_option linter.unusedVariables false
set_option linter.unusedSimpArgs false
namespace Go.LX
open Go.Proofs

noncomputable def doV (P : P7) (a : Act7) : P7 :=
  if a.kd = 0 then (match P.w with | none => P | some w => ⟨(appL P.D w a.s).2.1, some (appL P.D w a.s).2.2, (appL P.D w a.s).1, P.l⟩)
  else if a.kd = 1 then (match P.w with | none => P | some w => ⟨(chkL P.D w a.s).2.1, some (chkL P.D w a.s).2.2, (chkL P.D w a.s).1, P.l⟩)
  else if a.kd = 2 then popV P
  else if a.kd = 3 then ⟨{ P.D with ar := a.n.toNat }, P.w, P.e, P.l⟩
  else popV ⟨P.D.cr (lastsV a), P.w, P.e, P.l⟩
structure Act7.ok (a : Act7) : Prop where
  s : a.s.length ≤ 1000000
  las : a.las.length ≤ 100000
  torn : a.torn.length ≤ 100000
  n : -9223372036854775808 ≤ a.n ∧ a.n ≤ 9223372036854775807
theorem wIn_imp {H : List LObj} {k k' : Dsk → W7 → Prop} (h : wIn H k) (hk : ∀ D w, k D w → k' D w) : wIn H k' := by
  obtain ⟨D, w, rfl, h1, h2, h3⟩ := wIn_out h
  exact wIn_mk h1 h2 (hk D w h3)
def appWSE : Spec := fun args H Q => match args with
  | [.ptr 0 0, .str s] => wIn H fun D w => s.length ≤ 1000000 ∧ D.buf.length ≤ 900000 ∧ ∃ e D' w', (e, D', w') = appL D w s ∧ Q (.int .i64 e) (wA D' w')
  | _ => False
theorem appW_kE : Contract Tryz.prog [] 12 appWSE := appW_k.imp fun args H Q h => by
  unfold appWSE at h
  split at h
  case h_2 => exact h.elim
  exact wIn_imp h fun D w ⟨h1, h2, e, D', w', h3, h4⟩ => ⟨h1, h2, fun e2 D2 w2 h5 => by
    obtain ⟨u1, u2⟩ := Prod.mk.inj (h5.trans h3.symm)
    obtain ⟨u2, u3⟩ := Prod.mk.inj u2
    subst u1 u2 u3
    exact h4⟩
def chkWSE : Spec := fun args H Q => match args with
  | [.ptr 0 0, .str s] => wIn H fun D w => s.length ≤ 1000000 ∧ D.buf.length ≤ 900000 ∧ ∃ e D' w', (e, D', w') = chkL D w s ∧ Q (.int .i64 e) (wA D' w')
  | _ => False
theorem chkW_kE : Contract Tryz.prog [] 10 chkWSE := chkW_k.imp fun args H Q h => by
  unfold chkWSE at h
  split at h
  case h_2 => exact h.elim
  exact wIn_imp h fun D w ⟨h1, h2, e, D', w', h3, h4⟩ => ⟨h1, h2, fun e2 D2 w2 h5 => by
    obtain ⟨u1, u2⟩ := Prod.mk.inj (h5.trans h3.symm)
    obtain ⟨u2, u3⟩ := Prod.mk.inj u2
    subst u1 u2 u3
    exact h4⟩
end Go.LX
end
section
set_option maxRecDepth 100000
set_option maxHeartbeats 2000000
set_option autoImplicit false
set_option linter.unusedVariables false
set_option linter.unusedSimpArgs false
namespace Go.LX
open Go.Proofs

structure P7.Ok (P : P7) : Prop where
  D : P.D.Ok
  w : ∀ w, P.w = some w → w.Ok P.D
theorem appL_ok {D : Dsk} {w : W7} {s : Bs} (ho : D.Ok) (hw : w.Ok D) (hb : D.buf.length ≤ 900000) {e : Int} {D' : Dsk} {w' : W7} (h : appL D w s = (e, D', w')) : D'.Ok ∧ w'.Ok D' ∧ D'.sz = D.sz ∧ D'.sc = D.sc ∧ D'.buf.length ≤ D.buf.length + 200 := by
  have fin : ∀ (e : Int) (w' : W7), (∀ b, ({ w' with broken := b } : W7).Ok D) → D.Ok → D.Ok ∧ w'.Ok D ∧ D.sz = D.sz ∧ D.sc = D.sc ∧ D.buf.length ≤ D.buf.length + 200 := fun e w' h1 h2 => ⟨h2, h1 w'.broken, rfl, rfl, Nat.le_add_right _ _⟩
  have hbr : ∀ b, ({ w with broken := b } : W7).Ok D := fun b => ⟨hw.sc, hw.g, hw.sg, hw.slot, hw.used, hw.sn⟩
  have same : ∀ (x : Int), appL D w s = (x, D, { w with broken := decide (x = 13) }) → D'.Ok ∧ w'.Ok D' ∧ D'.sz = D.sz ∧ D'.sc = D.sc ∧ D'.buf.length ≤ D.buf.length + 200 := by
    intro x hx
    rw [hx] at h
    obtain ⟨q1, q2⟩ := Prod.mk.inj h
    obtain ⟨q2, q3⟩ := Prod.mk.inj q2
    clear h hx
    subst q1 q2 q3
    exact ⟨ho, hbr _, rfl, rfl, Nat.le_add_right _ _⟩
  by_cases h0 : w.broken = true
  · unfold appL at h
    rw [if_pos h0] at h
    obtain ⟨q1, q2⟩ := Prod.mk.inj h
    obtain ⟨q2, q3⟩ := Prod.mk.inj q2
    clear h same
    subst q1 q2 q3
    exact ⟨ho, hw, rfl, rfl, Nat.le_add_right _ _⟩
  by_cases h1 : w.ready = false
  · exact same 15 (by unfold appL appP; rw [if_neg h0, if_pos h1])
  by_cases h2 : partsV D.sz s.length = 0
  · exact same 1 (by unfold appL appP; rw [if_neg h0, if_neg h1, if_pos h2])
  by_cases h3 : ¬ fitsW D w s.length
  · exact same 2 (by unfold appL appP; rw [if_neg h0, if_neg h1, if_neg h2, if_pos h3])
  have hf : fitsW D w s.length := Decidable.not_not.1 h3
  have hpf := parts_facts h2
  rw [Int.toNat_natCast] at hpf
  have hll : (splitL D.sz w.g w.sn s).length = npar (D.sz - 25) s.length := splitL_len _ _ _ _
  have g1 := putV_ok (splitL D.sz w.g w.sn s) D (baseV D w.sg + w.used) ho (by omega)
  have g2 := putV_geo (splitL D.sz w.g w.sn s) D (baseV D w.sg + w.used)
  have g3 := putV_buf (splitL D.sz w.g w.sn s) D (baseV D w.sg + w.used)
  have hap : appP D w s = (if (putV D (baseV D w.sg + w.used) (splitL D.sz w.g w.sn s)).1 = 0 then (0, (putV D (baseV D w.sg + w.used) (splitL D.sz w.g w.sn s)).2, { w with used := w.used + (splitL D.sz w.g w.sn s).length, sn := w.sn + 1 }) else ((putV D (baseV D w.sg + w.used) (splitL D.sz w.g w.sn s)).1, (putV D (baseV D w.sg + w.used) (splitL D.sz w.g w.sn s)).2, w)) := by
    unfold appP
    rw [if_neg h1, if_neg h2, if_neg h3]
  obtain ⟨e1, D1, hp⟩ : ∃ e1 D1, putV D (baseV D w.sg + w.used) (splitL D.sz w.g w.sn s) = (e1, D1) := ⟨_, _, rfl⟩
  rw [hp] at hap g1 g2 g3
  have g1 : D1.Ok := g1
  have g2 : D1.sz = D.sz ∧ D1.sc = D.sc := g2
  have g3 : D1.buf.length ≤ D.buf.length + (splitL D.sz w.g w.sn s).length := g3
  have hseg : segV D1 = segV D := by unfold segV; rw [g2.2]
  have hpos := npar_pos (D.sz - 25) s.length
  obtain ⟨f1, f2⟩ := hf
  have hu := hw.used
  have hsn := hw.sn
  unfold appL at h
  rw [if_neg h0, hap] at h
  have h : ((if e1 = 0 then ((0 : Int), D1, ({ w with used := w.used + (splitL D.sz w.g w.sn s).length, sn := w.sn + 1 } : W7)) else (e1, D1, w)).1, (if e1 = 0 then ((0 : Int), D1, ({ w with used := w.used + (splitL D.sz w.g w.sn s).length, sn := w.sn + 1 } : W7)) else (e1, D1, w)).2.1, ({ (if e1 = 0 then ((0 : Int), D1, ({ w with used := w.used + (splitL D.sz w.g w.sn s).length, sn := w.sn + 1 } : W7)) else (e1, D1, w)).2.2 with broken := decide ((if e1 = 0 then ((0 : Int), D1, ({ w with used := w.used + (splitL D.sz w.g w.sn s).length, sn := w.sn + 1 } : W7)) else (e1, D1, w)).1 = 13) } : W7)) = (e, D', w') := h
  by_cases he : e1 = 0
  · rw [if_pos he] at h
    obtain ⟨q1, q2⟩ := Prod.mk.inj h
    obtain ⟨q2, q3⟩ := Prod.mk.inj q2
    have q2 : D1 = D' := q2
    clear h same hap
    subst q1 q2 q3
    exact ⟨g1, ⟨by rw [g2.2]; exact hw.sc, hw.g, hw.sg, hw.slot, by rw [hseg]; show w.used + _ ≤ _; omega, by show w.sn + 1 ≤ w.used + _; omega⟩, g2.1, g2.2, by omega⟩
  · rw [if_neg he] at h
    obtain ⟨q1, q2⟩ := Prod.mk.inj h
    obtain ⟨q2, q3⟩ := Prod.mk.inj q2
    have q2 : D1 = D' := q2
    clear h same hap
    subst q1 q2 q3
    exact ⟨g1, ⟨by rw [g2.2]; exact hw.sc, hw.g, hw.sg, hw.slot, by rw [hseg]; exact hw.used, hw.sn⟩, g2.1, g2.2, by omega⟩
end Go.LX
end
section
set_option maxRecDepth 100000
set_option maxHeartbeats 2000000
set_option autoImplicit false
set_option linter.unusedVariables false
set_option linter.unusedSimpArgs false
namespace Go.LX
open Go.Proofs

theorem chkL_ok {D : Dsk} {w : W7} {s : Bs} (ho : D.Ok) (hw : w.Ok D) (hb : D.buf.length ≤ 900000) {e : Int} {D' : Dsk} {w' : W7} (h : chkL D w s = (e, D', w')) : D'.Ok ∧ w'.Ok D' ∧ D'.sz = D.sz ∧ D'.sc = D.sc ∧ D'.buf.length ≤ D.buf.length + 200 := by
  have hbr : ∀ {D1 : Dsk} {w1 : W7}, w1.Ok D1 → ∀ b, ({ w1 with broken := b } : W7).Ok D1 := fun hw b => ⟨hw.sc, hw.g, hw.sg, hw.slot, hw.used, hw.sn⟩
  have turn : ∀ (x : Int) (D1 : Dsk) (w1 : W7), chkP D w s = (x, D1, w1) → D1.Ok → w1.Ok D1 → D1.sz = D.sz → D1.sc = D.sc → D1.buf.length ≤ D.buf.length + 200 → ¬ w.broken = true → D'.Ok ∧ w'.Ok D' ∧ D'.sz = D.sz ∧ D'.sc = D.sc ∧ D'.buf.length ≤ D.buf.length + 200 := by
    intro x D1 w1 hx a1 a2 a3 a4 a5 h0
    unfold chkL at h
    rw [if_neg h0, hx] at h
    obtain ⟨q1, q2⟩ := Prod.mk.inj h
    obtain ⟨q2, q3⟩ := Prod.mk.inj q2
    have q2 : D1 = D' := q2
    have q3 : ({ w1 with broken := decide (x = 13) } : W7) = w' := q3
    clear h hx
    subst q2 q3
    exact ⟨a1, hbr a2 _, a3, a4, a5⟩
  by_cases h0 : w.broken = true
  · unfold chkL at h
    rw [if_pos h0] at h
    obtain ⟨q1, q2⟩ := Prod.mk.inj h
    obtain ⟨q2, q3⟩ := Prod.mk.inj q2
    clear h turn
    subst q1 q2 q3
    exact ⟨ho, hw, rfl, rfl, Nat.le_add_right _ _⟩
  by_cases h1 : partsV D.sz s.length = 0
  · exact turn 1 D w (by unfold chkP; rw [if_pos h1]) ho hw rfl rfl (Nat.le_add_right _ _) h0
  by_cases h2 : segV D < partsV D.sz s.length
  · exact turn 2 D w (by unfold chkP; rw [if_neg h1, if_pos h2]) ho hw rfl rfl (Nat.le_add_right _ _) h0
  obtain ⟨g1, sg1, e1, hnx⟩ : ∃ g1 sg1 e1, hNext w.g w.sg = ((g1, sg1), e1) := ⟨_, _, _, rfl⟩
  have hg := hw.g
  have hrg := hNext_rng (g := w.g) (by omega) hw.sg hnx
  by_cases h3 : e1 ≠ 0
  · exact turn e1 D w (by unfold chkP; rw [if_neg h1, if_neg h2, hnx, if_pos h3]) ho hw rfl rfl (Nat.le_add_right _ _) h0
  obtain ⟨r1, r2, r3, r4⟩ := hrg (Decidable.not_not.1 h3)
  have hpf := parts_facts h1
  rw [Int.toNat_natCast] at hpf
  obtain ⟨L, hL⟩ : ∃ L, splitL D.sz g1.toNat 0 s = L := ⟨_, rfl⟩
  have hll : L.length = npar (D.sz - 25) s.length := by rw [← hL]; exact splitL_len _ _ _ _
  have a1 := putV_ok L D (baseV D sg1) ho (by omega)
  have a2 := putV_geo L D (baseV D sg1)
  have a3 := putV_buf L D (baseV D sg1)
  obtain ⟨e3, D3, hp⟩ : ∃ e3 D3, putV D (baseV D sg1) L = (e3, D3) := ⟨_, _, rfl⟩
  rw [hp] at a1 a2 a3
  have a1 : D3.Ok := a1
  have a2 : D3.sz = D.sz ∧ D3.sc = D.sc := a2
  have a3 : D3.buf.length ≤ D.buf.length + L.length := a3
  have hseg : segV D3 = segV D := by unfold segV; rw [a2.2]
  have hw3 : w.Ok D3 := ⟨by rw [a2.2]; exact hw.sc, hw.g, hw.sg, hw.slot, by rw [hseg]; exact hw.used, hw.sn⟩
  obtain ⟨hd, hhd⟩ : ∃ hd, (hRes D.sz g1 sg1).1 = hd := ⟨_, rfl⟩
  have hck : chkP D w s = (if e3 ≠ 0 then (e3, D3, w) else if (putV D3 (1 - w.slot) [hd]).1 ≠ 0 then ((putV D3 (1 - w.slot) [hd]).1, (putV D3 (1 - w.slot) [hd]).2, w) else (0, (putV D3 (1 - w.slot) [hd]).2, ⟨g1.toNat, sg1, 1 - w.slot, partsV D.sz s.length, 1, true, w.broken⟩)) := by
    unfold chkP
    rw [if_neg h1, if_neg h2, hnx]
    show (if e1 ≠ 0 then _ else _) = _
    rw [if_neg h3]
    show (if (putV D (baseV D sg1) (splitL D.sz g1.toNat 0 s)).1 ≠ 0 then _ else if (putV (putV D (baseV D sg1) (splitL D.sz g1.toNat 0 s)).2 (1 - w.slot) [(hRes D.sz g1 sg1).1]).1 ≠ 0 then ((putV (putV D (baseV D sg1) (splitL D.sz g1.toNat 0 s)).2 (1 - w.slot) [(hRes D.sz g1 sg1).1]).1, (putV (putV D (baseV D sg1) (splitL D.sz g1.toNat 0 s)).2 (1 - w.slot) [(hRes D.sz g1 sg1).1]).2, w) else (0, (putV (putV D (baseV D sg1) (splitL D.sz g1.toNat 0 s)).2 (1 - w.slot) [(hRes D.sz g1 sg1).1]).2, _)) = _
    rw [hL, hhd, hp]
  by_cases h4 : e3 ≠ 0
  · exact turn e3 D3 w (hck.trans (if_pos h4)) a1 hw3 a2.1 a2.2 (by omega) h0
  rw [if_neg h4] at hck
  have b1 := putV_ok [hd] D3 (1 - w.slot) a1 (by show D3.buf.length + 1 < 1000000; omega)
  have b2 := putV_geo [hd] D3 (1 - w.slot)
  have b3 := putV_buf [hd] D3 (1 - w.slot)
  obtain ⟨e4, D4, hp4⟩ : ∃ e4 D4, putV D3 (1 - w.slot) [hd] = (e4, D4) := ⟨_, _, rfl⟩
  rw [hp4] at b1 b2 b3 hck
  have b1 : D4.Ok := b1
  have b2 : D4.sz = D3.sz ∧ D4.sc = D3.sc := b2
  have b3 : D4.buf.length ≤ D3.buf.length + 1 := b3
  have hseg4 : segV D4 = segV D := by unfold segV; rw [b2.2, a2.2]
  have hw4 : w.Ok D4 := ⟨by rw [b2.2, a2.2]; exact hw.sc, hw.g, hw.sg, hw.slot, by rw [hseg4]; exact hw.used, hw.sn⟩
  have hpos := npar_pos (D.sz - 25) s.length
  by_cases h5 : e4 ≠ 0
  · exact turn e4 D4 w (hck.trans (if_pos h5)) b1 hw4 (b2.1.trans a2.1) (b2.2.trans a2.2) (by omega) h0
  · have hsl := hw.slot
    exact turn 0 D4 _ (hck.trans (if_neg h5)) b1 ⟨by rw [b2.2, a2.2]; exact hw.sc, ⟨by show 1 ≤ g1.toNat; omega, by show g1.toNat < _; omega⟩, ⟨r3, r4⟩, ⟨by show 0 ≤ 1 - w.slot; omega, by show 1 - w.slot ≤ 1; omega⟩, by rw [hseg4]; show partsV D.sz s.length ≤ _; omega, by show 1 ≤ partsV D.sz s.length; omega⟩ (b2.1.trans a2.1) (b2.2.trans a2.2) (by omega) h0
theorem popV_ok {P : P7} (ho : P.D.Ok) (hb : P.D.buf.length ≤ 900000) : (popV P).Ok ∧ (popV P).D.buf.length ≤ P.D.buf.length + 1 ∧ (popV P).D.sz = P.D.sz ∧ (popV P).D.sc = P.D.sc := by
  obtain ⟨e1, D1, w1, l1, hop⟩ : ∃ e1 D1 w1 l1, opn P.D = (e1, D1, w1, l1) := ⟨_, _, _, _, rfl⟩
  have hk := opn_ok ho hb hop
  unfold popV
  rw [hop]
  show ((if e1 = 0 then (⟨D1, some w1, 0, l1⟩ : P7) else ⟨D1, none, e1, []⟩)).Ok ∧ ((if e1 = 0 then (⟨D1, some w1, 0, l1⟩ : P7) else ⟨D1, none, e1, []⟩)).D.buf.length ≤ _ ∧ ((if e1 = 0 then (⟨D1, some w1, 0, l1⟩ : P7) else ⟨D1, none, e1, []⟩)).D.sz = _ ∧ ((if e1 = 0 then (⟨D1, some w1, 0, l1⟩ : P7) else ⟨D1, none, e1, []⟩)).D.sc = _
  by_cases he : e1 = 0
  · rw [if_pos he]
    exact ⟨⟨hk.1, fun w hw => (Option.some.inj hw) ▸ (hk.2.2.2.1 he).2.1⟩, hk.2.2.2.2, hk.2.1, hk.2.2.1⟩
  · rw [if_neg he]
    exact ⟨⟨hk.1, fun w hw => by cases hw⟩, hk.2.2.2.2, hk.2.1, hk.2.2.1⟩
theorem doV_ok {P : P7} {a : Act7} (hP : P.Ok) (ha : a.ok) (hb : P.D.buf.length ≤ 900000) : (doV P a).Ok ∧ (doV P a).D.buf.length ≤ P.D.buf.length + 200 ∧ (doV P a).D.sz = P.D.sz ∧ (doV P a).D.sc = P.D.sc := by
  obtain ⟨D, w, e, l⟩ := P
  obtain ⟨ho, hw⟩ := hP
  have ho : D.Ok := ho
  have hw : ∀ w1, w = some w1 → w1.Ok D := hw
  have hb : D.buf.length ≤ 900000 := hb
  unfold doV
  by_cases h0 : a.kd = 0
  · rw [if_pos h0]
    cases w with
    | none => exact ⟨⟨ho, fun w1 h => by cases h⟩, Nat.le_add_right _ _, rfl, rfl⟩
    | some w1 =>
      obtain ⟨e1, D1, w2, hr⟩ : ∃ e1 D1 w2, appL D w1 a.s = (e1, D1, w2) := ⟨_, _, _, rfl⟩
      have hk := appL_ok ho (hw w1 rfl) hb hr
      show (⟨(appL D w1 a.s).2.1, some (appL D w1 a.s).2.2, (appL D w1 a.s).1, l⟩ : P7).Ok ∧ (⟨(appL D w1 a.s).2.1, some (appL D w1 a.s).2.2, (appL D w1 a.s).1, l⟩ : P7).D.buf.length ≤ _ ∧ (⟨(appL D w1 a.s).2.1, some (appL D w1 a.s).2.2, (appL D w1 a.s).1, l⟩ : P7).D.sz = _ ∧ (⟨(appL D w1 a.s).2.1, some (appL D w1 a.s).2.2, (appL D w1 a.s).1, l⟩ : P7).D.sc = _
      rw [hr]
      exact ⟨⟨hk.1, fun w3 h3 => (Option.some.inj h3) ▸ hk.2.1⟩, hk.2.2.2.2, hk.2.2.1, hk.2.2.2.1⟩
  rw [if_neg h0]
  by_cases h1 : a.kd = 1
  · rw [if_pos h1]
    cases w with
    | none => exact ⟨⟨ho, fun w1 h => by cases h⟩, Nat.le_add_right _ _, rfl, rfl⟩
    | some w1 =>
      obtain ⟨e1, D1, w2, hr⟩ : ∃ e1 D1 w2, chkL D w1 a.s = (e1, D1, w2) := ⟨_, _, _, rfl⟩
      have hk := chkL_ok ho (hw w1 rfl) hb hr
      show (⟨(chkL D w1 a.s).2.1, some (chkL D w1 a.s).2.2, (chkL D w1 a.s).1, l⟩ : P7).Ok ∧ (⟨(chkL D w1 a.s).2.1, some (chkL D w1 a.s).2.2, (chkL D w1 a.s).1, l⟩ : P7).D.buf.length ≤ _ ∧ (⟨(chkL D w1 a.s).2.1, some (chkL D w1 a.s).2.2, (chkL D w1 a.s).1, l⟩ : P7).D.sz = _ ∧ (⟨(chkL D w1 a.s).2.1, some (chkL D w1 a.s).2.2, (chkL D w1 a.s).1, l⟩ : P7).D.sc = _
      rw [hr]
      exact ⟨⟨hk.1, fun w3 h3 => (Option.some.inj h3) ▸ hk.2.1⟩, hk.2.2.2.2, hk.2.2.1, hk.2.2.2.1⟩
  rw [if_neg h1]
  by_cases h2 : a.kd = 2
  · rw [if_pos h2]
    have hk := popV_ok (P := ⟨D, w, e, l⟩) ho hb
    exact ⟨hk.1, Nat.le_trans hk.2.1 (show D.buf.length + 1 ≤ D.buf.length + 200 by omega), hk.2.2⟩
  rw [if_neg h2]
  by_cases h3 : a.kd = 3
  · rw [if_pos h3]
    have hn := ha.n
    exact ⟨⟨ho.arm (by omega), fun w1 h => ⟨(hw w1 h).sc, (hw w1 h).g, (hw w1 h).sg, (hw w1 h).slot, (hw w1 h).used, (hw w1 h).sn⟩⟩, Nat.le_add_right _ _, rfl, rfl⟩
  rw [if_neg h3]
  have hk := popV_ok (P := ⟨D.cr (lastsV a), w, e, l⟩) (ho.cr _) (by show 0 ≤ 900000; decide)
  exact ⟨hk.1, Nat.le_trans hk.2.1 (show 0 + 1 ≤ D.buf.length + 200 by omega), hk.2.2⟩
theorem madeV_inv {z c : Nat} (h1 : 64 ≤ z ∧ z ≤ 512) (h2 : 4 ≤ c ∧ c ≤ 4096) : ∃ D', madeV z c = ⟨D', some ⟨1, 0, 1, 0, 0, false, false⟩, 0, []⟩ ∧ Inv7 D' ⟨1, 0, 1, 0, 0, false, false⟩ [] ∧ D'.sz = z ∧ D'.sc = c := by
  obtain ⟨D', h, hi, hz, hc⟩ := fresh_inv h1 h2
  refine ⟨D', ?_, hi, hz, hc⟩
  show (if (opn (Dsk.fresh z c)).1 = 0 then (⟨(opn (Dsk.fresh z c)).2.1, some (opn (Dsk.fresh z c)).2.2.1, 0, (opn (Dsk.fresh z c)).2.2.2⟩ : P7) else ⟨(opn (Dsk.fresh z c)).2.1, none, (opn (Dsk.fresh z c)).1, []⟩) = _
  rw [h]
  exact if_pos rfl
end Go.LX
end
section
set_option maxRecDepth 100000
set_option maxHeartbeats 2000000
set_option autoImplicit false
set_option linter.unusedVariables false
set_option linter.unusedSimpArgs false
namespace Go.LX
open Go.Proofs

theorem opn_out7 {D : Dsk} {w : W7} {now : List Bs} (h : Inv7 D w now) {e : Int} {D' : Dsk} {w' : W7} {l : List Bs} (h2 : (e, D', w', l) = opn D) : e = 0 ∧ D' = D ∧ w' = ⟨w.g, w.sg, w.slot, w.used, w.sn, false, false⟩ ∧ l = now := by
  rw [inv_open h] at h2
  obtain ⟨q1, q2⟩ := Prod.mk.inj h2
  obtain ⟨q2, q3⟩ := Prod.mk.inj q2
  obtain ⟨q3, q4⟩ := Prod.mk.inj q3
  exact ⟨q1, q2, q3, q4⟩
def awake7S : Spec := fun args H Q => match args, H with
  | [], [] => Q (.bool true) []
  | _, _ => False
theorem awake7_c : Meets Tryz.prog [] 7 awake7S := by
  refine meets_of Γok Tryz.func7 rfl ?_
  intro args H Q h
  unfold awake7S at h
  split at h
  case h_2 => exact h.elim
  obtain ⟨D, hm, hi, hz, hc⟩ := madeV_inv (z := 64) (c := 8) (by decide) (by decide)
  have hsg : segV D = 3 := by unfold segV; rw [hc]
  have ho := hi.calm.ok
  have hw := hi.wok
  obtain ⟨D1, hk1, hi1, hz1, hc1⟩ := inv_chk (s := [97]) hi (by decide) (by rw [hsg, hz]; decide) (by decide)
  rw [hz] at hk1 hi1 hz1
  obtain ⟨w1, hw1⟩ : ∃ w1 : W7, (⟨1 + 1, 1 - 0, 1 - 1, npar (64 - 25) ([97] : Bs).length, 1, true, false⟩ : W7) = w1 := ⟨_, rfl⟩
  have hk1 : chkL D ⟨1, 0, 1, 0, 0, false, false⟩ [97] = (0, D1, w1) := hw1 ▸ hk1
  have hi1 : Inv7 D1 w1 [[97]] := hw1 ▸ hi1
  have hr1 : w1.ready = true := hw1 ▸ rfl
  have hu1 : w1.used = 1 := hw1 ▸ rfl
  have hsg1 : segV D1 = 3 := by unfold segV; rw [hc1, hc]
  have hf1 : fitsW D1 w1 (([98] : Bs).length : Int) := by
    unfold fitsW
    rw [hz1, hsg1, hu1]
    decide
  obtain ⟨D2, hk2, hi2, hz2, hc2⟩ := inv_app (s := [98]) hi1 (by decide) hr1 hf1
  obtain ⟨w2, hw2⟩ : ∃ w2 : W7, ({ w1 with used := w1.used + npar (D1.sz - 25) ([98] : Bs).length, sn := w1.sn + 1 } : W7) = w2 := ⟨_, rfl⟩
  rw [hw2] at hk2 hi2
  have hi2 : Inv7 D2 w2 [[97], [98]] := hi2
  have ho1 := hi1.calm.ok
  have ho2 := hi2.calm.ok
  have hb0 : D.buf.length ≤ 900000 := by rw [hi.calm.buf]; decide
  have hb1 : D1.buf.length ≤ 900000 := by rw [hi1.calm.buf]; decide
  have hb2 : D2.buf.length ≤ 900000 := by rw [hi2.calm.buf]; decide
  have hwo1 := hi1.wok
  have hsq : decide (((segV D : Nat) : Int) = 3) = true := by rw [hsg]; rfl
  clear hw1 hw2 hi1 hf1
  (refine sx_sound Γok _ ?_; conv => whnf)
  refine CallVC.auto made7_k ⟨by decide, ?_⟩
  have hm2 : madeV ((64 : Int)).toNat ((8 : Int)).toNat = ⟨D, some ⟨1, 0, 1, 0, 0, false, false⟩, 0, []⟩ := hm
  rw [hm2]
  (conv => whnf)
  (repeat (first | (refine CallVC.auto w7seg_k (wIn_mk ho hw ?_); conv => whnf) | (refine Both.of_true hsq ?_; conv => whnf) | (exact Out.same; conv => whnf) | (exact Out1.same; conv => whnf) | (refine QAnd.mk ?_ ?_; conv => whnf) | (apply QStepH.go; conv => whnf) | (refine Both.lit_true ?_; conv => whnf) | (refine Both.lit_false ?_; conv => whnf) | (apply QStep.go; conv => whnf) | (refine Need.au ?_; conv => whnf) | (refine ⟨_, rfl, ?_⟩; conv => whnf) | (refine Both.of_false ?_ ?_; (focus (first | rfl | (simp [hsg] <;> fail))); conv => whnf) | (refine Both.of_true ?_ ?_; (focus (first | rfl | (simp [hsg] <;> fail))); conv => whnf)))
  (refine DrawVC.any Γok (by kernel_rfl) (by kernel_rfl) (by kernel_rfl) (by rfl) ?_; conv => whnf)
  (repeat (first | (refine CallVC.auto chkW_kE (wIn_mk ho hw ⟨by decide, hb0, 0, D1, w1, hk1.symm, ?_⟩); conv => whnf) | (refine CallVC.auto appW_kE (wIn_mk ho1 hwo1 ⟨by decide, hb1, 0, D2, w2, hk2.symm, ?_⟩); conv => whnf) | (exact Out.same; conv => whnf) | (exact Out1.same; conv => whnf) | (refine QAnd.mk ?_ ?_; conv => whnf) | (apply QStepH.go; conv => whnf) | (refine Both.lit_true ?_; conv => whnf) | (refine Both.lit_false ?_; conv => whnf) | (apply QStep.go; conv => whnf) | (refine Need.au ?_; conv => whnf) | (refine ⟨_, rfl, ?_⟩; conv => whnf)))
  refine CallVC.auto openW_k (dIn_mk ho2 ⟨hb2, fun e3 D3 w3 l3 h3 => ⟨fun hne => ?_, fun heq => ?_⟩⟩)
  · exact absurd (opn_out7 hi2 h3).1 hne
  obtain ⟨u1, u2, u3, u4⟩ := opn_out7 hi2 h3
  clear h3
  subst u2 u4
  (conv => whnf)
  (repeat (first | (refine CallVC.auto like_k ⟨[[97], [98]], rfl, rfl, rfl, rfl, Nat.le_of_ble_eq_true rfl, ?_⟩; conv => whnf) | (exact Out.same; conv => whnf) | (exact Out1.same; conv => whnf) | (refine QAnd.mk ?_ ?_; conv => whnf) | (apply QStepH.go; conv => whnf) | (refine Both.lit_true ?_; conv => whnf) | (refine Both.lit_false ?_; conv => whnf) | (apply QStep.go; conv => whnf) | (refine Need.au ?_; conv => whnf) | (refine ⟨_, rfl, ?_⟩; conv => whnf)))
  exact ⟨_, _, WeakV.drop rfl, h⟩
theorem awake7_k : Contract Tryz.prog [] 7 awake7S := ⟨⟨⟨_, rfl, rfl, rfl⟩⟩, awake7_c⟩
end Go.LX
end
section
set_option maxRecDepth 100000
set_option maxHeartbeats 4000000
set_option autoImplicit false
set_option linter.unusedVariables false
set_option linter.unusedSimpArgs false
namespace Go.LX
open Go.Proofs

structure J7 (P : P7) (k : Nat) : Prop where
  ok : P.Ok
  buf : P.D.buf.length ≤ 200 * (k + 1)
theorem J7.next {P : P7} {a : Act7} {k : Nat} (h : J7 P k) (ha : a.ok) (hk : k ≤ 100) : J7 (doV P a) (k + 1) := by
  have hb := h.buf
  have h2 := doV_ok h.ok ha (by omega)
  exact ⟨h2.1, by have := h2.2.1; omega⟩
end Go.LX
end
section
set_option maxRecDepth 100000
set_option maxHeartbeats 4000000
set_option autoImplicit false
set_option linter.unusedVariables false
set_option linter.unusedSimpArgs false
namespace Go.LX
open Go.Proofs

theorem fleH_refl : ∀ H : List LObj, leH H H
  | [] => trivial
  | .cells c e :: r => ⟨.eq rfl, rfl, fleH_refl r⟩
  | .own .. :: r => ⟨rfl, fleH_refl r⟩
  | .map .. :: r => ⟨rfl, fleH_refl r⟩
  | .gone :: r => fleH_refl r
theorem fleH_set {c c' : List SV} {e : TypeId} (hle : leT c c') : ∀ (H : List LObj) (i : Nat), H[i]? = some (.cells c e) → leH H (H.set i (.cells c' e))
  | [], i, h => by cases h
  | x :: r, 0, h => by
    cases h
    exact ⟨.pt hle, rfl, fleH_refl r⟩
  | x :: r, i + 1, h => by
    have ih := fleH_set hle r i h
    cases x with
    | cells c0 e0 => exact ⟨.eq rfl, rfl, ih⟩
    | own => exact ⟨rfl, ih⟩
    | map => exact ⟨rfl, ih⟩
    | gone => exact ih
theorem fleT_refl : ∀ l : List SV, leT l l
  | [] => trivial
  | x :: r => by
    cases x <;> first | exact fleT_refl r | exact ⟨rfl, fleT_refl r⟩ | exact ⟨⟨rfl, rfl⟩, fleT_refl r⟩
theorem Weak.fcells {G : Gl} {N : Nat} {s : LS} (i : Nat) {c c' : List SV} {e : TypeId} (hi : s.h[i]? = some (.cells c e)) (hle : leT c c') : Weak G N s ⟨s.t, s.h.set i (.cells c' e)⟩ := Weak.le (fleT_refl _) (fleH_set hle _ _ hi)
theorem npar_zero {r : Nat} (hr : 0 < r) : npar r 0 = 1 := by
  unfold npar
  rw [Nat.div_eq_of_lt (by omega)]
  rfl
def fwB (D : Dsk) (w : W7) : List LObj := [.cells [.ptr 1 0, .ptr 4 0, .any, .any, .any, .any] 33,
      .cells [.int .i64 (D.sz : Int), .int .i64 (D.sc : Int), .own 2, .own 3, .int .i64 (D.ar : Int)] 79, .own 9 1 D.st.length (D.st.map CV.str) true, .own 91 2 D.buf.length (D.buf.flatMap wrEn) true,
      .cells [.ptr 1 0, .int .u64 (w.g : Int), .int .i64 w.sg, .int .i64 w.slot, .int .i64 (w.used : Int), .int .u64 (w.sn : Int), .bool w.ready, .bool w.broken] 74]
structure F7 (zn cn : Nat) (D : Dsk) (w : W7) (t : Nat) : Prop where
  inv : ∃ now, Inv7 D w now
  z : D.sz = zn
  c : D.sc = cn
  g : w.g ≤ t + 1
def lawFills7S : Spec := fun args H Q => match args, H with
  | [.int .i64 z, .int .i64 c, .int .u16 b], [] => (0 ≤ b ∧ b < 65536) ∧ Q (.bool true) []
  | _, _ => False
theorem fills7_law : Meets Tryz.prog [] 3 lawFills7S := by
  refine meets_of Γok Tryz.func3 rfl ?_
  intro args H Q h
  unfold lawFills7S at h
  split at h
  case h_2 => exact h.elim
  rename_i z c b
  obtain ⟨hb, h⟩ := h
  obtain ⟨nn, hnn, hn3⟩ : ∃ nn : Nat, IntKind.i64.wrap (b.tmod 300) = ((nn : Nat) : Int) ∧ nn < 300 := by
    have e : b.tmod 300 = b % 300 := Int.tmod_eq_emod_of_nonneg hb.1
    have h1 : 0 ≤ b % 300 ∧ b % 300 < 300 := ⟨Int.emod_nonneg _ (by decide), Int.emod_lt_of_pos _ (by decide)⟩
    refine ⟨(b % 300).toNat, ?_, by omega⟩
    rw [e, wrap_i64 (by omega) (by omega)]
    omega
  (refine sx_sound Γok _ ?_; conv => whnf)
  (repeat (first | (exact Out.same; conv => whnf) | (exact Out1.same; conv => whnf) | (refine QAnd.mk ?_ ?_; conv => whnf) | (apply QStepH.go; conv => whnf) | (refine Both.lit_true ?_; conv => whnf) | (refine Both.lit_false ?_; conv => whnf) | (apply QStep.go; conv => whnf) | (refine Need.au ?_; conv => whnf) | (refine ⟨_, rfl, ?_⟩; conv => whnf) | (refine CallVC.auto awake7_k ?_; conv => whnf)))
  refine Both.dec (fun h1 => ?_) (fun h1 => ?_)
  · (conv => whnf)
    (repeat (first | (exact Out.same; conv => whnf) | (exact Out1.same; conv => whnf) | (refine QAnd.mk ?_ ?_; conv => whnf) | (apply QStepH.go; conv => whnf) | (refine Both.lit_true ?_; conv => whnf) | (refine Both.lit_false ?_; conv => whnf) | (apply QStep.go; conv => whnf) | (refine Need.au ?_; conv => whnf) | (refine ⟨_, rfl, ?_⟩; conv => whnf) | (refine Both.of_false ?_ ?_; (focus (first | rfl | (simp <;> fail))); conv => whnf) | (refine Both.of_true ?_ ?_; (focus (first | rfl | (simp <;> fail))); conv => whnf)))
    exact ⟨_, _, WeakV.drop rfl, h⟩
  (conv => whnf)
  (repeat (first | (exact Out.same; conv => whnf) | (exact Out1.same; conv => whnf) | (refine QAnd.mk ?_ ?_; conv => whnf) | (apply QStepH.go; conv => whnf) | (refine Both.lit_true ?_; conv => whnf) | (refine Both.lit_false ?_; conv => whnf) | (apply QStep.go; conv => whnf) | (refine Need.au ?_; conv => whnf) | (refine ⟨_, rfl, ?_⟩; conv => whnf)))
  refine Both.dec (fun h2 => ?_) (fun h2 => ?_)
  · (conv => whnf)
    (repeat (first | (exact Out.same; conv => whnf) | (exact Out1.same; conv => whnf) | (refine QAnd.mk ?_ ?_; conv => whnf) | (apply QStepH.go; conv => whnf) | (refine Both.lit_true ?_; conv => whnf) | (refine Both.lit_false ?_; conv => whnf) | (apply QStep.go; conv => whnf) | (refine Need.au ?_; conv => whnf) | (refine ⟨_, rfl, ?_⟩; conv => whnf) | (refine Both.of_false ?_ ?_; (focus (first | rfl | (simp <;> fail))); conv => whnf) | (refine Both.of_true ?_ ?_; (focus (first | rfl | (simp <;> fail))); conv => whnf)))
    exact ⟨_, _, WeakV.drop rfl, h⟩
  (conv => whnf)
  (repeat (first | (exact Out.same; conv => whnf) | (exact Out1.same; conv => whnf) | (refine QAnd.mk ?_ ?_; conv => whnf) | (apply QStepH.go; conv => whnf) | (refine Both.lit_true ?_; conv => whnf) | (refine Both.lit_false ?_; conv => whnf) | (apply QStep.go; conv => whnf) | (refine Need.au ?_; conv => whnf) | (refine ⟨_, rfl, ?_⟩; conv => whnf)))
  refine Both.dec (fun h3 => ?_) (fun h3 => ?_)
  · (conv => whnf)
    (repeat (first | (exact Out.same; conv => whnf) | (exact Out1.same; conv => whnf) | (refine QAnd.mk ?_ ?_; conv => whnf) | (apply QStepH.go; conv => whnf) | (refine Both.lit_true ?_; conv => whnf) | (refine Both.lit_false ?_; conv => whnf) | (apply QStep.go; conv => whnf) | (refine Need.au ?_; conv => whnf) | (refine ⟨_, rfl, ?_⟩; conv => whnf) | (refine Both.of_false ?_ ?_; (focus (first | rfl | (simp <;> fail))); conv => whnf) | (refine Both.of_true ?_ ?_; (focus (first | rfl | (simp <;> fail))); conv => whnf)))
    exact ⟨_, _, WeakV.drop rfl, h⟩
  (conv => whnf)
  (repeat (first | (exact Out.same; conv => whnf) | (exact Out1.same; conv => whnf) | (refine QAnd.mk ?_ ?_; conv => whnf) | (apply QStepH.go; conv => whnf) | (refine Both.lit_true ?_; conv => whnf) | (refine Both.lit_false ?_; conv => whnf) | (apply QStep.go; conv => whnf) | (refine Need.au ?_; conv => whnf) | (refine ⟨_, rfl, ?_⟩; conv => whnf)))
  refine Both.dec (fun h4 => ?_) (fun h4 => ?_)
  · (conv => whnf)
    (repeat (first | (exact Out.same; conv => whnf) | (exact Out1.same; conv => whnf) | (refine QAnd.mk ?_ ?_; conv => whnf) | (apply QStepH.go; conv => whnf) | (refine Both.lit_true ?_; conv => whnf) | (refine Both.lit_false ?_; conv => whnf) | (apply QStep.go; conv => whnf) | (refine Need.au ?_; conv => whnf) | (refine ⟨_, rfl, ?_⟩; conv => whnf) | (refine Both.of_false ?_ ?_; (focus (first | rfl | (simp <;> fail))); conv => whnf) | (refine Both.of_true ?_ ?_; (focus (first | rfl | (simp <;> fail))); conv => whnf)))
    exact ⟨_, _, WeakV.drop rfl, h⟩
  obtain ⟨zn, rfl⟩ := Int.eq_ofNat_of_zero_le (show 0 ≤ z by omega)
  obtain ⟨cn, rfl⟩ := Int.eq_ofNat_of_zero_le (show 0 ≤ c by omega)
  have hokg : okG (zn : Int) (cn : Int) = true := decide_eq_true (by omega)
  obtain ⟨D0, hm, hi0, hz0, hc0⟩ := madeV_inv (z := zn) (c := cn) (by omega) (by omega)
  obtain ⟨w0, hw0⟩ : ∃ w0 : W7, (⟨1, 0, 1, 0, 0, false, false⟩ : W7) = w0 := ⟨_, rfl⟩
  have hg0 : w0.g ≤ 0 + 1 := by rw [← hw0]; exact Nat.le_refl _
  rw [hw0] at hm hi0
  have hF0 : F7 zn cn D0 w0 0 := ⟨⟨[], hi0⟩, hz0, hc0, hg0⟩
  have hroom := segV_eq hi0.calm.ok (by omega)
  have hm2 : madeV ((zn : Int)).toNat ((cn : Int)).toNat = ⟨D0, some w0, 0, []⟩ := by rw [Int.toNat_natCast, Int.toNat_natCast]; exact hm
  obtain ⟨room, hrm⟩ : ∃ room, (cn - 2) / 2 = room := ⟨_, rfl⟩
  have hseg : ∀ {D : Dsk} {w : W7} {t : Nat}, F7 zn cn D w t → segV D = room := fun hF => by
    unfold segV
    rw [hF.c, hrm]
  rw [hseg hF0, hc0] at hroom
  have hr1 : 1 ≤ room ∧ room ≤ 29 := by omega
  obtain ⟨np, hnp⟩ : ∃ np, npar (zn - 25) nn = np := ⟨_, rfl⟩
  have hnp1 : 0 < np := by rw [← hnp]; exact npar_pos _ _
  have hparts : partsV (zn : Int) ((nn : Nat) : Int) = np := by
    unfold partsV
    rw [if_pos (by omega), Int.toNat_natCast, Int.toNat_natCast, hnp]
  have hparts2 : partsV (zn : Int) (IntKind.i64.wrap (b.tmod 300)) = np := by rw [hnn, hparts]
  have hnp2 : np ≤ 300 := by
    rw [← hnp]
    refine npar_le (by omega) ?_ (by omega)
    have : 300 * 1 ≤ 300 * (zn - 25) := Nat.mul_le_mul_left _ (by omega)
    omega
  obtain ⟨S, hS⟩ : ∃ S : Bs, (zerosOf 1 (IntKind.i64.wrap (b.tmod 300)).toNat [CV.int .u8 0]).map cvByte = S := ⟨_, rfl⟩
  have hSl : S.length = nn := by
    rw [← hS, hnn]
    show ((List.replicate nn (CV.int .u8 0)).map cvByte).length = nn
    rw [List.length_map, List.length_replicate]
  have hmk : IntKind.i64.wrap (b.tmod 300) = IntKind.i64.wrap (b.tmod 300) ∧ 0 ≤ IntKind.i64.wrap (b.tmod 300) ∧ 1 * IntKind.i64.wrap (b.tmod 300) ≤ 140737488355328 ∧ IntKind.i64.wrap (b.tmod 300) ≤ 140737488355328 := by rw [hnn]; omega
  have hcv : (zerosOf 1 (IntKind.i64.wrap (b.tmod 300)).toNat [CV.int .u8 0]).length = (IntKind.i64.wrap (b.tmod 300)).toNat ∧ ∀ x ∈ zerosOf 1 (IntKind.i64.wrap (b.tmod 300)).toNat [CV.int .u8 0], isU8 x = true := by
    refine ⟨List.length_replicate, fun x hx => ?_⟩
    rw [List.eq_of_mem_replicate hx]
    rfl
  (conv => whnf)
  (repeat (first | (refine CallVC.auto made7_k ⟨hokg, ?_⟩; conv => whnf) | (exact Out.same; conv => whnf) | (exact Out1.same; conv => whnf) | (refine QAnd.mk ?_ ?_; conv => whnf) | (apply QStepH.go; conv => whnf) | (refine Both.lit_true ?_; conv => whnf) | (refine Both.lit_false ?_; conv => whnf) | (apply QStep.go; conv => whnf) | (refine Need.au ?_; conv => whnf) | (refine ⟨_, rfl, ?_⟩; conv => whnf)))
  rw [hm2]
  (conv => whnf)
  (repeat (first | (refine Need.mk hmk ?_; conv => whnf) | (refine Need.mk hcv ?_; conv => whnf) | (exact Out.same; conv => whnf) | (exact Out1.same; conv => whnf) | (refine QAnd.mk ?_ ?_; conv => whnf) | (apply QStepH.go; conv => whnf) | (refine Both.lit_true ?_; conv => whnf) | (refine Both.lit_false ?_; conv => whnf) | (apply QStep.go; conv => whnf) | (refine Need.au ?_; conv => whnf) | (refine ⟨_, rfl, ?_⟩; conv => whnf) | (refine CallVC.auto parts2_k ?_; conv => whnf)))
  refine loop_rule (fun x : Nat × Dsk × W7 => match x with | (t, D, w) => ⟨[.any, .any, .any, .any, .any, .any, .any, .int .i64 (nn : Int), .ptr 0 0, .int .i64 (np : Int), .int .i64 (room : Int), .str S, .int .i64 (t : Int), .any, .any, .any, .any, .any, .any, .any, .any, .any, .any, .any, .any, .any, .any, .any, .any, .any, .any, .any, .any, .any, .any, .any, .any, .any, .any, .any, .any, .any, .any, .any, .any, .any, .any, .any, .any, .any, .any, .any, .any, .any, .any, .any, .any, .any, .any, .any, .any, .any, .any, .any, .any, .any, .any, .any, .any, .any, .any, .any, .any, .any, .any, .any, .any, .any, .any, .any, .any, .any, .any, .any, .any, .any, .any, .any, .any, .any, .any, .any, .any, .any, .any, .any, .any, .any, .any, .any, .any, .any, .any, .any, .any, .any, .any, .any, .any, .any, .any, .any, .any, .any, .any, .any], fwB D w⟩) (fun x => x.1 ≤ 2 ∧ F7 zn cn x.2.1 x.2.2 x.1) (fun x => 2 - x.1) (0, D0, w0) ⟨Nat.zero_le _, hF0⟩ ((Weak.fcells 0 (c' := [.ptr 1 0, .ptr 4 0, .any, .any, .any, .any]) rfl (by exact ⟨rfl, rfl, trivial⟩)).trans (Weak.auto ?_)) ?_
  · (repeat' ((conv => whnf); first | exact True.intro | (refine And.intro ?_ ?_)))
    all_goals first | rfl | exact .eq rfl | exact congrArg (SV.int .i64) hnn | exact congrArg (SV.int .i64) hroom | exact congrArg (fun m : Nat => SV.int .i64 (m : Int)) hparts2 | exact congrArg SV.str hS
  clear hmk hcv hS hnn hparts2 hm2 hm hw0 hi0 hz0 hc0 hg0 hF0 hroom
  rintro ⟨t, D, w⟩ ⟨ht, hF⟩
  dsimp only at ht hF
  (refine sx_sound Γok _ ?_; conv => whnf)
  (repeat (first | (exact Out.same; conv => whnf) | (exact Out1.same; conv => whnf) | (refine QAnd.mk ?_ ?_; conv => whnf) | (apply QStepH.go; conv => whnf) | (refine Both.lit_true ?_; conv => whnf) | (refine Both.lit_false ?_; conv => whnf) | (apply QStep.go; conv => whnf) | (refine Need.au ?_; conv => whnf) | (refine ⟨_, rfl, ?_⟩; conv => whnf)))
  refine Both.dec (fun hlt => ?_) (fun hge => ?_)
  rotate_left
  · (conv => whnf)
    (repeat (first | (exact Out.same; conv => whnf) | (exact Out1.same; conv => whnf) | (refine QAnd.mk ?_ ?_; conv => whnf) | (apply QStepH.go; conv => whnf) | (refine Both.lit_true ?_; conv => whnf) | (refine Both.lit_false ?_; conv => whnf) | (apply QStep.go; conv => whnf) | (refine Need.au ?_; conv => whnf) | (refine ⟨_, rfl, ?_⟩; conv => whnf)))
    exact ⟨_, _, WeakV.drop rfl, h⟩
  have ht2 : t < 2 := by omega
  obtain ⟨now, hi⟩ := hF.inv
  have ho := hi.calm.ok
  have hwo := hi.wok
  have hb0 : D.buf.length ≤ 900000 := by rw [hi.calm.buf]; exact Nat.zero_le _
  have hz := hF.z
  have hc := hF.c
  have hg := hF.g
  have hsg := hseg hF
  have hp0 : partsV D.sz ([] : Bs).length = 1 := by
    rw [parts_n ho (by decide), hz]
    exact npar_zero (by omega)
  obtain ⟨D1, hk1, hi1, hz1, hc1⟩ := inv_chk (s := []) hi (by decide) (by rw [hp0, hsg]; exact hr1.1) (by omega)
  obtain ⟨w1, hw1⟩ : ∃ w1 : W7, (⟨w.g + 1, 1 - w.sg, 1 - w.slot, npar (D.sz - 25) ([] : Bs).length, 1, true, false⟩ : W7) = w1 := ⟨_, rfl⟩
  have hr1w : w1.ready = true := by rw [← hw1]
  have hu1 : w1.used = 1 := by
    rw [← hw1]
    show npar (D.sz - 25) 0 = 1
    exact npar_zero (by omega)
  have hg1 : w1.g ≤ t + 2 := by
    rw [← hw1]
    show w.g + 1 ≤ t + 2
    omega
  rw [hw1] at hk1 hi1
  have hF1 : F7 zn cn D1 w1 (t + 1) := ⟨⟨_, hi1⟩, hz1.trans hz, hc1.trans hc, hg1⟩
  have hwr : IntKind.i64.wrap ((t : Int) + 1) = ((t + 1 : Nat) : Int) := by rw [wrap_i64 (by omega) (by omega)]; rfl
  have hwl : IntKind.i64.wrap ((room : Int) - 1) = ((room - 1 : Nat) : Int) := by rw [wrap_i64 (by omega) (by omega)]; omega
  (conv => whnf)
  (repeat (first | (refine CallVC.auto chkW_kE (wIn_mk ho hwo ⟨by decide, hb0, 0, D1, w1, hk1.symm, ?_⟩); conv => whnf) | (exact Out.same; conv => whnf) | (exact Out1.same; conv => whnf) | (refine QAnd.mk ?_ ?_; conv => whnf) | (apply QStepH.go; conv => whnf) | (refine Both.lit_true ?_; conv => whnf) | (refine Both.lit_false ?_; conv => whnf) | (apply QStep.go; conv => whnf) | (refine Need.au ?_; conv => whnf) | (refine ⟨_, rfl, ?_⟩; conv => whnf)))
  refine loop_rule (fun x : Nat × Dsk × W7 => match x with | (left, D, w) => ⟨[.any, .any, .any, .any, .any, .any, .any, .int .i64 (nn : Int), .ptr 0 0, .int .i64 (np : Int), .int .i64 (room : Int), .str S, .int .i64 (t : Int), .any, .int .i64 (left : Int), .any, .any, .any, .any, .any, .any, .any, .any, .any, .any, .any, .any, .any, .any, .any, .any, .any, .any, .any, .any, .any, .any, .any, .any, .any, .any, .any, .any, .any, .any, .any, .any, .any, .any, .any, .any, .any, .any, .any, .any, .any, .any, .any, .any, .any, .any, .any, .any, .any, .any, .any, .any, .any, .any, .any, .any, .any, .any, .any, .any, .any, .any, .any, .any, .any, .any, .any, .any, .any, .any, .any, .any, .any, .any, .any, .any, .any, .any, .any, .any, .any, .any, .any, .any, .any, .any, .any, .any, .any, .any, .any, .any, .any, .any, .any, .any, .any, .any, .any, .any, .any], fwB D w⟩) (fun x => F7 zn cn x.2.1 x.2.2 (t + 1) ∧ x.2.2.ready = true ∧ x.2.2.used + x.1 = room) (fun x => x.1) (room - 1, D1, w1) ⟨hF1, hr1w, by rw [hu1]; omega⟩ (Weak.auto ?_) ?_
  · (repeat' ((conv => whnf); first | exact True.intro | (refine And.intro ?_ ?_)))
    all_goals first | rfl | exact .eq rfl | exact congrArg (SV.int .i64) hwl
  clear hF1 hr1w hu1 hg1 hi1 hk1 hw1 hz1 hc1 hwl hb0 hwo ho hi hF hsg
  rintro ⟨left, D, w⟩ ⟨hF, hrd, hul⟩
  dsimp only at hF hrd hul
  obtain ⟨now, hi⟩ := hF.inv
  have ho := hi.calm.ok
  have hwo := hi.wok
  have hb0 : D.buf.length ≤ 900000 := by rw [hi.calm.buf]; exact Nat.zero_le _
  have hz := hF.z
  have hc := hF.c
  have hsg := hseg hF
  have hpd : partsV D.sz ((nn : Nat) : Int) = np := by rw [hz]; exact hparts
  have hpS : partsV D.sz ((S.length : Nat) : Int) = np := by rw [hSl]; exact hpd
  have hS1 : S.length ≤ 1000000 := by omega
  (refine sx_sound Γok _ ?_; conv => whnf)
  refine Both.dec (fun hlt2 => ?_) (fun hge => ?_)
  · have hfit : fitsW D w ((nn : Nat) : Int) := by
      unfold fitsW
      rw [hpd, hsg]
      omega
    have hfitS : fitsW D w ((S.length : Nat) : Int) := by rw [hSl]; exact hfit
    have c1 : (!decide (fitsW D w ((nn : Nat) : Int))) = false := by rw [decide_eq_true hfit]; rfl
    obtain ⟨D2, hk2, hi2, hz2, hc2⟩ := inv_app (s := S) hi (by omega) hrd hfitS
    have hnpS : npar (D.sz - 25) S.length = np := by rw [hz, hSl]; exact hnp
    rw [hnpS] at hk2 hi2
    have hF2 : F7 zn cn D2 { w with used := w.used + np, sn := w.sn + 1 } (t + 1) := ⟨⟨_, hi2⟩, hz2.trans hz, hc2.trans hc, hF.g⟩
    have hwl : IntKind.i64.wrap ((left : Int) - (np : Int)) = ((left - np : Nat) : Int) := by rw [wrap_i64 (by omega) (by omega)]; omega
    obtain ⟨w2, hw2⟩ : ∃ w2 : W7, ({ w with used := w.used + np, sn := w.sn + 1 } : W7) = w2 := ⟨_, rfl⟩
    have hr2 : w2.ready = true := by rw [← hw2]; exact hrd
    have hu2 : w2.used = w.used + np := by rw [← hw2]
    rw [hw2] at hk2 hF2
    clear hi2 hw2
    (conv => whnf)
    (repeat (first | (refine CallVC.auto fitsW_k (wIn_mk ho hwo ?_); conv => whnf) | (refine Both.of_false c1 ?_; conv => whnf) | (refine CallVC.auto appW_kE (wIn_mk ho hwo ⟨hS1, hb0, 0, D2, w2, hk2.symm, ?_⟩); conv => whnf) | (exact Out.same; conv => whnf) | (exact Out1.same; conv => whnf) | (refine QAnd.mk ?_ ?_; conv => whnf) | (apply QStepH.go; conv => whnf) | (refine Both.lit_true ?_; conv => whnf) | (refine Both.lit_false ?_; conv => whnf) | (apply QStep.go; conv => whnf) | (refine Need.au ?_; conv => whnf) | (refine ⟨_, rfl, ?_⟩; conv => whnf)))
    refine ⟨(left - np, D2, w2), ⟨hF2, hr2, by rw [hu2]; show w.used + np + (left - np) = room; omega⟩, by show left - np < left; omega, Weak.auto ?_⟩
    (repeat' ((conv => whnf); first | exact True.intro | (refine And.intro ?_ ?_)))
    all_goals first | rfl | exact .eq rfl | exact congrArg (SV.int .i64) hwl
  · have hfit : ¬ fitsW D w ((nn : Nat) : Int) := by
      unfold fitsW
      rw [hpd, hsg]
      omega
    have hfitS : ¬ fitsW D w ((S.length : Nat) : Int) := by rw [hSl]; exact hfit
    have c1 : decide (fitsW D w ((nn : Nat) : Int)) = false := decide_eq_false hfit
    have hk2 := app_full (s := S) hi.br hrd (by rw [hpS]; omega) hfitS
    have hwl : IntKind.i64.wrap ((room : Int) - (left : Int)) = ((w.used : Nat) : Int) := by rw [wrap_i64 (by omega) (by omega)]; omega
    have c2 : (!decide (((w.used : Nat) : Int) = IntKind.i64.wrap ((room : Int) - (left : Int)))) = false := by rw [hwl]; simp
    (conv => whnf)
    (repeat (first | (refine CallVC.auto fitsW_k (wIn_mk ho hwo ?_); conv => whnf) | (refine Both.of_false c1 ?_; conv => whnf) | (refine CallVC.auto appW_kE (wIn_mk ho hwo ⟨hS1, hb0, 2, D, w, hk2.symm, ?_⟩); conv => whnf) | (refine CallVC.auto w7used_k (wIn_mk ho hwo ?_); conv => whnf) | (refine Both.of_false c2 ?_; conv => whnf) | (exact Out.same; conv => whnf) | (exact Out1.same; conv => whnf) | (refine QAnd.mk ?_ ?_; conv => whnf) | (apply QStepH.go; conv => whnf) | (refine Both.lit_true ?_; conv => whnf) | (refine Both.lit_false ?_; conv => whnf) | (apply QStep.go; conv => whnf) | (refine Need.au ?_; conv => whnf) | (refine ⟨_, rfl, ?_⟩; conv => whnf)))
    refine ⟨(t + 1, D, w), ⟨by show t + 1 ≤ 2; omega, hF⟩, by show 2 - (t + 1) < 2 - t; omega, Weak.auto ?_⟩
    (repeat' ((conv => whnf); first | exact True.intro | (refine And.intro ?_ ?_)))
    all_goals first | rfl | exact .eq rfl | exact congrArg (SV.int .i64) hwr
end Go.LX
end
section
set_option maxRecDepth 100000
set_option maxHeartbeats 1000000
set_option autoImplicit false
set_option linter.unusedVariables false
set_option linter.unusedSimpArgs false
namespace Go.LX
open Go.Proofs Go.RowKit Go.ChangeShapes Go.WideShapes Go.ChangeAt
section
variable {H : Type} {enc : TypeId × Value → H} {W : World}
end
end Go.LX
end
section
set_option maxRecDepth 100000
set_option maxHeartbeats 1000000
set_option autoImplicit false
set_option linter.unusedVariables false
set_option linter.unusedSimpArgs false
namespace Go.LX
open Go.Proofs Go.RowKit Go.ChangeShapes Go.WideShapes Go.ChangeAt
section
variable {H : Type} {enc : TypeId × Value → H} {W : World}
end
theorem u16_bd {n : Int} (h : (Lit.int .u16 n).wf = true) : 0 ≤ n ∧ n < 65536 := ⟨(wf_out h).1, Int.lt_of_le_of_lt (wf_out h).2 (by decide)⟩
end Go.LX
end
section
set_option maxRecDepth 100000
set_option maxHeartbeats 4000000
set_option autoImplicit false
set_option linter.unusedVariables false
set_option linter.unusedSimpArgs false
namespace Go.LX
open Go.Proofs Go.Proofs.YtpimpjcknammfaaGreatDoor Go.RowKit Go.ChangeShapes Go.WideShapes Go.ChangeAt

theorem law_runG {P : Program} {G : Gl} {f : FuncId} {S : Spec} (hM : Meets P G f S) {svs : List SV} {vs : List Value} {W : World} (hv : VRs (E0 W) W svs vs) (hg : GlOk (E0 W) W G) (hS : S svs [] fun r _ => r = .bool true) :
    Calls P f vs.toArray W fun e W' => e = .returned (.bool true) ∧ Below W.heap.size W W' := by
  refine (hM svs [] _ hS (E0 W) W vs hv (rel0 W) hg).mono ?_
  rintro e W' ⟨v, r, H', E', rfl, rfl, hv, _, hst, _⟩
  cases hv
  exact ⟨rfl, hst.os, hst.tape, hst.output, hst.size, fun k hk => hst.keep k hk (fun ⟨i, o, h, _⟩ => by simp at h)⟩
theorem gl_none {W : World} {l : List (String × DataW Unit)} (_ : laidMetH Tryz.prog l W) : GlOk (E0 W) W [] := ⟨fun g cs h => absurd h (by simp)⟩
abbrev laidU : List (String × DataW Unit) := [("unicode/utf8.acceptRanges", Rows.laid_unicode_utf8_acceptRanges), ("unicode/utf8.first", Rows.laid_unicode_utf8_first)]
end Go.LX
end
