/- Own texts of this claim, in build order: Vd, Ve, Vf, Vg, Vh, De, Df, Dg, Dh, Vi, Fg, Fh, Ff, Fi, Fk, Fl, Fj, Wz, Fo, Fn. -/
import Derived.Test.YtpimpjcknammfaaGreatDoorX4
section
set_option maxRecDepth 100000
set_option maxHeartbeats 2000000
set_option autoImplicit false
set_option linter.unusedVariables false
set_option linter.unusedSimpArgs false
namespace Go.LX
open Go.Proofs

def splitPS : Spec := fun args H Q => match args, H with
  | [.int .i64 z, .int .u64 g, .int .u64 sr, .str s], [] => ∃ gn sn : Nat, g = gn ∧ sr = sn ∧ gn < 18446744073709551616 ∧ sn < 18446744073709551616 ∧ s.length ≤ 9223372036854775807 ∧
      ∃ (L : SV) (e : Int), (L, e) = (if partsV z s.length = 0 then (.nilsl, 1) else (.sl 1 (splitL z.toNat gn sn s).length ((splitL z.toNat gn sn s).map CV.str) false, 0)) ∧ Q (.tuple [L, .int .i64 e]) []
  | _, _ => False
theorem splitP_k : Contract Tryz.prog [] 37 splitPS := fsplit_k.post fun args H Q h => by
  unfold splitPS at h
  split at h
  case h_2 => exact h.elim
  rename_i z g sr s
  obtain ⟨gn, sn, rfl, rfl, h1, h2, h3, L, e, he, h⟩ := h
  refine ⟨gn, sn, rfl, rfl, h1, h2, h3, fun h0 => ?_, fun h0 => ?_⟩
  · obtain ⟨rfl, rfl⟩ := Prod.mk.inj (he.trans (if_pos h0))
    exact ⟨_, _, WeakV.drop rfl, h⟩
  · obtain ⟨rfl, rfl⟩ := Prod.mk.inj (he.trans (if_neg h0))
    exact ⟨_, _, (WeakV.pubTup (e := 9) (sz := 1) (n := (splitL z.toNat gn sn s).length) (xs := strL (splitL z.toNat gn sn s)) (wr := true) 0 rfl).trans (WeakV.drop rfl), h⟩
def w7putES : Spec := fun args H Q => match args with
  | [.agg [.ptr 0 0], .int .i64 n, .sl 1 m cs f] => dIn H fun D => ∃ l : List Bs, m = l.length ∧ cs = l.map CV.str ∧ 0 ≤ n ∧ n ≤ 1000000 ∧ l.length ≤ 1000000 ∧ D.buf.length + l.length < 1000000 ∧ ∃ e D', (e, D') = putV D n l ∧ Q (.int .i64 e) (dA D')
  | _ => False
theorem dIn_imp7 {H : List LObj} {k k' : Dsk → Prop} (h : dIn H k) (hk : ∀ D, k D → k' D) : dIn H k' := by
  unfold dIn at h ⊢
  split at h
  · obtain ⟨D, h1, h2, h3, h4, h5, h6, h7, h8, h9⟩ := h
    exact ⟨D, h1, h2, h3, h4, h5, h6, h7, h8, hk D h9⟩
  · exact h.elim
theorem w7putE_k : Contract Tryz.prog [] 38 w7putES := w7put_k.imp fun args H Q h => by
  unfold w7putES at h
  split at h
  case h_2 => exact h.elim
  exact dIn_imp7 h fun D ⟨l, h1, h2, h3, h4, h5, h6, e, D', h7, h8⟩ => ⟨l, h1, h2, h3, h4, h5, h6, fun e2 D2 he => by
    obtain ⟨rfl, rfl⟩ := Prod.mk.inj (he.trans h7.symm)
    exact h8⟩
theorem w7splitL_len (z g sr : Nat) (s : Bs) : (splitL z g sr s).length = npar (z - 25) s.length := by
  unfold splitL
  rw [List.length_map, List.length_range]
def apB (D : Dsk) (w : W7) (s : Bs) : List LObj := [.cells [.ptr 1 0] 27, .cells [.ptr 2 0, .int .u64 (w.g : Int), .int .i64 w.sg, .int .i64 w.slot, .int .i64 (w.used : Int), .int .u64 (w.sn : Int), .bool w.ready, .bool w.broken] 74, .cells [.int .i64 (D.sz : Int), .int .i64 (D.sc : Int), .own 3, .own 4, .int .i64 (D.ar : Int)] 79, .own 9 1 D.st.length (D.st.map CV.str) true, .own 91 2 D.buf.length (D.buf.flatMap wrEn) true, .cells [.str s] 9]
def apA (D : Dsk) (w : W7) (s : Bs) : List LObj := [.cells [.ptr 1 0] 27, .cells [.ptr 2 0, .int .u64 (w.g : Int), .int .i64 w.sg, .int .i64 w.slot, .int .i64 (w.used : Int), .int .u64 (w.sn : Int), .bool w.ready, .bool w.broken] 74, .cells [.int .i64 (D.sz : Int), .int .i64 (D.sc : Int), .own 3, .own 6, .int .i64 (D.ar : Int)] 79, .own 9 1 D.st.length (D.st.map CV.str) true, .gone, .cells [.str s] 9, .own 91 2 D.buf.length (D.buf.flatMap wrEn) true]
def apIn (H : List LObj) (k : Dsk → W7 → Bs → Prop) : Prop :=
  match H with
  | [.cells [.ptr 1 0] 27, .cells [.ptr 2 0, .int .u64 g, .int .i64 sg, .int .i64 sl, .int .i64 us, .int .u64 sn, .bool rd, .bool br] 74, .cells [.int .i64 z, .int .i64 c, .own 3, .own 4, .int .i64 a] 79, .own 9 1 n xs true, .own 91 2 m ys true, .cells [.str s] 9] =>
    ∃ (D : Dsk) (w : W7), (g = w.g ∧ sg = w.sg ∧ sl = w.slot ∧ us = w.used ∧ sn = w.sn ∧ rd = w.ready ∧ br = w.broken) ∧ (z = D.sz ∧ c = D.sc ∧ a = D.ar ∧ n = D.st.length ∧ xs = D.st.map CV.str ∧ m = D.buf.length ∧ ys = D.buf.flatMap wrEn) ∧ D.Ok ∧ w.Ok D ∧ k D w s
  | _ => False
theorem apIn_out {H : List LObj} {k : Dsk → W7 → Bs → Prop} (h : apIn H k) : ∃ (D : Dsk) (w : W7) (s : Bs), H = apB D w s ∧ D.Ok ∧ w.Ok D ∧ k D w s := by
  unfold apIn at h
  split at h
  case h_2 => exact h.elim
  rename_i s
  obtain ⟨D, w, ⟨rfl, rfl, rfl, rfl, rfl, rfl, rfl⟩, ⟨rfl, rfl, rfl, rfl, rfl, rfl, rfl⟩, h1, h2, h3⟩ := h
  exact ⟨D, w, s, rfl, h1, h2, h3⟩
def appP (D : Dsk) (w : W7) (s : Bs) : Int × Dsk × W7 :=
  if w.ready = false then (15, D, w) else if partsV D.sz s.length = 0 then (1, D, w) else if ¬ fitsW D w s.length then (2, D, w) else
  if (putV D (baseV D w.sg + w.used) (splitL D.sz w.g w.sn s)).1 = 0 then
    (0, (putV D (baseV D w.sg + w.used) (splitL D.sz w.g w.sn s)).2, { w with used := w.used + (splitL D.sz w.g w.sn s).length, sn := w.sn + 1 })
  else ((putV D (baseV D w.sg + w.used) (splitL D.sz w.g w.sn s)).1, (putV D (baseV D w.sg + w.used) (splitL D.sz w.g w.sn s)).2, w)
def app1S : Spec := fun args H Q => match args with
  | [.ptr 0 0, .ptr 5 0] => apIn H fun D w s => s.length ≤ 1000000 ∧ D.buf.length ≤ 900000 ∧ ∀ e D' w', (e, D', w') = appP D w s → Q (.int .i64 e) (apA D' w' s)
  | _ => False
theorem app1_c : Meets Tryz.prog [] 41 app1S := by
  refine meets_of Γok Tryz.func41 rfl ?_
  intro args H Q h
  unfold app1S at h
  split at h
  case h_2 => exact h.elim
  obtain ⟨D, w, s, rfl, ho, hw, hs, hb, h⟩ := apIn_out h
  have hsz := ho.sz
  have hsc := ho.sc
  have hs4 := hw.sc
  have hg := hw.g
  have hu := hw.used
  have hsn := hw.sn
  have hsg := hw.sg
  have hv : segV D ≤ 2047 := by unfold segV; omega
  cases hr : w.ready with
  | false =>
    have h := h 15 D w (by unfold appP; rw [if_pos hr])
    have c1 : (!w.ready) = true := by rw [hr]; rfl
    (refine sx_sound Γok _ ?_; conv => whnf)
    (repeat (first | (refine Both.of_true c1 ?_; conv => whnf) | (exact Out.same; conv => whnf) | (exact Out1.same; conv => whnf) | (refine QAnd.mk ?_ ?_; conv => whnf) | (apply QStepH.go; conv => whnf) | (refine Both.lit_true ?_; conv => whnf) | (refine Both.lit_false ?_; conv => whnf) | (apply QStep.go; conv => whnf) | (refine Need.au ?_; conv => whnf) | (refine ⟨_, rfl, ?_⟩; conv => whnf)))
    refine ⟨_, _, WeakV.trans (WeakV.of (Weak.fresh 4 2 3 rfl rfl rfl)) (WeakV.auto ?_), h⟩
    (repeat' ((conv => whnf); first | exact True.intro | (refine And.intro ?_ ?_)))
    all_goals first | rfl | exact .eq rfl
  | true =>
  have c1 : (!w.ready) = false := by rw [hr]; rfl
  have hnr : ¬ w.ready = false := by rw [hr]; decide
  by_cases hp : partsV D.sz s.length = 0
  · have h := h 1 D w (by unfold appP; rw [if_neg hnr, if_pos hp])
    have hsp : ((.nilsl, 1) : SV × Int) = (if partsV D.sz s.length = 0 then (.nilsl, 1) else (.sl 1 (splitL (D.sz : Int).toNat w.g w.sn s).length ((splitL (D.sz : Int).toNat w.g w.sn s).map CV.str) false, 0)) := (if_pos hp).symm
    (refine sx_sound Γok _ ?_; conv => whnf)
    (repeat (first | (refine Both.of_false c1 ?_; conv => whnf) | (exact Out.same; conv => whnf) | (exact Out1.same; conv => whnf) | (refine QAnd.mk ?_ ?_; conv => whnf) | (apply QStepH.go; conv => whnf) | (refine Both.lit_true ?_; conv => whnf) | (refine Both.lit_false ?_; conv => whnf) | (apply QStep.go; conv => whnf) | (refine Need.au ?_; conv => whnf) | (refine ⟨_, rfl, ?_⟩; conv => whnf)))
    (refine DrawVC.any Γok (by kernel_rfl) (by kernel_rfl) (by kernel_rfl) (by rfl) ?_; conv => whnf)
    (repeat (first | (refine CallVC.auto splitP_k ⟨w.g, w.sn, rfl, rfl, hg.2, by omega, by omega, .nilsl, 1, hsp, ?_⟩; conv => whnf) | (exact Out.same; conv => whnf) | (exact Out1.same; conv => whnf) | (refine QAnd.mk ?_ ?_; conv => whnf) | (apply QStepH.go; conv => whnf) | (refine Both.lit_true ?_; conv => whnf) | (refine Both.lit_false ?_; conv => whnf) | (apply QStep.go; conv => whnf) | (refine Need.au ?_; conv => whnf) | (refine ⟨_, rfl, ?_⟩; conv => whnf) | (refine CallVC.auto sizeD_k ?_; conv => whnf)))
    refine ⟨_, _, WeakV.trans (WeakV.of (Weak.fresh 4 2 3 rfl rfl rfl)) (WeakV.auto ?_), h⟩
    (repeat' ((conv => whnf); first | exact True.intro | (refine And.intro ?_ ?_)))
    all_goals first | rfl | exact .eq rfl
  have htn : (D.sz : Int).toNat = D.sz := Int.toNat_natCast _
  obtain ⟨L, hL⟩ : ∃ L, splitL D.sz w.g w.sn s = L := ⟨_, rfl⟩
  have hsp : ((.sl 1 L.length (L.map CV.str) false, 0) : SV × Int) = (if partsV D.sz s.length = 0 then (.nilsl, 1) else (.sl 1 (splitL (D.sz : Int).toNat w.g w.sn s).length ((splitL (D.sz : Int).toNat w.g w.sn s).map CV.str) false, 0)) := by rw [if_neg hp, htn, hL]
  by_cases hf : fitsW D w s.length
  case neg =>
    have h := h 2 D w (by unfold appP; rw [if_neg hnr, if_neg hp, if_pos hf])
    (refine sx_sound Γok _ ?_; conv => whnf)
    (repeat (first | (refine Both.of_false c1 ?_; conv => whnf) | (exact Out.same; conv => whnf) | (exact Out1.same; conv => whnf) | (refine QAnd.mk ?_ ?_; conv => whnf) | (apply QStepH.go; conv => whnf) | (refine Both.lit_true ?_; conv => whnf) | (refine Both.lit_false ?_; conv => whnf) | (apply QStep.go; conv => whnf) | (refine Need.au ?_; conv => whnf) | (refine ⟨_, rfl, ?_⟩; conv => whnf)))
    (refine DrawVC.any Γok (by kernel_rfl) (by kernel_rfl) (by kernel_rfl) (by rfl) ?_; conv => whnf)
    (repeat (first | (refine CallVC.auto splitP_k ⟨w.g, w.sn, rfl, rfl, hg.2, by omega, by omega, .sl 1 L.length (L.map CV.str) false, 0, hsp, ?_⟩; conv => whnf) | (exact Out.same; conv => whnf) | (exact Out1.same; conv => whnf) | (refine QAnd.mk ?_ ?_; conv => whnf) | (apply QStepH.go; conv => whnf) | (refine Both.lit_true ?_; conv => whnf) | (refine Both.lit_false ?_; conv => whnf) | (apply QStep.go; conv => whnf) | (refine Need.au ?_; conv => whnf) | (refine ⟨_, rfl, ?_⟩; conv => whnf) | (refine CallVC.auto sizeD_k ?_; conv => whnf)))
    have c2 : (!decide (fitsW D w ((s.length : Nat) : Int))) = true := by rw [decide_eq_false hf]; rfl
    refine CallVC.auto fitsW_k (wIn_mk ho hw ?_)
    (conv => whnf)
    (repeat (first | (refine Both.of_true c2 ?_; conv => whnf) | (exact Out.same; conv => whnf) | (exact Out1.same; conv => whnf) | (refine QAnd.mk ?_ ?_; conv => whnf) | (apply QStepH.go; conv => whnf) | (refine Both.lit_true ?_; conv => whnf) | (refine Both.lit_false ?_; conv => whnf) | (apply QStep.go; conv => whnf) | (refine Need.au ?_; conv => whnf) | (refine ⟨_, rfl, ?_⟩; conv => whnf)))
    refine ⟨_, _, WeakV.trans (WeakV.of (Weak.fresh 4 2 3 rfl rfl rfl)) (WeakV.auto ?_), h⟩
    (repeat' ((conv => whnf); first | exact True.intro | (refine And.intro ?_ ?_)))
    all_goals first | rfl | exact .eq rfl
  have c2 : (!decide (fitsW D w ((s.length : Nat) : Int))) = false := by rw [decide_eq_true hf]; rfl
  obtain ⟨f1, f2⟩ := hf
  have hLp : L.length = partsV D.sz s.length := by
    rw [← hL, w7splitL_len]
    unfold partsV at hp ⊢
    split
    · rw [Int.toNat_natCast, Int.toNat_natCast]
    · rename_i q
      rw [if_neg q] at hp
      exact absurd rfl hp
  have hbv : 2 ≤ baseV D w.sg ∧ baseV D w.sg ≤ 2 + ((segV D : Nat) : Int) := by unfold baseV; split <;> omega
  have hwb : IntKind.i64.wrap (baseV D w.sg + ((w.used : Nat) : Int)) = baseV D w.sg + ((w.used : Nat) : Int) := wrap_i64 (by omega) (by omega)
  have hn0 : 0 ≤ IntKind.i64.wrap (baseV D w.sg + ((w.used : Nat) : Int)) := by rw [hwb]; omega
  have hn1 : IntKind.i64.wrap (baseV D w.sg + ((w.used : Nat) : Int)) ≤ 1000000 := by rw [hwb]; omega
  have h2 : 2 ≤ D.sc := by omega
  have hap : appP D w s = (if (putV D (baseV D w.sg + w.used) L).1 = 0 then (0, (putV D (baseV D w.sg + w.used) L).2, { w with used := w.used + L.length, sn := w.sn + 1 }) else ((putV D (baseV D w.sg + w.used) L).1, (putV D (baseV D w.sg + w.used) L).2, w)) := by
    unfold appP
    rw [if_neg hnr, if_neg hp, if_neg (fun q => q ⟨f1, f2⟩), hL]
  obtain ⟨e1, D1, hput⟩ : ∃ e1 D1, putV D (baseV D w.sg + w.used) L = (e1, D1) := ⟨_, _, rfl⟩
  rw [hput] at hap
  have hput2 : (e1, D1) = putV D (IntKind.i64.wrap (baseV D w.sg + ((w.used : Nat) : Int))) L := by rw [hwb]; exact hput.symm
  rw [hap] at h
  (refine sx_sound Γok _ ?_; conv => whnf)
  (repeat (first | (refine Both.of_false c1 ?_; conv => whnf) | (exact Out.same; conv => whnf) | (exact Out1.same; conv => whnf) | (refine QAnd.mk ?_ ?_; conv => whnf) | (apply QStepH.go; conv => whnf) | (refine Both.lit_true ?_; conv => whnf) | (refine Both.lit_false ?_; conv => whnf) | (apply QStep.go; conv => whnf) | (refine Need.au ?_; conv => whnf) | (refine ⟨_, rfl, ?_⟩; conv => whnf)))
  (refine DrawVC.any Γok (by kernel_rfl) (by kernel_rfl) (by kernel_rfl) (by rfl) ?_; conv => whnf)
  (repeat (first | (refine CallVC.auto splitP_k ⟨w.g, w.sn, rfl, rfl, hg.2, by omega, by omega, .sl 1 L.length (L.map CV.str) false, 0, hsp, ?_⟩; conv => whnf) | (exact Out.same; conv => whnf) | (exact Out1.same; conv => whnf) | (refine QAnd.mk ?_ ?_; conv => whnf) | (apply QStepH.go; conv => whnf) | (refine Both.lit_true ?_; conv => whnf) | (refine Both.lit_false ?_; conv => whnf) | (apply QStep.go; conv => whnf) | (refine Need.au ?_; conv => whnf) | (refine ⟨_, rfl, ?_⟩; conv => whnf) | (refine CallVC.auto sizeD_k ?_; conv => whnf)))
  refine CallVC.auto fitsW_k (wIn_mk ho hw ?_)
  (conv => whnf)
  (repeat (first | (refine Both.of_false c2 ?_; conv => whnf) | (exact Out.same; conv => whnf) | (exact Out1.same; conv => whnf) | (refine QAnd.mk ?_ ?_; conv => whnf) | (apply QStepH.go; conv => whnf) | (refine Both.lit_true ?_; conv => whnf) | (refine Both.lit_false ?_; conv => whnf) | (apply QStep.go; conv => whnf) | (refine Need.au ?_; conv => whnf) | (refine ⟨_, rfl, ?_⟩; conv => whnf)))
  (refine DrawVC.any Γok (by kernel_rfl) (by kernel_rfl) (by kernel_rfl) (by rfl) ?_; conv => whnf)
  (repeat (first | (refine CallVC.auto base_k (dIn_mk ho ⟨h2, hsg.1, hsg.2, ?_⟩); conv => whnf) | (refine CallVC.auto w7putE_k (dIn_mk ho ⟨L, rfl, rfl, hn0, hn1, by omega, by omega, e1, D1, hput2, ?_⟩); conv => whnf) | (exact Out.same; conv => whnf) | (exact Out1.same; conv => whnf) | (refine QAnd.mk ?_ ?_; conv => whnf) | (apply QStepH.go; conv => whnf) | (refine Both.lit_true ?_; conv => whnf) | (refine Both.lit_false ?_; conv => whnf) | (apply QStep.go; conv => whnf) | (refine Need.au ?_; conv => whnf) | (refine ⟨_, rfl, ?_⟩; conv => whnf)))
  refine Both.dec_not (fun hne => ?_) (fun heq => ?_)
  · have h := h e1 D1 w (by
      show (e1, D1, w) = if e1 = 0 then _ else _
      rw [if_neg hne])
    (conv => whnf)
    (repeat (first | (exact Out.same; conv => whnf) | (exact Out1.same; conv => whnf) | (refine QAnd.mk ?_ ?_; conv => whnf) | (apply QStepH.go; conv => whnf) | (refine Both.lit_true ?_; conv => whnf) | (refine Both.lit_false ?_; conv => whnf) | (apply QStep.go; conv => whnf) | (refine Need.au ?_; conv => whnf) | (refine ⟨_, rfl, ?_⟩; conv => whnf)))
    refine ⟨_, _, WeakV.auto ?_, h⟩
    (repeat' ((conv => whnf); first | exact True.intro | (refine And.intro ?_ ?_)))
    all_goals first | rfl | exact .eq rfl
  · have h := h 0 D1 { w with used := w.used + L.length, sn := w.sn + 1 } (by
      show _ = if e1 = 0 then _ else _
      rw [if_pos heq])
    have hw1 : IntKind.i64.wrap (((w.used : Nat) : Int) + ((L.length : Nat) : Int)) = ((w.used + L.length : Nat) : Int) := by rw [wrap_i64 (by omega) (by omega)]; omega
    have hw2 : IntKind.u64.wrap (((w.sn : Nat) : Int) + 1) = ((w.sn + 1 : Nat) : Int) := by rw [wrap_u64 (by omega) (by omega)]; omega
    have hce : ([SV.ptr 2 0, .int .u64 (w.g : Int), .int .i64 w.sg, .int .i64 w.slot, .int .i64 (IntKind.i64.wrap (((w.used : Nat) : Int) + ((L.length : Nat) : Int))), .int .u64 (IntKind.u64.wrap (((w.sn : Nat) : Int) + 1)), .bool w.ready, .bool w.broken] : List SV) = [SV.ptr 2 0, .int .u64 (w.g : Int), .int .i64 w.sg, .int .i64 w.slot, .int .i64 ((w.used + L.length : Nat) : Int), .int .u64 ((w.sn + 1 : Nat) : Int), .bool w.ready, .bool w.broken] := by rw [hw1, hw2]
    (conv => whnf)
    (repeat (first | (exact Out.same; conv => whnf) | (exact Out1.same; conv => whnf) | (refine QAnd.mk ?_ ?_; conv => whnf) | (apply QStepH.go; conv => whnf) | (refine Both.lit_true ?_; conv => whnf) | (refine Both.lit_false ?_; conv => whnf) | (apply QStep.go; conv => whnf) | (refine Need.au ?_; conv => whnf) | (refine ⟨_, rfl, ?_⟩; conv => whnf)))
    refine ⟨_, _, WeakV.auto ?_, h⟩
    (repeat' ((conv => whnf); first | exact True.intro | (refine And.intro ?_ ?_)))
    all_goals first | rfl | exact .eq rfl | exact .eq hce
theorem app1_k : Contract Tryz.prog [] 41 app1S := ⟨⟨⟨_, rfl, rfl, rfl⟩⟩, app1_c⟩
end Go.LX
end
section
set_option maxRecDepth 100000
set_option maxHeartbeats 2000000
set_option autoImplicit false
set_option linter.unusedVariables false
set_option linter.unusedSimpArgs false
namespace Go.LX
open Go.Proofs

def lyB (D : Dsk) (w : W7) (s : Bs) : List LObj := wB D w ++ [.cells [.ptr 0 0] 27, .cells [.str s] 9]
def lyA (D : Dsk) (w : W7) (s : Bs) : List LObj := [wCells w, .cells [.int .i64 (D.sz : Int), .int .i64 (D.sc : Int), .own 2, .own 6, .int .i64 (D.ar : Int)] 79, .own 9 1 D.st.length (D.st.map CV.str) true, .gone, .cells [.ptr 0 0] 27, .cells [.str s] 9, .own 91 2 D.buf.length (D.buf.flatMap wrEn) true]
def lyIn (H : List LObj) (k : Dsk → W7 → Bs → Prop) : Prop :=
  match H with
  | [.cells [.ptr 1 0, .int .u64 g, .int .i64 sg, .int .i64 sl, .int .i64 us, .int .u64 sn, .bool rd, .bool br] 74, .cells [.int .i64 z, .int .i64 c, .own 2, .own 3, .int .i64 a] 79, .own 9 1 n xs true, .own 91 2 m ys true, .cells [.ptr 0 0] 27, .cells [.str s] 9] =>
    ∃ (D : Dsk) (w : W7), (g = w.g ∧ sg = w.sg ∧ sl = w.slot ∧ us = w.used ∧ sn = w.sn ∧ rd = w.ready ∧ br = w.broken) ∧ (z = D.sz ∧ c = D.sc ∧ a = D.ar ∧ n = D.st.length ∧ xs = D.st.map CV.str ∧ m = D.buf.length ∧ ys = D.buf.flatMap wrEn) ∧ D.Ok ∧ w.Ok D ∧ k D w s
  | _ => False
theorem lyIn_out {H : List LObj} {k : Dsk → W7 → Bs → Prop} (h : lyIn H k) : ∃ (D : Dsk) (w : W7) (s : Bs), H = lyB D w s ∧ D.Ok ∧ w.Ok D ∧ k D w s := by
  unfold lyIn at h
  split at h
  case h_2 => exact h.elim
  rename_i s
  obtain ⟨D, w, ⟨rfl, rfl, rfl, rfl, rfl, rfl, rfl⟩, ⟨rfl, rfl, rfl, rfl, rfl, rfl, rfl⟩, h1, h2, h3⟩ := h
  exact ⟨D, w, s, rfl, h1, h2, h3⟩
def appL (D : Dsk) (w : W7) (s : Bs) : Int × Dsk × W7 :=
  if w.broken = true then (14, D, w) else ((appP D w s).1, (appP D w s).2.1, { (appP D w s).2.2 with broken := decide ((appP D w s).1 = 13) })
def layAS : Spec := fun args H Q => match args with
  | [.ptr 0 0, .func (.func 41) [.ptr 4 0, .ptr 5 0]] => lyIn H fun D w s => s.length ≤ 1000000 ∧ D.buf.length ≤ 900000 ∧ ∀ e D' w', (e, D', w') = appL D w s → Q (.int .i64 e) (lyA D' w' s)
  | _ => False
theorem layA_c : Meets Tryz.prog [] 31 layAS := by
  refine meets_of Γok Tryz.func31 rfl ?_
  intro args H Q h
  unfold layAS at h
  split at h
  case h_2 => exact h.elim
  obtain ⟨D, w, s, rfl, ho, hw, hs, hb, h⟩ := lyIn_out h
  cases hbr : w.broken with
  | true =>
    have h := h 14 D w (by unfold appL; rw [if_pos hbr])
    (refine sx_sound Γok _ ?_; conv => whnf)
    (repeat (first | (refine Both.of_true hbr ?_; conv => whnf) | (exact Out.same; conv => whnf) | (exact Out1.same; conv => whnf) | (refine QAnd.mk ?_ ?_; conv => whnf) | (apply QStepH.go; conv => whnf) | (refine Both.lit_true ?_; conv => whnf) | (refine Both.lit_false ?_; conv => whnf) | (apply QStep.go; conv => whnf) | (refine Need.au ?_; conv => whnf) | (refine ⟨_, rfl, ?_⟩; conv => whnf)))
    refine ⟨_, _, WeakV.trans (WeakV.of (Weak.fresh 3 1 3 rfl rfl rfl)) (WeakV.auto ?_), h⟩
    (repeat' ((conv => whnf); first | exact True.intro | (refine And.intro ?_ ?_)))
    all_goals first | rfl | exact .eq rfl
  | false =>
    have hnb : ¬ w.broken = true := by rw [hbr]; decide
    obtain ⟨e1, D1, w1, hap⟩ : ∃ e1 D1 w1, appP D w s = (e1, D1, w1) := ⟨_, _, _, rfl⟩
    have h := h e1 D1 { w1 with broken := decide (e1 = 13) } (by unfold appL; rw [if_neg hnb, hap])
    (refine sx_sound Γok _ ?_; conv => whnf)
    (repeat (first | (refine Both.of_false hbr ?_; conv => whnf) | (exact Out.same; conv => whnf) | (exact Out1.same; conv => whnf) | (refine QAnd.mk ?_ ?_; conv => whnf) | (apply QStepH.go; conv => whnf) | (refine Both.lit_true ?_; conv => whnf) | (refine Both.lit_false ?_; conv => whnf) | (apply QStep.go; conv => whnf) | (refine Need.au ?_; conv => whnf) | (refine ⟨_, rfl, ?_⟩; conv => whnf)))
    refine CallClo.auto app1_k ⟨D, w, ⟨rfl, rfl, rfl, rfl, rfl, rfl, rfl⟩, ⟨rfl, rfl, rfl, rfl, rfl, rfl, rfl⟩, ho, hw, hs, hb, fun e2 D2 w2 he => ?_⟩
    obtain ⟨u1, u2⟩ := Prod.mk.inj (he.trans hap)
    obtain ⟨u2, u3⟩ := Prod.mk.inj u2
    clear he
    subst u1 u2 u3
    (conv => whnf)
    (repeat (first | (exact Out.same; conv => whnf) | (exact Out1.same; conv => whnf) | (refine QAnd.mk ?_ ?_; conv => whnf) | (apply QStepH.go; conv => whnf) | (refine Both.lit_true ?_; conv => whnf) | (refine Both.lit_false ?_; conv => whnf) | (apply QStep.go; conv => whnf) | (refine Need.au ?_; conv => whnf) | (refine ⟨_, rfl, ?_⟩; conv => whnf)))
    refine ⟨_, _, WeakV.auto ?_, h⟩
    (repeat' ((conv => whnf); first | exact True.intro | (refine And.intro ?_ ?_)))
    all_goals first | rfl | exact .eq rfl
theorem layA_k : Contract Tryz.prog [] 31 layAS := ⟨⟨⟨_, rfl, rfl, rfl⟩⟩, layA_c⟩
def appWS : Spec := fun args H Q => match args with
  | [.ptr 0 0, .str s] => wIn H fun D w => s.length ≤ 1000000 ∧ D.buf.length ≤ 900000 ∧ ∀ e D' w', (e, D', w') = appL D w s → Q (.int .i64 e) (wA D' w')
  | _ => False
theorem appW_c : Meets Tryz.prog [] 12 appWS := by
  refine meets_of Γok Tryz.func12 rfl ?_
  intro args H Q h
  unfold appWS at h
  split at h
  case h_2 => exact h.elim
  rename_i s
  obtain ⟨D, w, rfl, ho, hw, hs, hb, h⟩ := wIn_out h
  (refine sx_sound Γok _ ?_; conv => whnf)
  (repeat (first | (exact Out.same; conv => whnf) | (exact Out1.same; conv => whnf) | (refine QAnd.mk ?_ ?_; conv => whnf) | (apply QStepH.go; conv => whnf) | (refine Both.lit_true ?_; conv => whnf) | (refine Both.lit_false ?_; conv => whnf) | (apply QStep.go; conv => whnf) | (refine Need.au ?_; conv => whnf) | (refine ⟨_, rfl, ?_⟩; conv => whnf)))
  refine CallVC.auto layA_k ⟨D, w, ⟨rfl, rfl, rfl, rfl, rfl, rfl, rfl⟩, ⟨rfl, rfl, rfl, rfl, rfl, rfl, rfl⟩, ho, hw, hs, hb, fun e2 D2 w2 he => ?_⟩
  have h := h e2 D2 w2 he
  (conv => whnf)
  (repeat (first | (exact Out.same; conv => whnf) | (exact Out1.same; conv => whnf) | (refine QAnd.mk ?_ ?_; conv => whnf) | (apply QStepH.go; conv => whnf) | (refine Both.lit_true ?_; conv => whnf) | (refine Both.lit_false ?_; conv => whnf) | (apply QStep.go; conv => whnf) | (refine Need.au ?_; conv => whnf) | (refine ⟨_, rfl, ?_⟩; conv => whnf)))
  refine ⟨_, _, WeakV.auto ?_, h⟩
  (repeat' ((conv => whnf); first | exact True.intro | (refine And.intro ?_ ?_)))
  all_goals first | rfl | exact .eq rfl
theorem appW_k : Contract Tryz.prog [] 12 appWS := ⟨⟨⟨_, rfl, rfl, rfl⟩⟩, appW_c⟩
end Go.LX
end
section
set_option maxRecDepth 100000
set_option maxHeartbeats 2000000
set_option autoImplicit false
set_option linter.unusedVariables false
set_option linter.unusedSimpArgs false
namespace Go.LX
open Go.Proofs

theorem wr_geo (D : Dsk) (n : Int) (s : Bs) : (D.wr n s).2.sz = D.sz ∧ (D.wr n s).2.sc = D.sc := by
  unfold Dsk.wr
  split
  · split <;> exact ⟨rfl, rfl⟩
  · exact ⟨rfl, rfl⟩
theorem fl_geo (D : Dsk) : D.fl.2.sz = D.sz ∧ D.fl.2.sc = D.sc := by
  unfold Dsk.fl
  split <;> exact ⟨rfl, rfl⟩
theorem fl_buf (D : Dsk) : D.fl.2.buf.length ≤ D.buf.length := by
  unfold Dsk.fl
  split
  · exact Nat.le_refl _
  · exact Nat.zero_le _
theorem putV_geo : ∀ (l : List Bs) (D : Dsk) (n : Int), (putV D n l).2.sz = D.sz ∧ (putV D n l).2.sc = D.sc
  | [], D, n => fl_geo D
  | t :: l, D, n => by
    have h1 := wr_geo D n t
    rw [putV]
    split
    · have h2 := putV_geo l (D.wr n t).2 (n + 1)
      exact ⟨h2.1.trans h1.1, h2.2.trans h1.2⟩
    · exact h1
theorem putV_buf : ∀ (l : List Bs) (D : Dsk) (n : Int), (putV D n l).2.buf.length ≤ D.buf.length + l.length
  | [], D, n => fl_buf D
  | t :: l, D, n => by
    have h1 := wr_buf D n t
    rw [putV]
    split
    · have h2 := putV_buf l (D.wr n t).2 (n + 1)
      rw [List.length_cons]
      omega
    · rw [List.length_cons]
      omega
theorem putV_ok : ∀ (l : List Bs) (D : Dsk) (n : Int), D.Ok → D.buf.length + l.length < 1000000 → (putV D n l).2.Ok
  | [], D, n, h, hb => h.fl
  | t :: l, D, n, h, hb => by
    have h1 := wr_buf D n t
    rw [List.length_cons] at hb
    have h3 := h.wr (n := n) (s := t) (by omega)
    rw [putV]
    split
    · exact putV_ok l (D.wr n t).2 (n + 1) h3 (by omega)
    · exact h3
def chkP (D : Dsk) (w : W7) (s : Bs) : Int × Dsk × W7 :=
  if partsV D.sz s.length = 0 then (1, D, w) else if segV D < partsV D.sz s.length then (2, D, w) else
  if (hNext w.g w.sg).2 ≠ 0 then ((hNext w.g w.sg).2, D, w) else
  if (putV D (baseV D (hNext w.g w.sg).1.2) (splitL D.sz (hNext w.g w.sg).1.1.toNat 0 s)).1 ≠ 0 then
    ((putV D (baseV D (hNext w.g w.sg).1.2) (splitL D.sz (hNext w.g w.sg).1.1.toNat 0 s)).1, (putV D (baseV D (hNext w.g w.sg).1.2) (splitL D.sz (hNext w.g w.sg).1.1.toNat 0 s)).2, w)
  else
  if (putV (putV D (baseV D (hNext w.g w.sg).1.2) (splitL D.sz (hNext w.g w.sg).1.1.toNat 0 s)).2 (1 - w.slot) [(hRes D.sz (hNext w.g w.sg).1.1 (hNext w.g w.sg).1.2).1]).1 ≠ 0 then
    ((putV (putV D (baseV D (hNext w.g w.sg).1.2) (splitL D.sz (hNext w.g w.sg).1.1.toNat 0 s)).2 (1 - w.slot) [(hRes D.sz (hNext w.g w.sg).1.1 (hNext w.g w.sg).1.2).1]).1,
     (putV (putV D (baseV D (hNext w.g w.sg).1.2) (splitL D.sz (hNext w.g w.sg).1.1.toNat 0 s)).2 (1 - w.slot) [(hRes D.sz (hNext w.g w.sg).1.1 (hNext w.g w.sg).1.2).1]).2, w)
  else
    (0, (putV (putV D (baseV D (hNext w.g w.sg).1.2) (splitL D.sz (hNext w.g w.sg).1.1.toNat 0 s)).2 (1 - w.slot) [(hRes D.sz (hNext w.g w.sg).1.1 (hNext w.g w.sg).1.2).1]).2,
     ⟨(hNext w.g w.sg).1.1.toNat, (hNext w.g w.sg).1.2, 1 - w.slot, partsV D.sz s.length, 1, true, w.broken⟩)
end Go.LX
end
section
set_option maxRecDepth 100000
set_option maxHeartbeats 2000000
set_option autoImplicit false
set_option linter.unusedVariables false
set_option linter.unusedSimpArgs false
namespace Go.LX
open Go.Proofs

def hputES : Spec := fun args H Q => match args, H with
  | [.int .i64 z, .agg [.int .u64 g, .int .i64 sg]], [] => Need (0 ≤ g ∧ g < 18446744073709551616) (∃ s e, (s, e) = hRes z g sg ∧ Q (.tuple [.str s, .int .i64 e]) [])
  | _, _ => False
theorem hputE_k : Contract Tryz.prog [] 40 hputES := hput_k.imp fun args H Q h => by
  unfold hputES at h
  split at h
  case h_2 => exact h.elim
  obtain ⟨hn, s, e, he, h⟩ := h
  exact ⟨hn, fun s2 e2 h2 => by
    obtain ⟨rfl, rfl⟩ := Prod.mk.inj (h2.trans he.symm)
    exact h⟩
theorem hNext_rng {g sg g1 sg1 e1 : Int} (hg : 1 ≤ g ∧ g < 18446744073709551616) (hs : 0 ≤ sg ∧ sg ≤ 1) (h : hNext g sg = ((g1, sg1), e1)) (he : e1 = 0) : g1 = g + 1 ∧ g1 < 18446744073709551616 ∧ 0 ≤ sg1 ∧ sg1 ≤ 1 := by
  unfold hNext at h
  by_cases q : g = 18446744073709551615
  · rw [if_pos q] at h
    have := (Prod.mk.inj h).2
    omega
  · rw [if_neg q] at h
    obtain ⟨h1, _⟩ := Prod.mk.inj h
    obtain ⟨h2, h3⟩ := Prod.mk.inj h1
    refine ⟨h2.symm, by omega, ?_⟩
    rw [← h3]
    split <;> decide
def chk1S : Spec := fun args H Q => match args with
  | [.ptr 0 0, .ptr 5 0] => apIn H fun D w s => s.length ≤ 1000000 ∧ D.buf.length ≤ 900000 ∧ ∀ e D' w', (e, D', w') = chkP D w s → Q (.int .i64 e) (apA D' w' s)
  | _ => False
theorem chk1_c : Meets Tryz.prog [] 32 chk1S := by
  refine meets_of Γok Tryz.func32 rfl ?_
  intro args H Q h
  unfold chk1S at h
  split at h
  case h_2 => exact h.elim
  obtain ⟨D, w, s, rfl, ho, hw, hs, hb, h⟩ := apIn_out h
  have hsz := ho.sz
  have hsc := ho.sc
  have hs4 := hw.sc
  have hg := hw.g
  have hu := hw.used
  have hsn := hw.sn
  have hsg := hw.sg
  have hsl := hw.slot
  have h2 : 2 ≤ D.sc := by omega
  have hv : segV D ≤ 2047 := by unfold segV; omega
  by_cases hp : partsV D.sz s.length = 0
  · have h := h 1 D w (by unfold chkP; rw [if_pos hp])
    have c1 : decide (((partsV D.sz s.length : Nat) : Int) = 0) = true := decide_eq_true (by omega)
    (refine sx_sound Γok _ ?_; conv => whnf)
    (refine DrawVC.any Γok (by kernel_rfl) (by kernel_rfl) (by kernel_rfl) (by rfl) ?_; conv => whnf)
    (repeat (first | (refine Both.of_true c1 ?_; conv => whnf) | (exact Out.same; conv => whnf) | (exact Out1.same; conv => whnf) | (refine QAnd.mk ?_ ?_; conv => whnf) | (apply QStepH.go; conv => whnf) | (refine Both.lit_true ?_; conv => whnf) | (refine Both.lit_false ?_; conv => whnf) | (apply QStep.go; conv => whnf) | (refine Need.au ?_; conv => whnf) | (refine ⟨_, rfl, ?_⟩; conv => whnf) | (refine CallVC.auto sizeD_k ?_; conv => whnf) | (refine CallVC.auto parts_k ?_; conv => whnf)))
    refine ⟨_, _, WeakV.trans (WeakV.of (Weak.fresh 4 2 3 rfl rfl rfl)) (WeakV.auto ?_), h⟩
    (repeat' ((conv => whnf); first | exact True.intro | (refine And.intro ?_ ?_)))
    all_goals first | rfl | exact .eq rfl
  have c1 : decide (((partsV D.sz s.length : Nat) : Int) = 0) = false := decide_eq_false (by omega)
  by_cases hq : segV D < partsV D.sz s.length
  · have h := h 2 D w (by unfold chkP; rw [if_neg hp, if_pos hq])
    have c2 : decide (((segV D : Nat) : Int) < ((partsV D.sz s.length : Nat) : Int)) = true := decide_eq_true (by omega)
    (refine sx_sound Γok _ ?_; conv => whnf)
    (refine DrawVC.any Γok (by kernel_rfl) (by kernel_rfl) (by kernel_rfl) (by rfl) ?_; conv => whnf)
    (repeat (first | (refine Both.of_false c1 ?_; conv => whnf) | (refine CallVC.auto seg_k (dIn_mk ho ⟨h2, ?_⟩); conv => whnf) | (refine Both.of_true c2 ?_; conv => whnf) | (exact Out.same; conv => whnf) | (exact Out1.same; conv => whnf) | (refine QAnd.mk ?_ ?_; conv => whnf) | (apply QStepH.go; conv => whnf) | (refine Both.lit_true ?_; conv => whnf) | (refine Both.lit_false ?_; conv => whnf) | (apply QStep.go; conv => whnf) | (refine Need.au ?_; conv => whnf) | (refine ⟨_, rfl, ?_⟩; conv => whnf) | (refine CallVC.auto sizeD_k ?_; conv => whnf) | (refine CallVC.auto parts_k ?_; conv => whnf)))
    refine ⟨_, _, WeakV.trans (WeakV.of (Weak.fresh 4 2 3 rfl rfl rfl)) (WeakV.auto ?_), h⟩
    (repeat' ((conv => whnf); first | exact True.intro | (refine And.intro ?_ ?_)))
    all_goals first | rfl | exact .eq rfl
  have c2 : decide (((segV D : Nat) : Int) < ((partsV D.sz s.length : Nat) : Int)) = false := decide_eq_false (by omega)
  obtain ⟨g1, sg1, e1, hnx⟩ : ∃ g1 sg1 e1, hNext w.g w.sg = ((g1, sg1), e1) := ⟨_, _, _, rfl⟩
  have hrg := hNext_rng (g := w.g) (by omega) hsg hnx
  (refine sx_sound Γok _ ?_; conv => whnf)
  (refine DrawVC.any Γok (by kernel_rfl) (by kernel_rfl) (by kernel_rfl) (by rfl) ?_; conv => whnf)
  (repeat (first | (refine Both.of_false c1 ?_; conv => whnf) | (refine CallVC.auto seg_k (dIn_mk ho ⟨h2, ?_⟩); conv => whnf) | (refine Both.of_false c2 ?_; conv => whnf) | (exact Out.same; conv => whnf) | (exact Out1.same; conv => whnf) | (refine QAnd.mk ?_ ?_; conv => whnf) | (apply QStepH.go; conv => whnf) | (refine Both.lit_true ?_; conv => whnf) | (refine Both.lit_false ?_; conv => whnf) | (apply QStep.go; conv => whnf) | (refine Need.au ?_; conv => whnf) | (refine ⟨_, rfl, ?_⟩; conv => whnf) | (refine CallVC.auto sizeD_k ?_; conv => whnf) | (refine CallVC.auto parts_k ?_; conv => whnf)))
  refine CallVC.auto hnext_k (Need.mk ⟨by omega, by omega⟩ fun g2 sg2 e2 he => ?_)
  obtain ⟨u1, u3⟩ := Prod.mk.inj (he.trans hnx)
  obtain ⟨u1, u2⟩ := Prod.mk.inj u1
  clear he
  subst u1 u2 u3
  (conv => whnf)
  (repeat (first | (exact Out.same; conv => whnf) | (exact Out1.same; conv => whnf) | (refine QAnd.mk ?_ ?_; conv => whnf) | (apply QStepH.go; conv => whnf) | (refine Both.lit_true ?_; conv => whnf) | (refine Both.lit_false ?_; conv => whnf) | (apply QStep.go; conv => whnf) | (refine Need.au ?_; conv => whnf) | (refine ⟨_, rfl, ?_⟩; conv => whnf)))
  refine Both.dec_not (fun hne => ?_) (fun heq => ?_)
  · have h := h e2 D w (by unfold chkP; rw [if_neg hp, if_neg hq, hnx, if_pos hne])
    (conv => whnf)
    (repeat (first | (exact Out.same; conv => whnf) | (exact Out1.same; conv => whnf) | (refine QAnd.mk ?_ ?_; conv => whnf) | (apply QStepH.go; conv => whnf) | (refine Both.lit_true ?_; conv => whnf) | (refine Both.lit_false ?_; conv => whnf) | (apply QStep.go; conv => whnf) | (refine Need.au ?_; conv => whnf) | (refine ⟨_, rfl, ?_⟩; conv => whnf)))
    refine ⟨_, _, WeakV.trans (WeakV.of (Weak.fresh 4 2 3 rfl rfl rfl)) (WeakV.auto ?_), h⟩
    (repeat' ((conv => whnf); first | exact True.intro | (refine And.intro ?_ ?_)))
    all_goals first | rfl | exact .eq rfl
  obtain ⟨q1, q2, q3, q4⟩ := hrg heq
  clear u1 hrg
  subst heq
  obtain ⟨gn, rfl⟩ := Int.eq_ofNat_of_zero_le (show 0 ≤ g2 by omega)
  have hgn : gn < 18446744073709551616 := by omega
  have htn : (D.sz : Int).toNat = D.sz := Int.toNat_natCast _
  obtain ⟨L, hL⟩ : ∃ L, splitL D.sz gn 0 s = L := ⟨_, rfl⟩
  have hsp : ((.sl 1 L.length (L.map CV.str) false, 0) : SV × Int) = (if partsV D.sz s.length = 0 then (.nilsl, 1) else (.sl 1 (splitL (D.sz : Int).toNat gn 0 s).length ((splitL (D.sz : Int).toNat gn 0 s).map CV.str) false, 0)) := by rw [if_neg hp, htn, hL]
  have hLp : L.length = partsV D.sz s.length := by
    rw [← hL, w7splitL_len]
    unfold partsV at hp ⊢
    split
    · rw [Int.toNat_natCast, Int.toNat_natCast]
    · rename_i q
      rw [if_neg q] at hp
      exact absurd rfl hp
  have hbv : 2 ≤ baseV D sg2 ∧ baseV D sg2 ≤ 2 + ((segV D : Nat) : Int) := by unfold baseV; split <;> omega
  obtain ⟨e3, D3, hput⟩ : ∃ e3 D3, putV D (baseV D sg2) L = (e3, D3) := ⟨_, _, rfl⟩
  have hgeo := putV_geo L D (baseV D sg2)
  have hbuf := putV_buf L D (baseV D sg2)
  have ho3 := putV_ok L D (baseV D sg2) ho (by omega)
  rw [hput] at hgeo hbuf ho3
  have hz3 : D3.sz = D.sz := hgeo.1
  have hc3 : D3.sc = D.sc := hgeo.2
  have hbuf : D3.buf.length ≤ D.buf.length + L.length := hbuf
  have ho3 : D3.Ok := ho3
  clear hgeo
  have hck : chkP D w s = (if e3 ≠ 0 then (e3, D3, w) else if (putV D3 (1 - w.slot) [(hRes D.sz gn sg2).1]).1 ≠ 0 then ((putV D3 (1 - w.slot) [(hRes D.sz gn sg2).1]).1, (putV D3 (1 - w.slot) [(hRes D.sz gn sg2).1]).2, w) else (0, (putV D3 (1 - w.slot) [(hRes D.sz gn sg2).1]).2, ⟨gn, sg2, 1 - w.slot, partsV D.sz s.length, 1, true, w.broken⟩)) := by
    unfold chkP
    rw [if_neg hp, if_neg hq, hnx]
    show (if (0 : Int) ≠ 0 then _ else _) = _
    rw [if_neg (by decide)]
    show (if (putV D (baseV D sg2) (splitL D.sz ((gn : Int).toNat) 0 s)).1 ≠ 0 then _ else _) = _
    rw [Int.toNat_natCast, hL, hput]
  rw [hck] at h
  (conv => whnf)
  (repeat (first | (exact Out.same; conv => whnf) | (exact Out1.same; conv => whnf) | (refine QAnd.mk ?_ ?_; conv => whnf) | (apply QStepH.go; conv => whnf) | (refine Both.lit_true ?_; conv => whnf) | (refine Both.lit_false ?_; conv => whnf) | (apply QStep.go; conv => whnf) | (refine Need.au ?_; conv => whnf) | (refine ⟨_, rfl, ?_⟩; conv => whnf)))
  (refine DrawVC.any Γok (by kernel_rfl) (by kernel_rfl) (by kernel_rfl) (by rfl) ?_; conv => whnf)
  (repeat (first | (refine CallVC.auto splitP_k ⟨gn, 0, rfl, rfl, hgn, by decide, by omega, .sl 1 L.length (L.map CV.str) false, 0, hsp, ?_⟩; conv => whnf) | (exact Out.same; conv => whnf) | (exact Out1.same; conv => whnf) | (refine QAnd.mk ?_ ?_; conv => whnf) | (apply QStepH.go; conv => whnf) | (refine Both.lit_true ?_; conv => whnf) | (refine Both.lit_false ?_; conv => whnf) | (apply QStep.go; conv => whnf) | (refine Need.au ?_; conv => whnf) | (refine ⟨_, rfl, ?_⟩; conv => whnf) | (refine CallVC.auto sizeD_k ?_; conv => whnf)))
  (refine DrawVC.any Γok (by kernel_rfl) (by kernel_rfl) (by kernel_rfl) (by rfl) ?_; conv => whnf)
  (repeat (first | (refine CallVC.auto base_k (dIn_mk ho ⟨h2, q3, q4, ?_⟩); conv => whnf) | (refine CallVC.auto w7putE_k (dIn_mk ho ⟨L, rfl, rfl, by omega, by omega, by omega, by omega, e3, D3, hput.symm, ?_⟩); conv => whnf) | (exact Out.same; conv => whnf) | (exact Out1.same; conv => whnf) | (refine QAnd.mk ?_ ?_; conv => whnf) | (apply QStepH.go; conv => whnf) | (refine Both.lit_true ?_; conv => whnf) | (refine Both.lit_false ?_; conv => whnf) | (apply QStep.go; conv => whnf) | (refine Need.au ?_; conv => whnf) | (refine ⟨_, rfl, ?_⟩; conv => whnf)))
  refine Both.dec_not (fun hne => ?_) (fun heq => ?_)
  · have h := h e3 D3 w (if_pos hne).symm
    (conv => whnf)
    (repeat (first | (exact Out.same; conv => whnf) | (exact Out1.same; conv => whnf) | (refine QAnd.mk ?_ ?_; conv => whnf) | (apply QStepH.go; conv => whnf) | (refine Both.lit_true ?_; conv => whnf) | (refine Both.lit_false ?_; conv => whnf) | (apply QStep.go; conv => whnf) | (refine Need.au ?_; conv => whnf) | (refine ⟨_, rfl, ?_⟩; conv => whnf)))
    refine ⟨_, _, WeakV.auto ?_, h⟩
    (repeat' ((conv => whnf); first | exact True.intro | (refine And.intro ?_ ?_)))
    all_goals first | rfl | exact .eq rfl
  obtain ⟨hd, eh, hh⟩ : ∃ hd eh, hRes D.sz gn sg2 = (hd, eh) := ⟨_, _, rfl⟩
  obtain ⟨e4, D4, hput4⟩ : ∃ e4 D4, putV D3 (1 - w.slot) [hd] = (e4, D4) := ⟨_, _, rfl⟩
  have hfin : ∀ e D' w', (e, D', w') = (if e4 ≠ 0 then (e4, D4, w) else (0, D4, ⟨gn, sg2, 1 - w.slot, partsV D.sz s.length, 1, true, w.broken⟩)) → Q (.int .i64 e) (apA D' w' s) := fun e D' w' q => h e D' w' (by
    rw [if_neg (show ¬ e3 ≠ 0 from fun u => u heq), hh, q]
    show _ = if (putV D3 (1 - w.slot) [hd]).1 ≠ 0 then ((putV D3 (1 - w.slot) [hd]).1, (putV D3 (1 - w.slot) [hd]).2, w) else (0, (putV D3 (1 - w.slot) [hd]).2, _)
    rw [hput4])
  clear h hck
  have hh3 : (hd, eh) = hRes D3.sz gn sg2 := by rw [hz3]; exact hh.symm
  have hws : IntKind.i64.wrap (1 - w.slot) = 1 - w.slot := wrap_i64 (by omega) (by omega)
  have hm0 : 0 ≤ IntKind.i64.wrap (1 - w.slot) := by rw [hws]; omega
  have hm1 : IntKind.i64.wrap (1 - w.slot) ≤ 1000000 := by rw [hws]; omega
  have hl1 : ([hd] : List Bs).length ≤ 1000000 := by show 1 ≤ 1000000; decide
  have hl2 : D3.buf.length + ([hd] : List Bs).length < 1000000 := by show D3.buf.length + 1 < 1000000; omega
  have hput5 : (e4, D4) = putV D3 (IntKind.i64.wrap (1 - w.slot)) [hd] := by rw [hws]; exact hput4.symm
  (conv => whnf)
  (repeat (first | (exact Out.same; conv => whnf) | (exact Out1.same; conv => whnf) | (refine QAnd.mk ?_ ?_; conv => whnf) | (apply QStepH.go; conv => whnf) | (refine Both.lit_true ?_; conv => whnf) | (refine Both.lit_false ?_; conv => whnf) | (apply QStep.go; conv => whnf) | (refine Need.au ?_; conv => whnf) | (refine ⟨_, rfl, ?_⟩; conv => whnf)))
  (refine DrawVC.any Γok (by kernel_rfl) (by kernel_rfl) (by kernel_rfl) (by rfl) ?_; conv => whnf)
  (repeat (first | (refine CallVC.auto hputE_k (Need.mk ⟨by omega, by omega⟩ ⟨hd, eh, hh3, ?_⟩); conv => whnf) | (exact Out.same; conv => whnf) | (exact Out1.same; conv => whnf) | (refine QAnd.mk ?_ ?_; conv => whnf) | (apply QStepH.go; conv => whnf) | (refine Both.lit_true ?_; conv => whnf) | (refine Both.lit_false ?_; conv => whnf) | (apply QStep.go; conv => whnf) | (refine Need.au ?_; conv => whnf) | (refine ⟨_, rfl, ?_⟩; conv => whnf) | (refine CallVC.auto sizeD_k ?_; conv => whnf)))
  (refine DrawVC.any Γok (by kernel_rfl) (by kernel_rfl) (by kernel_rfl) (by rfl) ?_; conv => whnf)
  (repeat (first | (refine CallVC.auto w7putE_k (dIn_mk ho3 ⟨[hd], rfl, rfl, hm0, hm1, hl1, hl2, e4, D4, hput5, ?_⟩); conv => whnf) | (exact Out.same; conv => whnf) | (exact Out1.same; conv => whnf) | (refine QAnd.mk ?_ ?_; conv => whnf) | (apply QStepH.go; conv => whnf) | (refine Both.lit_true ?_; conv => whnf) | (refine Both.lit_false ?_; conv => whnf) | (apply QStep.go; conv => whnf) | (refine Need.au ?_; conv => whnf) | (refine ⟨_, rfl, ?_⟩; conv => whnf)))
  refine Both.dec_not (fun hne => ?_) (fun heq4 => ?_)
  · have h := hfin e4 D4 w (if_pos hne).symm
    (conv => whnf)
    (repeat (first | (exact Out.same; conv => whnf) | (exact Out1.same; conv => whnf) | (refine QAnd.mk ?_ ?_; conv => whnf) | (apply QStepH.go; conv => whnf) | (refine Both.lit_true ?_; conv => whnf) | (refine Both.lit_false ?_; conv => whnf) | (apply QStep.go; conv => whnf) | (refine Need.au ?_; conv => whnf) | (refine ⟨_, rfl, ?_⟩; conv => whnf)))
    refine ⟨_, _, WeakV.auto ?_, h⟩
    (repeat' ((conv => whnf); first | exact True.intro | (refine And.intro ?_ ?_)))
    all_goals first | rfl | exact .eq rfl
  have h := hfin 0 D4 ⟨gn, sg2, 1 - w.slot, partsV D.sz s.length, 1, true, w.broken⟩ (if_neg (fun q => q heq4)).symm
  have hce : ([SV.ptr 2 0, .int .u64 (gn : Int), .int .i64 sg2, .int .i64 (IntKind.i64.wrap (1 - w.slot)), .int .i64 ((partsV D.sz s.length : Nat) : Int), .int .u64 1, .bool true, .bool w.broken] : List SV) = [SV.ptr 2 0, .int .u64 (gn : Int), .int .i64 sg2, .int .i64 (1 - w.slot), .int .i64 ((partsV D.sz s.length : Nat) : Int), .int .u64 1, .bool true, .bool w.broken] := by rw [hws]
  (conv => whnf)
  (repeat (first | (exact Out.same; conv => whnf) | (exact Out1.same; conv => whnf) | (refine QAnd.mk ?_ ?_; conv => whnf) | (apply QStepH.go; conv => whnf) | (refine Both.lit_true ?_; conv => whnf) | (refine Both.lit_false ?_; conv => whnf) | (apply QStep.go; conv => whnf) | (refine Need.au ?_; conv => whnf) | (refine ⟨_, rfl, ?_⟩; conv => whnf)))
  (refine DrawVC.any Γok (by kernel_rfl) (by kernel_rfl) (by kernel_rfl) (by rfl) ?_; conv => whnf)
  (repeat (first | (exact Out.same; conv => whnf) | (exact Out1.same; conv => whnf) | (refine QAnd.mk ?_ ?_; conv => whnf) | (apply QStepH.go; conv => whnf) | (refine Both.lit_true ?_; conv => whnf) | (refine Both.lit_false ?_; conv => whnf) | (apply QStep.go; conv => whnf) | (refine Need.au ?_; conv => whnf) | (refine ⟨_, rfl, ?_⟩; conv => whnf)))
  refine ⟨_, _, WeakV.auto ?_, h⟩
  (repeat' ((conv => whnf); first | exact True.intro | (refine And.intro ?_ ?_)))
  all_goals first | rfl | exact .eq rfl | exact .eq hce
theorem chk1_k : Contract Tryz.prog [] 32 chk1S := ⟨⟨⟨_, rfl, rfl, rfl⟩⟩, chk1_c⟩
end Go.LX
end
section
set_option maxRecDepth 100000
set_option maxHeartbeats 2000000
set_option autoImplicit false
set_option linter.unusedVariables false
set_option linter.unusedSimpArgs false
namespace Go.LX
open Go.Proofs

def chkL (D : Dsk) (w : W7) (s : Bs) : Int × Dsk × W7 :=
  if w.broken = true then (14, D, w) else ((chkP D w s).1, (chkP D w s).2.1, { (chkP D w s).2.2 with broken := decide ((chkP D w s).1 = 13) })
def layCS : Spec := fun args H Q => match args with
  | [.ptr 0 0, .func (.func 32) [.ptr 4 0, .ptr 5 0]] => lyIn H fun D w s => s.length ≤ 1000000 ∧ D.buf.length ≤ 900000 ∧ ∀ e D' w', (e, D', w') = chkL D w s → Q (.int .i64 e) (lyA D' w' s)
  | _ => False
theorem layC_c : Meets Tryz.prog [] 31 layCS := by
  refine meets_of Γok Tryz.func31 rfl ?_
  intro args H Q h
  unfold layCS at h
  split at h
  case h_2 => exact h.elim
  obtain ⟨D, w, s, rfl, ho, hw, hs, hb, h⟩ := lyIn_out h
  cases hbr : w.broken with
  | true =>
    have h := h 14 D w (by unfold chkL; rw [if_pos hbr])
    (refine sx_sound Γok _ ?_; conv => whnf)
    (repeat (first | (refine Both.of_true hbr ?_; conv => whnf) | (exact Out.same; conv => whnf) | (exact Out1.same; conv => whnf) | (refine QAnd.mk ?_ ?_; conv => whnf) | (apply QStepH.go; conv => whnf) | (refine Both.lit_true ?_; conv => whnf) | (refine Both.lit_false ?_; conv => whnf) | (apply QStep.go; conv => whnf) | (refine Need.au ?_; conv => whnf) | (refine ⟨_, rfl, ?_⟩; conv => whnf)))
    refine ⟨_, _, WeakV.trans (WeakV.of (Weak.fresh 3 1 3 rfl rfl rfl)) (WeakV.auto ?_), h⟩
    (repeat' ((conv => whnf); first | exact True.intro | (refine And.intro ?_ ?_)))
    all_goals first | rfl | exact .eq rfl
  | false =>
    have hnb : ¬ w.broken = true := by rw [hbr]; decide
    obtain ⟨e1, D1, w1, hap⟩ : ∃ e1 D1 w1, chkP D w s = (e1, D1, w1) := ⟨_, _, _, rfl⟩
    have h := h e1 D1 { w1 with broken := decide (e1 = 13) } (by unfold chkL; rw [if_neg hnb, hap])
    (refine sx_sound Γok _ ?_; conv => whnf)
    (repeat (first | (refine Both.of_false hbr ?_; conv => whnf) | (exact Out.same; conv => whnf) | (exact Out1.same; conv => whnf) | (refine QAnd.mk ?_ ?_; conv => whnf) | (apply QStepH.go; conv => whnf) | (refine Both.lit_true ?_; conv => whnf) | (refine Both.lit_false ?_; conv => whnf) | (apply QStep.go; conv => whnf) | (refine Need.au ?_; conv => whnf) | (refine ⟨_, rfl, ?_⟩; conv => whnf)))
    refine CallClo.auto chk1_k ⟨D, w, ⟨rfl, rfl, rfl, rfl, rfl, rfl, rfl⟩, ⟨rfl, rfl, rfl, rfl, rfl, rfl, rfl⟩, ho, hw, hs, hb, fun e2 D2 w2 he => ?_⟩
    obtain ⟨u1, u2⟩ := Prod.mk.inj (he.trans hap)
    obtain ⟨u2, u3⟩ := Prod.mk.inj u2
    clear he
    subst u1 u2 u3
    (conv => whnf)
    (repeat (first | (exact Out.same; conv => whnf) | (exact Out1.same; conv => whnf) | (refine QAnd.mk ?_ ?_; conv => whnf) | (apply QStepH.go; conv => whnf) | (refine Both.lit_true ?_; conv => whnf) | (refine Both.lit_false ?_; conv => whnf) | (apply QStep.go; conv => whnf) | (refine Need.au ?_; conv => whnf) | (refine ⟨_, rfl, ?_⟩; conv => whnf)))
    refine ⟨_, _, WeakV.auto ?_, h⟩
    (repeat' ((conv => whnf); first | exact True.intro | (refine And.intro ?_ ?_)))
    all_goals first | rfl | exact .eq rfl
theorem layC_k : Contract Tryz.prog [] 31 layCS := ⟨⟨⟨_, rfl, rfl, rfl⟩⟩, layC_c⟩
def chkWS : Spec := fun args H Q => match args with
  | [.ptr 0 0, .str s] => wIn H fun D w => s.length ≤ 1000000 ∧ D.buf.length ≤ 900000 ∧ ∀ e D' w', (e, D', w') = chkL D w s → Q (.int .i64 e) (wA D' w')
  | _ => False
theorem chkW_c : Meets Tryz.prog [] 10 chkWS := by
  refine meets_of Γok Tryz.func10 rfl ?_
  intro args H Q h
  unfold chkWS at h
  split at h
  case h_2 => exact h.elim
  rename_i s
  obtain ⟨D, w, rfl, ho, hw, hs, hb, h⟩ := wIn_out h
  (refine sx_sound Γok _ ?_; conv => whnf)
  (repeat (first | (exact Out.same; conv => whnf) | (exact Out1.same; conv => whnf) | (refine QAnd.mk ?_ ?_; conv => whnf) | (apply QStepH.go; conv => whnf) | (refine Both.lit_true ?_; conv => whnf) | (refine Both.lit_false ?_; conv => whnf) | (apply QStep.go; conv => whnf) | (refine Need.au ?_; conv => whnf) | (refine ⟨_, rfl, ?_⟩; conv => whnf)))
  refine CallVC.auto layC_k ⟨D, w, ⟨rfl, rfl, rfl, rfl, rfl, rfl, rfl⟩, ⟨rfl, rfl, rfl, rfl, rfl, rfl, rfl⟩, ho, hw, hs, hb, fun e2 D2 w2 he => ?_⟩
  have h := h e2 D2 w2 he
  (conv => whnf)
  (repeat (first | (exact Out.same; conv => whnf) | (exact Out1.same; conv => whnf) | (refine QAnd.mk ?_ ?_; conv => whnf) | (apply QStepH.go; conv => whnf) | (refine Both.lit_true ?_; conv => whnf) | (refine Both.lit_false ?_; conv => whnf) | (apply QStep.go; conv => whnf) | (refine Need.au ?_; conv => whnf) | (refine ⟨_, rfl, ?_⟩; conv => whnf)))
  refine ⟨_, _, WeakV.auto ?_, h⟩
  (repeat' ((conv => whnf); first | exact True.intro | (refine And.intro ?_ ?_)))
  all_goals first | rfl | exact .eq rfl
theorem chkW_k : Contract Tryz.prog [] 10 chkWS := ⟨⟨⟨_, rfl, rfl, rfl⟩⟩, chkW_c⟩
def w7usedS : Spec := fun args H Q => match args with
  | [.ptr 0 0] => wIn H fun D w => Q (.int .i64 (w.used : Int)) (wB D w)
  | _ => False
theorem w7used_c : Meets Tryz.prog [] 13 w7usedS := by
  refine meets_of Γok Tryz.func13 rfl ?_
  intro args H Q h
  unfold w7usedS at h
  split at h
  case h_2 => exact h.elim
  obtain ⟨D, w, rfl, ho, hw, h⟩ := wIn_out h
  (refine sx_sound Γok _ ?_; conv => whnf)
  (repeat (first | (exact Out.same; conv => whnf) | (exact Out1.same; conv => whnf) | (refine QAnd.mk ?_ ?_; conv => whnf) | (apply QStepH.go; conv => whnf) | (refine Both.lit_true ?_; conv => whnf) | (refine Both.lit_false ?_; conv => whnf) | (apply QStep.go; conv => whnf) | (refine Need.au ?_; conv => whnf) | (refine ⟨_, rfl, ?_⟩; conv => whnf)))
  refine ⟨_, _, WeakV.auto ?_, h⟩
  (repeat' ((conv => whnf); first | exact True.intro | (refine And.intro ?_ ?_)))
  all_goals first | rfl | exact .eq rfl
theorem w7used_k : Contract Tryz.prog [] 13 w7usedS := ⟨⟨⟨_, rfl, rfl, rfl⟩⟩, w7used_c⟩
def w7brokenS : Spec := fun args H Q => match args with
  | [.ptr 0 0] => wIn H fun D w => Q (.bool w.broken) (wB D w)
  | _ => False
theorem w7broken_c : Meets Tryz.prog [] 15 w7brokenS := by
  refine meets_of Γok Tryz.func15 rfl ?_
  intro args H Q h
  unfold w7brokenS at h
  split at h
  case h_2 => exact h.elim
  obtain ⟨D, w, rfl, ho, hw, h⟩ := wIn_out h
  (refine sx_sound Γok _ ?_; conv => whnf)
  (repeat (first | (exact Out.same; conv => whnf) | (exact Out1.same; conv => whnf) | (refine QAnd.mk ?_ ?_; conv => whnf) | (apply QStepH.go; conv => whnf) | (refine Both.lit_true ?_; conv => whnf) | (refine Both.lit_false ?_; conv => whnf) | (apply QStep.go; conv => whnf) | (refine Need.au ?_; conv => whnf) | (refine ⟨_, rfl, ?_⟩; conv => whnf)))
  refine ⟨_, _, WeakV.auto ?_, h⟩
  (repeat' ((conv => whnf); first | exact True.intro | (refine And.intro ?_ ?_)))
  all_goals first | rfl | exact .eq rfl
theorem w7broken_k : Contract Tryz.prog [] 15 w7brokenS := ⟨⟨⟨_, rfl, rfl, rfl⟩⟩, w7broken_c⟩
def w7readyS : Spec := fun args H Q => match args with
  | [.ptr 0 0] => wIn H fun D w => Q (.bool w.ready) (wB D w)
  | _ => False
theorem w7ready_c : Meets Tryz.prog [] 22 w7readyS := by
  refine meets_of Γok Tryz.func22 rfl ?_
  intro args H Q h
  unfold w7readyS at h
  split at h
  case h_2 => exact h.elim
  obtain ⟨D, w, rfl, ho, hw, h⟩ := wIn_out h
  (refine sx_sound Γok _ ?_; conv => whnf)
  (repeat (first | (exact Out.same; conv => whnf) | (exact Out1.same; conv => whnf) | (refine QAnd.mk ?_ ?_; conv => whnf) | (apply QStepH.go; conv => whnf) | (refine Both.lit_true ?_; conv => whnf) | (refine Both.lit_false ?_; conv => whnf) | (apply QStep.go; conv => whnf) | (refine Need.au ?_; conv => whnf) | (refine ⟨_, rfl, ?_⟩; conv => whnf)))
  refine ⟨_, _, WeakV.auto ?_, h⟩
  (repeat' ((conv => whnf); first | exact True.intro | (refine And.intro ?_ ?_)))
  all_goals first | rfl | exact .eq rfl
theorem w7ready_k : Contract Tryz.prog [] 22 w7readyS := ⟨⟨⟨_, rfl, rfl, rfl⟩⟩, w7ready_c⟩
def w7genS : Spec := fun args H Q => match args with
  | [.ptr 0 0] => wIn H fun D w => Q (.int .u64 (w.g : Int)) (wB D w)
  | _ => False
theorem w7gen_c : Meets Tryz.prog [] 19 w7genS := by
  refine meets_of Γok Tryz.func19 rfl ?_
  intro args H Q h
  unfold w7genS at h
  split at h
  case h_2 => exact h.elim
  obtain ⟨D, w, rfl, ho, hw, h⟩ := wIn_out h
  (refine sx_sound Γok _ ?_; conv => whnf)
  (repeat (first | (exact Out.same; conv => whnf) | (exact Out1.same; conv => whnf) | (refine QAnd.mk ?_ ?_; conv => whnf) | (apply QStepH.go; conv => whnf) | (refine Both.lit_true ?_; conv => whnf) | (refine Both.lit_false ?_; conv => whnf) | (apply QStep.go; conv => whnf) | (refine Need.au ?_; conv => whnf) | (refine ⟨_, rfl, ?_⟩; conv => whnf)))
  refine ⟨_, _, WeakV.auto ?_, h⟩
  (repeat' ((conv => whnf); first | exact True.intro | (refine And.intro ?_ ?_)))
  all_goals first | rfl | exact .eq rfl
theorem w7gen_k : Contract Tryz.prog [] 19 w7genS := ⟨⟨⟨_, rfl, rfl, rfl⟩⟩, w7gen_c⟩
def w7segS : Spec := fun args H Q => match args with
  | [.ptr 0 0] => wIn H fun D w => Q (.int .i64 ((segV D : Nat) : Int)) (wB D w)
  | _ => False
theorem w7seg_c : Meets Tryz.prog [] 24 w7segS := by
  refine meets_of Γok Tryz.func24 rfl ?_
  intro args H Q h
  unfold w7segS at h
  split at h
  case h_2 => exact h.elim
  obtain ⟨D, w, rfl, ho, hw, h⟩ := wIn_out h
  have hs4 := hw.sc
  (refine sx_sound Γok _ ?_; conv => whnf)
  (repeat (first | (refine CallVC.auto seg_k (dIn_mk ho ⟨by omega, ?_⟩); conv => whnf) | (exact Out.same; conv => whnf) | (exact Out1.same; conv => whnf) | (refine QAnd.mk ?_ ?_; conv => whnf) | (apply QStepH.go; conv => whnf) | (refine Both.lit_true ?_; conv => whnf) | (refine Both.lit_false ?_; conv => whnf) | (apply QStep.go; conv => whnf) | (refine Need.au ?_; conv => whnf) | (refine ⟨_, rfl, ?_⟩; conv => whnf)))
  refine ⟨_, _, WeakV.auto ?_, h⟩
  (repeat' ((conv => whnf); first | exact True.intro | (refine And.intro ?_ ?_)))
  all_goals first | rfl | exact .eq rfl
theorem w7seg_k : Contract Tryz.prog [] 24 w7segS := ⟨⟨⟨_, rfl, rfl, rfl⟩⟩, w7seg_c⟩
end Go.LX
end
section
set_option maxRecDepth 100000
set_option maxHeartbeats 1000000
set_option autoImplicit false
set_option linter.unusedVariables false
set_option linter.unusedSimpArgs false
namespace Go.LX
open Go.Proofs

def rB (D : Dsk) : List LObj := [.cells [.int .i64 (D.sz : Int), .int .i64 (D.sc : Int), .str D.st.flatten, .own 1, .int .i64 (D.ar : Int)] 59, .own 135 2 D.buf.length (D.buf.flatMap wrEn) true]
def rA (D : Dsk) : List LObj := [.cells [.int .i64 (D.sz : Int), .int .i64 (D.sc : Int), .str D.st.flatten, .own 2, .int .i64 (D.ar : Int)] 59, .gone, .own 135 2 D.buf.length (D.buf.flatMap wrEn) true]
def rIn (H : List LObj) (k : Dsk → Prop) : Prop :=
  match H with
  | [.cells [.int .i64 z, .int .i64 c, .str s, .own 1, .int .i64 a] 59, .own 135 2 m ys true] =>
    ∃ D : Dsk, z = D.sz ∧ c = D.sc ∧ s = D.st.flatten ∧ a = D.ar ∧ m = D.buf.length ∧ ys = D.buf.flatMap wrEn ∧ D.Ok ∧ k D
  | _ => False
theorem rIn_out {H : List LObj} {k : Dsk → Prop} (h : rIn H k) : ∃ D : Dsk, H = rB D ∧ D.Ok ∧ k D := by
  unfold rIn at h
  split at h
  case h_2 => exact h.elim
  obtain ⟨D, rfl, rfl, rfl, rfl, rfl, rfl, h1, h2⟩ := h
  exact ⟨D, rfl, h1, h2⟩
theorem flat_take {z : Nat} : ∀ {l : List Bs} (n : Nat), (∀ s ∈ l, s.length = z) → n ≤ l.length → l.flatten.take (n * z) = (l.take n).flatten
  | l, 0, _, _ => by simp
  | [], n + 1, _, h => by simp at h
  | s :: l, n + 1, h, hn => by
    rw [List.flatten_cons, List.take_succ_cons, List.flatten_cons, ← flat_take n (fun s hs => h s (List.mem_cons_of_mem _ hs)) (by simpa using hn), show (n + 1) * z = s.length + n * z by rw [h s List.mem_cons_self, Nat.add_mul]; omega, List.take_length_add_append]
theorem flat_drop {z : Nat} : ∀ {l : List Bs} (n : Nat), (∀ s ∈ l, s.length = z) → n ≤ l.length → l.flatten.drop (n * z) = (l.drop n).flatten
  | l, 0, _, _ => by simp
  | [], n + 1, _, h => by simp at h
  | s :: l, n + 1, h, hn => by
    rw [List.flatten_cons, List.drop_succ_cons, ← flat_drop n (fun s hs => h s (List.mem_cons_of_mem _ hs)) (by simpa using hn), show (n + 1) * z = s.length + n * z by rw [h s List.mem_cons_self, Nat.add_mul]; omega, ← List.drop_drop, List.drop_left' rfl]
theorem flat_put {z : Nat} {l : List Bs} (hl : ∀ s ∈ l, s.length = z) {n : Nat} (hn : n < l.length) {s : Bs} (hs : s.length ≤ z) :
    l.flatten.take (n * z) ++ s ++ l.flatten.drop (n * z + s.length) = (l.set n (s ++ (l.getD n []).drop s.length)).flatten := by
  have hd : l.getD n [] = l[n] := by rw [List.getD_eq_getElem?_getD, List.getElem?_eq_getElem hn]; rfl
  have hz : (l[n]).length = z := hl _ (List.getElem_mem hn)
  rw [flat_take n hl (Nat.le_of_lt hn), ← List.drop_drop, flat_drop n hl (Nat.le_of_lt hn), List.set_eq_take_append_cons_drop, if_pos hn, List.flatten_append, List.flatten_cons, hd, List.drop_eq_getElem_cons hn, List.flatten_cons, List.drop_append_of_le_length (by omega)]
  simp
theorem flat_cut {z : Nat} {l : List Bs} (hl : ∀ s ∈ l, s.length = z) {n : Nat} (hn : n < l.length) : (l.flatten.take ((n + 1) * z)).drop (n * z) = l.getD n [] := by
  have hd : l.getD n [] = l[n] := by rw [List.getD_eq_getElem?_getD, List.getElem?_eq_getElem hn]; rfl
  have hlen : (l.take n).flatten.length = n * z := by
    rw [flat_len (z := z) fun s hs => hl s (List.mem_of_mem_take hs), List.length_take]
    rw [Nat.min_eq_left (Nat.le_of_lt hn)]
  rw [flat_take (n + 1) hl hn, List.take_succ_eq_append_getElem hn, List.flatten_append, List.drop_left' hlen, hd]
  simp
def rarmS : Spec := fun args H Q => match args with
  | [.ptr 0 0, .int .i64 n] => Need (-9223372036854775808 ≤ n ∧ n ≤ 9223372036854775807) (rIn H fun D => Q (.tuple []) (rB { D with ar := n.toNat }))
  | _ => False
theorem rarm_c : Meets Tryz.prog [] 50 rarmS := by
  refine meets_of Γok Tryz.func50 rfl ?_
  intro args H Q h
  unfold rarmS at h
  split at h
  case h_2 => exact h.elim
  rename_i n
  obtain ⟨hn, h⟩ := h
  obtain ⟨D, rfl, ho, h⟩ := rIn_out h
  (refine sx_sound Γok _ ?_; conv => whnf)
  (repeat (first | (exact Out.same; conv => whnf) | (exact Out1.same; conv => whnf) | (refine QAnd.mk ?_ ?_; conv => whnf) | (apply QStepH.go; conv => whnf) | (refine Both.lit_true ?_; conv => whnf) | (refine Both.lit_false ?_; conv => whnf) | (apply QStep.go; conv => whnf) | (refine Need.au ?_; conv => whnf) | (refine ⟨_, rfl, ?_⟩; conv => whnf)))
  refine Both.dec (fun h1 => ?_) (fun h1 => ?_)
  · have h3 : (0 : Int) = ((n.toNat : Nat) : Int) := by omega
    (conv => whnf)
    (repeat (first | (exact Out.same; conv => whnf) | (exact Out1.same; conv => whnf) | (refine QAnd.mk ?_ ?_; conv => whnf) | (apply QStepH.go; conv => whnf) | (refine Both.lit_true ?_; conv => whnf) | (refine Both.lit_false ?_; conv => whnf) | (apply QStep.go; conv => whnf) | (refine Need.au ?_; conv => whnf) | (refine ⟨_, rfl, ?_⟩; conv => whnf)))
    refine ⟨_, _, WeakV.auto ?_, h⟩
    (repeat' ((conv => whnf); first | exact True.intro | (refine And.intro ?_ ?_)))
    all_goals first | rfl | exact .eq (congrArg (fun x => [SV.int .i64 (D.sz : Int), .int .i64 (D.sc : Int), .str D.st.flatten, .own 1, .int .i64 x]) h3) | exact .eq rfl
  · have h3 : n = ((n.toNat : Nat) : Int) := by omega
    (conv => whnf)
    (repeat (first | (exact Out.same; conv => whnf) | (exact Out1.same; conv => whnf) | (refine QAnd.mk ?_ ?_; conv => whnf) | (apply QStepH.go; conv => whnf) | (refine Both.lit_true ?_; conv => whnf) | (refine Both.lit_false ?_; conv => whnf) | (apply QStep.go; conv => whnf) | (refine Need.au ?_; conv => whnf) | (refine ⟨_, rfl, ?_⟩; conv => whnf)))
    refine ⟨_, _, WeakV.auto ?_, h⟩
    (repeat' ((conv => whnf); first | exact True.intro | (refine And.intro ?_ ?_)))
    all_goals first | rfl | exact .eq (congrArg (fun x => [SV.int .i64 (D.sz : Int), .int .i64 (D.sc : Int), .str D.st.flatten, .own 1, .int .i64 x]) h3) | exact .eq rfl
theorem rarm_k : Contract Tryz.prog [] 50 rarmS := ⟨⟨⟨_, rfl, rfl, rfl⟩⟩, rarm_c⟩
def rfailS : Spec := fun args H Q => match args with
  | [.ptr 0 0] => rIn H fun D => ∀ b : Bool, b = decide (D.ar = 1) → Q (.bool b) (rB { D with ar := D.ar - 1 })
  | _ => False
theorem rfail_c : Meets Tryz.prog [] 107 rfailS := by
  refine meets_of Γok Tryz.func107 rfl ?_
  intro args H Q h
  unfold rfailS at h
  split at h
  case h_2 => exact h.elim
  obtain ⟨D, rfl, ho, h⟩ := rIn_out h
  have h1 := ho.ar
  have he : decide ((D.ar : Int) = 1) = decide (D.ar = 1) := decide_eq_decide.2 (by omega)
  (refine sx_sound Γok _ ?_; conv => whnf)
  (repeat (first | (exact Out.same; conv => whnf) | (exact Out1.same; conv => whnf) | (refine QAnd.mk ?_ ?_; conv => whnf) | (apply QStepH.go; conv => whnf) | (refine Both.lit_true ?_; conv => whnf) | (refine Both.lit_false ?_; conv => whnf) | (apply QStep.go; conv => whnf) | (refine Need.au ?_; conv => whnf) | (refine ⟨_, rfl, ?_⟩; conv => whnf)))
  refine Both.dec (fun h2 => ?_) (fun h2 => ?_)
  · have h3 : IntKind.i64.wrap ((D.ar : Int) - 1) = ((D.ar - 1 : Nat) : Int) := by rw [wrap_i64 (by omega) (by omega)]; omega
    (conv => whnf)
    (repeat (first | (exact Out.same; conv => whnf) | (exact Out1.same; conv => whnf) | (refine QAnd.mk ?_ ?_; conv => whnf) | (apply QStepH.go; conv => whnf) | (refine Both.lit_true ?_; conv => whnf) | (refine Both.lit_false ?_; conv => whnf) | (apply QStep.go; conv => whnf) | (refine Need.au ?_; conv => whnf) | (refine ⟨_, rfl, ?_⟩; conv => whnf)))
    refine ⟨_, _, WeakV.auto ?_, h _ he⟩
    (repeat' ((conv => whnf); first | exact True.intro | (refine And.intro ?_ ?_)))
    all_goals first | rfl | exact .eq (congrArg (fun x => [SV.int .i64 (D.sz : Int), .int .i64 (D.sc : Int), .str D.st.flatten, .own 1, .int .i64 x]) h3) | exact .eq rfl
  · have h3 : (D.ar : Int) = ((D.ar - 1 : Nat) : Int) := by omega
    (conv => whnf)
    (repeat (first | (exact Out.same; conv => whnf) | (exact Out1.same; conv => whnf) | (refine QAnd.mk ?_ ?_; conv => whnf) | (apply QStepH.go; conv => whnf) | (refine Both.lit_true ?_; conv => whnf) | (refine Both.lit_false ?_; conv => whnf) | (apply QStep.go; conv => whnf) | (refine Need.au ?_; conv => whnf) | (refine ⟨_, rfl, ?_⟩; conv => whnf)))
    refine ⟨_, _, WeakV.auto ?_, h _ he⟩
    (repeat' ((conv => whnf); first | exact True.intro | (refine And.intro ?_ ?_)))
    all_goals first | rfl | exact .eq (congrArg (fun x => [SV.int .i64 (D.sz : Int), .int .i64 (D.sc : Int), .str D.st.flatten, .own 1, .int .i64 x]) h3) | exact .eq rfl
theorem rfail_k : Contract Tryz.prog [] 107 rfailS := ⟨⟨⟨_, rfl, rfl, rfl⟩⟩, rfail_c⟩
def d4rputS : Spec := fun args H Q => match args with
  | [.ptr 0 0, .int .i64 n, .str s] => rIn H fun D => Need (0 ≤ n ∧ n < D.sc ∧ s.length ≤ D.sz) (Q (.tuple []) (rB { D with st := D.st.set n.toNat (s ++ (D.st.getD n.toNat []).drop s.length) }))
  | _ => False
theorem d4rput_c : Meets Tryz.prog [] 77 d4rputS := by
  refine meets_of Γok Tryz.func77 rfl ?_
  intro args H Q h
  unfold d4rputS at h
  split at h
  case h_2 => exact h.elim
  rename_i n s
  obtain ⟨D, rfl, ho, ⟨h1, h2, h3⟩, h⟩ := rIn_out h
  obtain ⟨n, rfl⟩ := Int.eq_ofNat_of_zero_le h1
  have hsz := ho.sz
  have hsc := ho.sc
  have hfl := ho.flat
  have hle := ho.le
  have hn : n < D.sc := by omega
  have hm1 : (n + 1) * D.sz ≤ D.sc * D.sz := Nat.mul_le_mul_right _ hn
  have hm2 : (n + 1) * D.sz = n * D.sz + D.sz := by rw [Nat.add_mul]; omega
  have hput := flat_put ho.each (n := n) (by rw [ho.len]; exact hn) h3
  have hw : IntKind.i64.wrap ((n : Int) * (D.sz : Int)) = ((n * D.sz : Nat) : Int) := by
    rw [← Int.natCast_mul, wrap_i64 (by omega) (by omega)]
  have hw2 : IntKind.i64.wrap (((n * D.sz : Nat) : Int) + ((s.length : Nat) : Int)) = ((n * D.sz + s.length : Nat) : Int) := by
    rw [← Int.natCast_add, wrap_i64 (by omega) (by omega)]
  generalize hq : n * D.sz = q at *
  have hput2 : List.drop (Int.toNat 0) (List.take ((q : Nat) : Int).toNat D.st.flatten) ++ s ++ List.drop ((q + s.length : Nat) : Int).toNat (List.take ((D.st.flatten.length : Nat) : Int).toNat D.st.flatten) = (D.st.set n (s ++ List.drop s.length (D.st.getD n []))).flatten := by
    show List.take q D.st.flatten ++ s ++ List.drop (q + s.length) (List.take D.st.flatten.length D.st.flatten) = _
    rw [List.take_length, hput]
  (refine sx_sound Γok _ ?_; conv => whnf)
  (repeat (first | (exact Out.same; conv => whnf) | (exact Out1.same; conv => whnf) | (refine QAnd.mk ?_ ?_; conv => whnf) | (apply QStepH.go; conv => whnf) | (refine Both.lit_true ?_; conv => whnf) | (refine Both.lit_false ?_; conv => whnf) | (apply QStep.go; conv => whnf) | (refine Need.au ?_; conv => whnf) | (refine ⟨_, rfl, ?_⟩; conv => whnf)))
  rw [hw]
  (refine DrawVC.any Γok (by kernel_rfl) (by kernel_rfl) (by kernel_rfl) (by rfl) ?_; conv => whnf)
  (repeat (first | (exact ⟨congrArg (SV.int .i64) hw2⟩; conv => whnf) | (exact Out.same; conv => whnf) | (exact Out1.same; conv => whnf) | (refine QAnd.mk ?_ ?_; conv => whnf) | (apply QStepH.go; conv => whnf) | (refine Both.lit_true ?_; conv => whnf) | (refine Both.lit_false ?_; conv => whnf) | (apply QStep.go; conv => whnf) | (refine Need.au ?_; conv => whnf) | (refine ⟨_, rfl, ?_⟩; conv => whnf)))
  refine ⟨_, _, WeakV.auto ?_, h⟩
  (repeat' ((conv => whnf); first | exact True.intro | (refine And.intro ?_ ?_)))
  all_goals first | rfl | exact .eq (congrArg (fun x => [SV.int .i64 (D.sz : Int), .int .i64 (D.sc : Int), .str x, .own 1, .int .i64 (D.ar : Int)]) hput2) | exact .eq rfl
theorem d4rput_k : Contract Tryz.prog [] 77 d4rputS := ⟨⟨⟨_, rfl, rfl, rfl⟩⟩, d4rput_c⟩
end Go.LX
end
section
set_option maxRecDepth 100000
set_option maxHeartbeats 1000000
set_option autoImplicit false
set_option linter.unusedVariables false
set_option linter.unusedSimpArgs false
namespace Go.LX
open Go.Proofs

def rwriteS : Spec := fun args H Q => match args with
  | [.ptr 0 0, .int .i64 n, .str s] => rIn H fun D => Need (D.buf.length < 1000000) (∀ e D', (e, D') = D.wr n s → Q (.int .i64 e) (rA D'))
  | _ => False
theorem rwrite_c : Meets Tryz.prog [] 100 rwriteS := by
  refine meets_of Γok Tryz.func100 rfl ?_
  intro args H Q h
  unfold rwriteS at h
  split at h
  case h_2 => exact h.elim
  rename_i n s
  obtain ⟨D, rfl, ho, hf, h⟩ := rIn_out h
  have bad : ¬ (0 ≤ n ∧ n < D.sc ∧ s.length = D.sz) → Q (.int .i64 1) (rA D) := fun h0 => h 1 D (by rw [Dsk.wr, if_neg h0])
  (refine sx_sound Γok _ ?_; conv => whnf)
  (repeat (first | (exact Out.same; conv => whnf) | (exact Out1.same; conv => whnf) | (refine QAnd.mk ?_ ?_; conv => whnf) | (apply QStepH.go; conv => whnf) | (refine Both.lit_true ?_; conv => whnf) | (refine Both.lit_false ?_; conv => whnf) | (apply QStep.go; conv => whnf) | (refine Need.au ?_; conv => whnf) | (refine ⟨_, rfl, ?_⟩; conv => whnf)))
  refine Both.dec (fun h1 => ?_) (fun h1 => ?_)
  · (conv => whnf)
    (repeat (first | (exact Out.same; conv => whnf) | (exact Out1.same; conv => whnf) | (refine QAnd.mk ?_ ?_; conv => whnf) | (apply QStepH.go; conv => whnf) | (refine Both.lit_true ?_; conv => whnf) | (refine Both.lit_false ?_; conv => whnf) | (apply QStep.go; conv => whnf) | (refine Need.au ?_; conv => whnf) | (refine ⟨_, rfl, ?_⟩; conv => whnf)))
    refine ⟨_, _, WeakV.trans (WeakV.of (Weak.fresh 1 0 3 rfl rfl rfl)) (WeakV.auto ?_), bad (by omega)⟩
    (repeat' ((conv => whnf); first | exact True.intro | (refine And.intro ?_ ?_)))
    all_goals first | rfl | exact .eq rfl
  (conv => whnf)
  (repeat (first | (exact Out.same; conv => whnf) | (exact Out1.same; conv => whnf) | (refine QAnd.mk ?_ ?_; conv => whnf) | (apply QStepH.go; conv => whnf) | (refine Both.lit_true ?_; conv => whnf) | (refine Both.lit_false ?_; conv => whnf) | (apply QStep.go; conv => whnf) | (refine Need.au ?_; conv => whnf) | (refine ⟨_, rfl, ?_⟩; conv => whnf)))
  refine Both.dec (fun h2 => ?_) (fun h2 => ?_)
  · (conv => whnf)
    (repeat (first | (exact Out.same; conv => whnf) | (exact Out1.same; conv => whnf) | (refine QAnd.mk ?_ ?_; conv => whnf) | (apply QStepH.go; conv => whnf) | (refine Both.lit_true ?_; conv => whnf) | (refine Both.lit_false ?_; conv => whnf) | (apply QStep.go; conv => whnf) | (refine Need.au ?_; conv => whnf) | (refine ⟨_, rfl, ?_⟩; conv => whnf)))
    refine ⟨_, _, WeakV.trans (WeakV.of (Weak.fresh 1 0 3 rfl rfl rfl)) (WeakV.auto ?_), bad (by omega)⟩
    (repeat' ((conv => whnf); first | exact True.intro | (refine And.intro ?_ ?_)))
    all_goals first | rfl | exact .eq rfl
  (conv => whnf)
  (repeat (first | (exact Out.same; conv => whnf) | (exact Out1.same; conv => whnf) | (refine QAnd.mk ?_ ?_; conv => whnf) | (apply QStepH.go; conv => whnf) | (refine Both.lit_true ?_; conv => whnf) | (refine Both.lit_false ?_; conv => whnf) | (apply QStep.go; conv => whnf) | (refine Need.au ?_; conv => whnf) | (refine ⟨_, rfl, ?_⟩; conv => whnf)))
  refine Both.dec_not (fun h3 => ?_) (fun h3 => ?_)
  · (conv => whnf)
    (repeat (first | (exact Out.same; conv => whnf) | (exact Out1.same; conv => whnf) | (refine QAnd.mk ?_ ?_; conv => whnf) | (apply QStepH.go; conv => whnf) | (refine Both.lit_true ?_; conv => whnf) | (refine Both.lit_false ?_; conv => whnf) | (apply QStep.go; conv => whnf) | (refine Need.au ?_; conv => whnf) | (refine ⟨_, rfl, ?_⟩; conv => whnf)))
    refine ⟨_, _, WeakV.trans (WeakV.of (Weak.fresh 1 0 3 rfl rfl rfl)) (WeakV.auto ?_), bad (by omega)⟩
    (repeat' ((conv => whnf); first | exact True.intro | (refine And.intro ?_ ?_)))
    all_goals first | rfl | exact .eq rfl
  (conv => whnf)
  (repeat (first | (exact Out.same; conv => whnf) | (exact Out1.same; conv => whnf) | (refine QAnd.mk ?_ ?_; conv => whnf) | (apply QStepH.go; conv => whnf) | (refine Both.lit_true ?_; conv => whnf) | (refine Both.lit_false ?_; conv => whnf) | (apply QStep.go; conv => whnf) | (refine Need.au ?_; conv => whnf) | (refine ⟨_, rfl, ?_⟩; conv => whnf)))
  refine CallVC.auto rfail_k ⟨D, rfl, rfl, rfl, rfl, rfl, rfl, ho, ?_⟩
  intro b hb
  cases b
  · have h4 := of_decide_eq_false hb.symm
    have hb1 : (0 + D.buf.length) * 24 ≤ 140737488355328 := by omega
    have hb2 : (0 + D.buf.length + 1) * 24 ≤ 140737488355328 := by omega
    (conv => whnf)
    (repeat (first | (refine Need.mk hb1 ?_; conv => whnf) | (refine Need.mk hb2 ?_; conv => whnf) | (exact Out.same; conv => whnf) | (exact Out1.same; conv => whnf) | (refine QAnd.mk ?_ ?_; conv => whnf) | (apply QStepH.go; conv => whnf) | (refine Both.lit_true ?_; conv => whnf) | (refine Both.lit_false ?_; conv => whnf) | (apply QStep.go; conv => whnf) | (refine Need.au ?_; conv => whnf) | (refine ⟨_, rfl, ?_⟩; conv => whnf)))
    refine ⟨_, _, WeakV.auto ?_, h 0 { D with ar := D.ar - 1, buf := D.buf ++ [(n, s)] } (by rw [Dsk.wr, if_pos ⟨by omega, by omega, by omega⟩, if_neg h4])⟩
    (repeat' ((conv => whnf); first | exact True.intro | (refine And.intro ?_ ?_)))
    all_goals first | rfl | exact .eq rfl | exact own_eq (by simp) (by simp [wrEn])
  · have h4 := of_decide_eq_true hb.symm
    (conv => whnf)
    (repeat (first | (exact Out.same; conv => whnf) | (exact Out1.same; conv => whnf) | (refine QAnd.mk ?_ ?_; conv => whnf) | (apply QStepH.go; conv => whnf) | (refine Both.lit_true ?_; conv => whnf) | (refine Both.lit_false ?_; conv => whnf) | (apply QStep.go; conv => whnf) | (refine Need.au ?_; conv => whnf) | (refine ⟨_, rfl, ?_⟩; conv => whnf)))
    refine ⟨_, _, WeakV.trans (WeakV.of (Weak.fresh 1 0 3 rfl rfl rfl)) (WeakV.auto ?_), h 13 { D with ar := D.ar - 1 } (by rw [Dsk.wr, if_pos ⟨by omega, by omega, by omega⟩, if_pos h4, h4])⟩
    (repeat' ((conv => whnf); first | exact True.intro | (refine And.intro ?_ ?_)))
    all_goals first | rfl | exact .eq rfl
theorem rwrite_k : Contract Tryz.prog [] 100 rwriteS := ⟨⟨⟨_, rfl, rfl, rfl⟩⟩, rwrite_c⟩
theorem put_all {D : Dsk} (h : D.Ok) {n : Int} {s : Bs} (h0 : 0 ≤ n ∧ n < D.sc ∧ s.length = D.sz) : s ++ (D.st.getD n.toNat []).drop s.length = s := by
  have := h.reg.at h0.1 h0.2.1
  rw [List.drop_of_length_le (by omega), List.append_nil]
theorem putAll_ok {D : Dsk} (h : D.Ok) (k : Nat) : ({ D with ar := D.ar - 1, st := putAll D.st (D.buf.take k) } : Dsk).Ok :=
  ⟨h.sz, h.sc, by show (putAll _ _).length = _; rw [putAll_len]; exact h.len, putAll_each _ _ h.each fun w hw => (h.buf w (List.mem_of_mem_take hw)).2.2, h.buf, h.few, by have := h.ar; show D.ar - 1 ≤ _; omega⟩
def rflushS : Spec := fun args H Q => match args with
  | [.ptr 0 0] => rIn H fun D => ∀ e D', (e, D') = D.fl → Q (.int .i64 e) (rA D')
  | _ => False
theorem rflush_c : Meets Tryz.prog [] 82 rflushS := by
  refine meets_of Γok Tryz.func82 rfl ?_
  intro args H Q h
  unfold rflushS at h
  split at h
  case h_2 => exact h.elim
  obtain ⟨D, rfl, ho, h⟩ := rIn_out h
  have hfew := ho.few
  (refine sx_sound Γok _ ?_; conv => whnf)
  (repeat (first | (exact Out.same; conv => whnf) | (exact Out1.same; conv => whnf) | (refine QAnd.mk ?_ ?_; conv => whnf) | (apply QStepH.go; conv => whnf) | (refine Both.lit_true ?_; conv => whnf) | (refine Both.lit_false ?_; conv => whnf) | (apply QStep.go; conv => whnf) | (refine Need.au ?_; conv => whnf) | (refine ⟨_, rfl, ?_⟩; conv => whnf)))
  refine CallVC.auto rfail_k ⟨D, rfl, rfl, rfl, rfl, rfl, rfl, ho, ?_⟩
  intro b hb
  cases b
  rotate_left
  · have h2 := of_decide_eq_true hb.symm
    (conv => whnf)
    (repeat (first | (exact Out.same; conv => whnf) | (exact Out1.same; conv => whnf) | (refine QAnd.mk ?_ ?_; conv => whnf) | (apply QStepH.go; conv => whnf) | (refine Both.lit_true ?_; conv => whnf) | (refine Both.lit_false ?_; conv => whnf) | (apply QStep.go; conv => whnf) | (refine Need.au ?_; conv => whnf) | (refine ⟨_, rfl, ?_⟩; conv => whnf)))
    refine ⟨_, _, WeakV.trans (WeakV.of (Weak.fresh 1 0 3 rfl rfl rfl)) (WeakV.auto ?_), h 13 { D with ar := D.ar - 1 } (by rw [Dsk.fl, if_pos h2, h2])⟩
    (repeat' ((conv => whnf); first | exact True.intro | (refine And.intro ?_ ?_)))
    all_goals first | rfl | exact .eq rfl
  have h2 := of_decide_eq_false hb.symm
  (conv => whnf)
  (repeat (first | (exact Out.same; conv => whnf) | (exact Out1.same; conv => whnf) | (refine QAnd.mk ?_ ?_; conv => whnf) | (apply QStepH.go; conv => whnf) | (refine Both.lit_true ?_; conv => whnf) | (refine Both.lit_false ?_; conv => whnf) | (apply QStep.go; conv => whnf) | (refine Need.au ?_; conv => whnf) | (refine ⟨_, rfl, ?_⟩; conv => whnf)))
  refine loop_rule (fun k : Nat => ⟨[.ptr 0 0, .any, .any, .int .i64 (k : Int), .any, .any, .any, .any, .any, .any, .any, .any, .any, .any, .any, .any, .any, .any, .any, .any, .any, .any, .any, .any, .any, .any, .any, .any, .any, .any, .any, .any, .any, .any, .any, .any], rB { D with ar := D.ar - 1, st := putAll D.st (D.buf.take k) }⟩) (fun k => k ≤ D.buf.length) (fun k => D.buf.length - k) 0 (by omega) (Weak.auto ?_) ?_
  · (repeat' ((conv => whnf); first | exact True.intro | (refine And.intro ?_ ?_)))
    all_goals first | rfl | exact .eq rfl
  intro k hk
  have hok := putAll_ok ho k
  (refine sx_sound Γok _ ?_; conv => whnf)
  (repeat (first | (exact Out.same; conv => whnf) | (exact Out1.same; conv => whnf) | (refine QAnd.mk ?_ ?_; conv => whnf) | (apply QStepH.go; conv => whnf) | (refine Both.lit_true ?_; conv => whnf) | (refine Both.lit_false ?_; conv => whnf) | (apply QStep.go; conv => whnf) | (refine Need.au ?_; conv => whnf) | (refine ⟨_, rfl, ?_⟩; conv => whnf)))
  refine Both.dec (fun hlt => ?_) (fun hge => ?_)
  · have hlt : (k : Int) < ((D.buf.length : Nat) : Int) := hlt
    have hkl : k < D.buf.length := by omega
    have hr0 : (D.buf.flatMap wrEn)[((k : Int)).toNat * 2 + 0]? = some (.int .i64 D.buf[k].1) := rows_cell (en := wrEn) (z := 2) (fun _ => rfl) D.buf k 0 hkl (by omega)
    have hr1 : (D.buf.flatMap wrEn)[((k : Int)).toNat * 2 + 1]? = some (.str D.buf[k].2) := rows_cell (en := wrEn) (z := 2) (fun _ => rfl) D.buf k 1 hkl (by omega)
    have hb := buf_at ho hkl
    have htk := putAll_take D.st D.buf k hkl
    have hpa := put_all hok hb
    have hwr : IntKind.i64.wrap ((k : Int) + 1) = ((k + 1 : Nat) : Int) := by rw [wrap_i64 (by omega) (by omega)]; rfl
    have hfl : (List.flatten (putAll D.st (D.buf.take (k + 1)))) = List.flatten ((putAll D.st (D.buf.take k)).set D.buf[k].1.toNat (D.buf[k].2 ++ ((putAll D.st (D.buf.take k)).getD D.buf[k].1.toNat []).drop D.buf[k].2.length)) := by
      rw [hpa, htk]
    (conv => whnf)
    (repeat (first | (exact Out.same; conv => whnf) | (exact Out1.same; conv => whnf) | (refine QAnd.mk ?_ ?_; conv => whnf) | (apply QStepH.go; conv => whnf) | (refine Both.lit_true ?_; conv => whnf) | (refine Both.lit_false ?_; conv => whnf) | (apply QStep.go; conv => whnf) | (refine Need.au ?_; conv => whnf) | (refine ⟨_, rfl, ?_⟩; conv => whnf)))
    (refine DrawVC.any Γok (by kernel_rfl) (by kernel_rfl) (by kernel_rfl) (by rfl) ?_; conv => whnf)
    (repeat (first | (refine ⟨_, hr0, ?_⟩; conv => whnf) | (refine ⟨_, hr1, ?_⟩; conv => whnf) | (refine CallVC.auto d4rput_k ⟨_, rfl, rfl, rfl, rfl, rfl, rfl, hok, ⟨hb.1, hb.2.1, Nat.le_of_eq hb.2.2⟩, ?_⟩; conv => whnf) | (exact Out.same; conv => whnf) | (exact Out1.same; conv => whnf) | (refine QAnd.mk ?_ ?_; conv => whnf) | (apply QStepH.go; conv => whnf) | (refine Both.lit_true ?_; conv => whnf) | (refine Both.lit_false ?_; conv => whnf) | (apply QStep.go; conv => whnf) | (refine Need.au ?_; conv => whnf) | (refine ⟨_, rfl, ?_⟩; conv => whnf)))
    refine ⟨k + 1, by omega, by omega, Weak.auto ?_⟩
    (repeat' ((conv => whnf); first | exact True.intro | (refine And.intro ?_ ?_)))
    all_goals first | rfl | exact .eq rfl | exact congrArg (SV.int .i64) hwr | exact .eq (congrArg (fun x => [SV.int .i64 (D.sz : Int), .int .i64 (D.sc : Int), .str x, .own 1, .int .i64 ((D.ar - 1 : Nat) : Int)]) hfl.symm)
  · have hge : ¬ (k : Int) < ((D.buf.length : Nat) : Int) := hge
    have hke : k = D.buf.length := by omega
    subst hke
    (conv => whnf)
    (repeat (first | (exact Out.same; conv => whnf) | (exact Out1.same; conv => whnf) | (refine QAnd.mk ?_ ?_; conv => whnf) | (apply QStepH.go; conv => whnf) | (refine Both.lit_true ?_; conv => whnf) | (refine Both.lit_false ?_; conv => whnf) | (apply QStep.go; conv => whnf) | (refine Need.au ?_; conv => whnf) | (refine ⟨_, rfl, ?_⟩; conv => whnf)))
    refine ⟨_, _, WeakV.trans (WeakV.of (Weak.ownNil 0 3 135 2 rfl rfl)) (WeakV.auto ?_), h 0 { D with ar := D.ar - 1, st := putAll D.st D.buf, buf := [] } (by rw [Dsk.fl, if_neg h2])⟩
    (repeat' ((conv => whnf); first | exact True.intro | (refine And.intro ?_ ?_)))
    all_goals first | rfl | exact .eq rfl | exact .eq (congrArg (fun x => [SV.int .i64 (D.sz : Int), .int .i64 (D.sc : Int), .str (List.flatten (putAll D.st x)), .own 2, .int .i64 ((D.ar - 1 : Nat) : Int)]) List.take_length)
theorem rflush_k : Contract Tryz.prog [] 82 rflushS := ⟨⟨⟨_, rfl, rfl, rfl⟩⟩, rflush_c⟩
end Go.LX
end
section
set_option maxRecDepth 100000
set_option maxHeartbeats 1000000
set_option autoImplicit false
set_option linter.unusedVariables false
set_option linter.unusedSimpArgs false
namespace Go.LX
open Go.Proofs

def d4rreadS : Spec := fun args H Q => match args with
  | [.ptr 0 0, .int .i64 n] => rIn H fun D => ∀ s e, (s, e) = D.rd n → Q (.tuple [.str s, .int .i64 e]) (rB D)
  | _ => False
theorem d4rread_c : Meets Tryz.prog [] 83 d4rreadS := by
  refine meets_of Γok Tryz.func83 rfl ?_
  intro args H Q h
  unfold d4rreadS at h
  split at h
  case h_2 => exact h.elim
  rename_i n
  obtain ⟨D, rfl, ho, h⟩ := rIn_out h
  have hfew := ho.few
  have bad : ¬ (0 ≤ n ∧ n < D.sc) → Q (.tuple [.str [], .int .i64 1]) (rB D) := fun h0 => h [] 1 (by rw [Dsk.rd, if_neg h0])
  (refine sx_sound Γok _ ?_; conv => whnf)
  (repeat (first | (exact Out.same; conv => whnf) | (exact Out1.same; conv => whnf) | (refine QAnd.mk ?_ ?_; conv => whnf) | (apply QStepH.go; conv => whnf) | (refine Both.lit_true ?_; conv => whnf) | (refine Both.lit_false ?_; conv => whnf) | (apply QStep.go; conv => whnf) | (refine Need.au ?_; conv => whnf) | (refine ⟨_, rfl, ?_⟩; conv => whnf)))
  refine Both.dec (fun h1 => ?_) (fun h1 => ?_)
  · (conv => whnf)
    (repeat (first | (exact Out.same; conv => whnf) | (exact Out1.same; conv => whnf) | (refine QAnd.mk ?_ ?_; conv => whnf) | (apply QStepH.go; conv => whnf) | (refine Both.lit_true ?_; conv => whnf) | (refine Both.lit_false ?_; conv => whnf) | (apply QStep.go; conv => whnf) | (refine Need.au ?_; conv => whnf) | (refine ⟨_, rfl, ?_⟩; conv => whnf)))
    refine ⟨_, _, WeakV.auto ?_, bad (by omega)⟩
    (repeat' ((conv => whnf); first | exact True.intro | (refine And.intro ?_ ?_)))
    all_goals first | rfl | exact .eq rfl
  (conv => whnf)
  (repeat (first | (exact Out.same; conv => whnf) | (exact Out1.same; conv => whnf) | (refine QAnd.mk ?_ ?_; conv => whnf) | (apply QStepH.go; conv => whnf) | (refine Both.lit_true ?_; conv => whnf) | (refine Both.lit_false ?_; conv => whnf) | (apply QStep.go; conv => whnf) | (refine Need.au ?_; conv => whnf) | (refine ⟨_, rfl, ?_⟩; conv => whnf)))
  refine Both.dec (fun h2 => ?_) (fun h2 => ?_)
  · (conv => whnf)
    (repeat (first | (exact Out.same; conv => whnf) | (exact Out1.same; conv => whnf) | (refine QAnd.mk ?_ ?_; conv => whnf) | (apply QStepH.go; conv => whnf) | (refine Both.lit_true ?_; conv => whnf) | (refine Both.lit_false ?_; conv => whnf) | (apply QStep.go; conv => whnf) | (refine Need.au ?_; conv => whnf) | (refine ⟨_, rfl, ?_⟩; conv => whnf)))
    refine ⟨_, _, WeakV.auto ?_, bad (by omega)⟩
    (repeat' ((conv => whnf); first | exact True.intro | (refine And.intro ?_ ?_)))
    all_goals first | rfl | exact .eq rfl
  have good : Q (.tuple [.str (rdOf D.st D.buf n), .int .i64 0]) (rB D) := h _ 0 (by rw [Dsk.rd, if_pos ⟨by omega, by omega⟩])
  have hw0 : IntKind.i64.wrap (((D.buf.length : Nat) : Int) - 1) = ((D.buf.length : Nat) : Int) - 1 := wrap_i64 (by omega) (by omega)
  (conv => whnf)
  (repeat (first | (exact Out.same; conv => whnf) | (exact Out1.same; conv => whnf) | (refine QAnd.mk ?_ ?_; conv => whnf) | (apply QStepH.go; conv => whnf) | (refine Both.lit_true ?_; conv => whnf) | (refine Both.lit_false ?_; conv => whnf) | (apply QStep.go; conv => whnf) | (refine Need.au ?_; conv => whnf) | (refine ⟨_, rfl, ?_⟩; conv => whnf)))
  refine loop_rule (fun j : Nat => ⟨[.ptr 0 0, .int .i64 n, .any, .any, .any, .any, .int .i64 ((j : Int) - 1), .any, .any, .any, .any, .any, .any, .any, .any, .any, .any, .any, .any, .any, .any, .any, .any, .any, .any, .any, .any, .any, .any, .any, .any, .any, .any, .any, .any, .any, .any, .any, .any, .any, .any, .any, .any, .any, .any, .any, .any, .any, .any, .any, .any, .any, .any, .any, .any, .any, .any, .any, .any, .any, .any, .any, .any], rB D⟩) (fun j => j ≤ D.buf.length ∧ rdOf D.st D.buf n = rdOf D.st (D.buf.take j) n) (fun j => j) D.buf.length ⟨Nat.le_refl _, by rw [List.take_length]⟩ (Weak.auto ?_) ?_
  · (repeat' ((conv => whnf); first | exact True.intro | (refine And.intro ?_ ?_)))
    all_goals first | rfl | exact .eq rfl | exact congrArg (SV.int .i64) hw0
  intro j ⟨hj, hrd⟩
  cases j with
  | zero =>
    obtain ⟨m, rfl⟩ := Int.eq_ofNat_of_zero_le (show 0 ≤ n by omega)
    have hn : m < D.sc := by omega
    have hsz := ho.sz
    have hsc := ho.sc
    have hle := ho.le
    have hm1 : (m + 1) * D.sz ≤ D.sc * D.sz := Nat.mul_le_mul_right _ hn
    have hm2 : (m + 1) * D.sz = m * D.sz + D.sz := by rw [Nat.add_mul]; omega
    have hw : IntKind.i64.wrap ((m : Int) * (D.sz : Int)) = ((m * D.sz : Nat) : Int) := by
      rw [← Int.natCast_mul, wrap_i64 (by omega) (by omega)]
    have hw1 : IntKind.i64.wrap ((m : Int) + 1) = ((m + 1 : Nat) : Int) := by rw [wrap_i64 (by omega) (by omega)]; rfl
    have hw2 : IntKind.i64.wrap (((m + 1 : Nat) : Int) * (D.sz : Int)) = (((m + 1) * D.sz : Nat) : Int) := by
      rw [← Int.natCast_mul, wrap_i64 (by omega) (by omega)]
    have hcut : 0 ≤ ((m * D.sz : Nat) : Int) ∧ ((m * D.sz : Nat) : Int) ≤ (((m + 1) * D.sz : Nat) : Int) ∧ (((m + 1) * D.sz : Nat) : Int) ≤ ((D.st.flatten.length : Nat) : Int) := by rw [ho.flat]; omega
    have hv : List.drop ((m * D.sz : Nat) : Int).toNat (List.take (((m + 1) * D.sz : Nat) : Int).toNat D.st.flatten) = rdOf D.st D.buf (m : Int) := by
      rw [hrd]
      exact flat_cut ho.each (by rw [ho.len]; exact hn)
    (refine sx_sound Γok _ ?_; conv => whnf)
    (repeat (first | (exact Out.same; conv => whnf) | (exact Out1.same; conv => whnf) | (refine QAnd.mk ?_ ?_; conv => whnf) | (apply QStepH.go; conv => whnf) | (refine Both.lit_true ?_; conv => whnf) | (refine Both.lit_false ?_; conv => whnf) | (apply QStep.go; conv => whnf) | (refine Need.au ?_; conv => whnf) | (refine ⟨_, rfl, ?_⟩; conv => whnf) | (refine Both.of_false ?_ ?_; (focus (first | rfl | (simp <;> fail))); conv => whnf) | (refine Both.of_true ?_ ?_; (focus (first | rfl | (simp <;> fail))); conv => whnf)))
    (refine DrawVC.all Γok (by kernel_rfl) (by kernel_rfl) ?_; conv => whnf)
    (repeat (first | (exact ⟨congrArg (SV.int .i64) hw⟩; conv => whnf) | (exact ⟨congrArg (SV.int .i64) hw1⟩; conv => whnf) | (exact ⟨congrArg (SV.int .i64) hw2⟩; conv => whnf) | (exact ⟨congrArg (SV.int .i64) hw, rfl⟩; conv => whnf) | (exact ⟨congrArg (SV.int .i64) hw1, rfl⟩; conv => whnf) | (exact ⟨congrArg (SV.int .i64) hw2, rfl⟩; conv => whnf) | (refine Need.mk hcut ?_; conv => whnf) | (exact ⟨congrArg SV.str hv⟩; conv => whnf) | (exact ⟨congrArg SV.str hv, rfl⟩; conv => whnf) | (exact Out.same; conv => whnf) | (exact Out1.same; conv => whnf) | (refine QAnd.mk ?_ ?_; conv => whnf) | (apply QStepH.go; conv => whnf) | (refine Both.lit_true ?_; conv => whnf) | (refine Both.lit_false ?_; conv => whnf) | (apply QStep.go; conv => whnf) | (refine Need.au ?_; conv => whnf) | (refine ⟨_, rfl, ?_⟩; conv => whnf)))
    refine ⟨_, _, WeakV.auto ?_, good⟩
    (repeat' ((conv => whnf); first | exact True.intro | (refine And.intro ?_ ?_)))
    all_goals first | rfl | exact .eq rfl
  | succ k =>
    have hkl : k < D.buf.length := hj
    have hix : (((k + 1 : Nat) : Int) - 1).toNat = k := by omega
    have hr0 : (D.buf.flatMap wrEn)[(((k + 1 : Nat) : Int) - 1).toNat * 2 + 0]? = some (.int .i64 D.buf[k].1) := by
      rw [hix]
      exact rows_cell (en := wrEn) (z := 2) (fun _ => rfl) D.buf k 0 hkl (by omega)
    have hr1 : (D.buf.flatMap wrEn)[(((k + 1 : Nat) : Int) - 1).toNat * 2 + 1]? = some (.str D.buf[k].2) := by
      rw [hix]
      exact rows_cell (en := wrEn) (z := 2) (fun _ => rfl) D.buf k 1 hkl (by omega)
    have htk := rdOf_take D.st D.buf n k hkl
    have hge : (0 : Int) ≤ ((k + 1 : Nat) : Int) - 1 := by omega
    have hwk : IntKind.i64.wrap (((k + 1 : Nat) : Int) - 1 - 1) = (k : Int) - 1 := by rw [wrap_i64 (by omega) (by omega)]; omega
    (refine sx_sound Γok _ ?_; conv => whnf)
    (repeat (first | (exact Out.same; conv => whnf) | (exact Out1.same; conv => whnf) | (refine QAnd.mk ?_ ?_; conv => whnf) | (apply QStepH.go; conv => whnf) | (refine Both.lit_true ?_; conv => whnf) | (refine Both.lit_false ?_; conv => whnf) | (apply QStep.go; conv => whnf) | (refine Need.au ?_; conv => whnf) | (refine ⟨_, rfl, ?_⟩; conv => whnf)))
    refine Both.sure hge ?_
    (conv => whnf)
    (repeat (first | (refine ⟨_, hr0, ?_⟩; conv => whnf) | (exact Out.same; conv => whnf) | (exact Out1.same; conv => whnf) | (refine QAnd.mk ?_ ?_; conv => whnf) | (apply QStepH.go; conv => whnf) | (refine Both.lit_true ?_; conv => whnf) | (refine Both.lit_false ?_; conv => whnf) | (apply QStep.go; conv => whnf) | (refine Need.au ?_; conv => whnf) | (refine ⟨_, rfl, ?_⟩; conv => whnf)))
    refine Both.dec (fun he => ?_) (fun he => ?_)
    · rw [if_pos he] at htk
      have hv : D.buf[k].2 = rdOf D.st D.buf n := by rw [hrd, htk]
      (conv => whnf)
      (repeat (first | (refine ⟨_, hr1, ?_⟩; conv => whnf) | (exact Out.same; conv => whnf) | (exact Out1.same; conv => whnf) | (refine QAnd.mk ?_ ?_; conv => whnf) | (apply QStepH.go; conv => whnf) | (refine Both.lit_true ?_; conv => whnf) | (refine Both.lit_false ?_; conv => whnf) | (apply QStep.go; conv => whnf) | (refine Need.au ?_; conv => whnf) | (refine ⟨_, rfl, ?_⟩; conv => whnf)))
      refine ⟨_, _, WeakV.auto ?_, good⟩
      (repeat' ((conv => whnf); first | exact True.intro | (refine And.intro ?_ ?_)))
      all_goals first | rfl | exact .eq rfl | exact congrArg (fun x => SV.tuple [.str x, .int .i64 0]) hv
    · rw [if_neg he] at htk
      (conv => whnf)
      (repeat (first | (exact Out.same; conv => whnf) | (exact Out1.same; conv => whnf) | (refine QAnd.mk ?_ ?_; conv => whnf) | (apply QStepH.go; conv => whnf) | (refine Both.lit_true ?_; conv => whnf) | (refine Both.lit_false ?_; conv => whnf) | (apply QStep.go; conv => whnf) | (refine Need.au ?_; conv => whnf) | (refine ⟨_, rfl, ?_⟩; conv => whnf)))
      refine ⟨k, ⟨by omega, by rw [hrd, htk]⟩, by omega, Weak.auto ?_⟩
      (repeat' ((conv => whnf); first | exact True.intro | (refine And.intro ?_ ?_)))
      all_goals first | rfl | exact .eq rfl | exact congrArg (SV.int .i64) hwk
theorem d4rread_k : Contract Tryz.prog [] 83 d4rreadS := ⟨⟨⟨_, rfl, rfl, rfl⟩⟩, d4rread_c⟩
def d4rnewS : Spec := fun args H Q => match args, H with
  | [.int .i64 z, .int .i64 c], [] => okG z c = true ∧ Q (.ptr 0 0) (rB (Dsk.fresh z.toNat c.toNat))
  | _, _ => False
theorem zeros_bytes (n : Nat) : (List.replicate n (CV.int .u8 0)).map cvByte = List.replicate n (0 : UInt8) := by
  rw [List.map_replicate]
  rfl
theorem flat_rep (z c : Nat) : (List.replicate c (Z z)).flatten = List.replicate (z * c) (0 : UInt8) := by
  rw [Z, List.flatten_replicate_replicate, Nat.mul_comm]
theorem d4rnew_c : Meets Tryz.prog [] 28 d4rnewS := by
  refine meets_of Γok Tryz.func28 rfl ?_
  intro args H Q h
  unfold d4rnewS at h
  split at h
  case h_2 => exact h.elim
  rename_i z c
  obtain ⟨hok, h⟩ := h
  have hok := of_decide_eq_true hok
  have cz : ((z.toNat : Nat) : Int) = z := by omega
  have cc : ((c.toNat : Nat) : Int) = c := by omega
  generalize hzn : z.toNat = zn at *
  generalize hcn : c.toNat = cn at *
  subst cz
  subst cc
  have hm : zn * cn ≤ 512 * 4096 := Nat.mul_le_mul (by omega) (by omega)
  have hw : IntKind.i64.wrap ((zn : Int) * (cn : Int)) = ((zn * cn : Nat) : Int) := by
    rw [← Int.natCast_mul, wrap_i64 (by omega) (by omega)]
  have hmk : ((zn * cn : Nat) : Int) = ((zn * cn : Nat) : Int) ∧ 0 ≤ ((zn * cn : Nat) : Int) ∧ 1 * ((zn * cn : Nat) : Int) ≤ 140737488355328 ∧ ((zn * cn : Nat) : Int) ≤ 140737488355328 := by omega
  have hcv : (zerosOf 1 ((zn * cn : Nat) : Int).toNat [CV.int .u8 0]).length = ((zn * cn : Nat) : Int).toNat ∧ ∀ x ∈ zerosOf 1 ((zn * cn : Nat) : Int).toNat [CV.int .u8 0], isU8 x = true := by
    refine ⟨List.length_replicate, fun x hx => ?_⟩
    rw [List.eq_of_mem_replicate hx]
    rfl
  (refine sx_sound Γok _ ?_; conv => whnf)
  (repeat (first | (exact Out.same; conv => whnf) | (exact Out1.same; conv => whnf) | (refine QAnd.mk ?_ ?_; conv => whnf) | (apply QStepH.go; conv => whnf) | (refine Both.lit_true ?_; conv => whnf) | (refine Both.lit_false ?_; conv => whnf) | (apply QStep.go; conv => whnf) | (refine Need.au ?_; conv => whnf) | (refine ⟨_, rfl, ?_⟩; conv => whnf)))
  rw [hw]
  (repeat (first | (refine Need.mk hmk ?_; conv => whnf) | (refine Need.mk hcv ?_; conv => whnf) | (exact Out.same; conv => whnf) | (exact Out1.same; conv => whnf) | (refine QAnd.mk ?_ ?_; conv => whnf) | (apply QStepH.go; conv => whnf) | (refine Both.lit_true ?_; conv => whnf) | (refine Both.lit_false ?_; conv => whnf) | (apply QStep.go; conv => whnf) | (refine Need.au ?_; conv => whnf) | (refine ⟨_, rfl, ?_⟩; conv => whnf)))
  refine ⟨_, _, WeakV.trans (WeakV.of (Weak.ownNil 1 3 135 2 rfl rfl)) (WeakV.auto ?_), h⟩
  have hfin : (zerosOf 1 ((zn * cn : Nat) : Int).toNat [CV.int .u8 0]).map cvByte = (Dsk.fresh zn cn).st.flatten := by
    show (List.replicate (zn * cn) (CV.int .u8 0)).map cvByte = (List.replicate cn (Z zn)).flatten
    rw [zeros_bytes, flat_rep]
  (repeat' ((conv => whnf); first | exact True.intro | (refine And.intro ?_ ?_)))
  all_goals first | rfl | exact .eq rfl | exact .eq (congrArg (fun x => [SV.int .i64 (zn : Int), .int .i64 (cn : Int), .str x, .own 1, .int .i64 0]) hfin)
theorem d4rnew_k : Contract Tryz.prog [] 28 d4rnewS := ⟨⟨⟨_, rfl, rfl, rfl⟩⟩, d4rnew_c⟩
end Go.LX
end
section
set_option maxRecDepth 100000
set_option maxHeartbeats 1000000
set_option autoImplicit false
set_option linter.unusedVariables false
set_option linter.unusedSimpArgs false
namespace Go.LX
open Go.Proofs

theorem cfold_ok' {D : Dsk} (ho : D.Ok) (L : List (Bool × Int)) (k : Nat) : ({ D with st := (cfold D L k).2 } : Dsk).Ok :=
  ⟨ho.sz, ho.sc, (cfold_ok ho L k).len, (cfold_ok ho L k).each, ho.buf, ho.few, ho.ar⟩
def rcrashS : Spec := fun args H Q => match args with
  | [.ptr 0 0, .sl 2 n cs f] => ∃ L : List (Bool × Int), n = L.length ∧ cs = L.flatMap crEn ∧ L.length ≤ 1000000 ∧ rIn H fun D => Q (.tuple []) (rA (D.cr L))
  | _ => False
theorem rcrash_c : Meets Tryz.prog [] 52 rcrashS := by
  refine meets_of Γok Tryz.func52 rfl ?_
  intro args H Q h
  unfold rcrashS at h
  split at h
  case h_2 => exact h.elim
  rename_i n cs f
  obtain ⟨L, rfl, rfl, hL, h⟩ := h
  obtain ⟨D, rfl, ho, h⟩ := rIn_out h
  have hfew := ho.few
  (refine sx_sound Γok _ ?_; conv => whnf)
  (repeat (first | (exact Out.same; conv => whnf) | (exact Out1.same; conv => whnf) | (refine QAnd.mk ?_ ?_; conv => whnf) | (apply QStepH.go; conv => whnf) | (refine Both.lit_true ?_; conv => whnf) | (refine Both.lit_false ?_; conv => whnf) | (apply QStep.go; conv => whnf) | (refine Need.au ?_; conv => whnf) | (refine ⟨_, rfl, ?_⟩; conv => whnf)))
  refine loop_rule (fun k : Nat => ⟨[.ptr 0 0, .sl 2 L.length (L.flatMap crEn) f, .any, .any, .bool (cfold D L k).1, .int .i64 (k : Int), .any, .any, .any, .any, .any, .any, .any, .any, .any, .any, .any, .any, .any, .any, .any, .any, .any, .any, .any, .any, .any, .any, .any, .any, .any, .any, .any, .any, .any, .any, .any, .any, .any, .any, .any, .any, .any, .any, .any, .any, .any, .any, .any, .any, .any, .any, .any, .any, .any, .any, .any, .any, .any, .any, .any, .any, .any, .any, .any, .any, .any, .any, .any, .any, .any, .any, .any, .any, .any, .any, .any, .any, .any, .any, .any, .any], rB { D with st := (cfold D L k).2 }⟩) (fun k => k ≤ min L.length D.buf.length) (fun k => min L.length D.buf.length - k) 0 (by omega) (Weak.auto ?_) ?_
  · (repeat' ((conv => whnf); first | exact True.intro | (refine And.intro ?_ ?_)))
    all_goals first | rfl | exact .eq rfl
  intro k hk
  have hreg := cfold_ok ho L k
  have hok := cfold_ok' ho L k
  have fin : cfold D L k = (D.buf.zip L).foldl (cstep D.sz) (false, D.st) → Q (.tuple []) (rA { D with st := (cfold D L k).2, buf := [], ar := 0 }) := fun he => by rw [he]; exact h
  have hend : ¬ (k < D.buf.length ∧ k < L.length) → cfold D L k = (D.buf.zip L).foldl (cstep D.sz) (false, D.st) := fun hn => by
    rw [cfold, List.take_of_length_le (by rw [List.length_zip]; omega)]
  (refine sx_sound Γok _ ?_; conv => whnf)
  (repeat (first | (exact Out.same; conv => whnf) | (exact Out1.same; conv => whnf) | (refine QAnd.mk ?_ ?_; conv => whnf) | (apply QStepH.go; conv => whnf) | (refine Both.lit_true ?_; conv => whnf) | (refine Both.lit_false ?_; conv => whnf) | (apply QStep.go; conv => whnf) | (refine Need.au ?_; conv => whnf) | (refine ⟨_, rfl, ?_⟩; conv => whnf)))
  refine Both.dec (fun hlt => ?_) (fun hge => ?_)
  rotate_left
  · have hge : ¬ (k : Int) < ((D.buf.length : Nat) : Int) := hge
    have fin := fin (hend (by omega))
    (conv => whnf)
    (repeat (first | (exact Out.same; conv => whnf) | (exact Out1.same; conv => whnf) | (refine QAnd.mk ?_ ?_; conv => whnf) | (apply QStepH.go; conv => whnf) | (refine Both.lit_true ?_; conv => whnf) | (refine Both.lit_false ?_; conv => whnf) | (apply QStep.go; conv => whnf) | (refine Need.au ?_; conv => whnf) | (refine ⟨_, rfl, ?_⟩; conv => whnf) | (refine Both.of_false ?_ ?_; (focus (first | rfl | (simp <;> fail))); conv => whnf) | (refine Both.of_true ?_ ?_; (focus (first | rfl | (simp <;> fail))); conv => whnf)))
    refine ⟨_, _, WeakV.trans (WeakV.of (Weak.ownNil 0 3 135 2 rfl rfl)) (WeakV.auto ?_), fin⟩
    (repeat' ((conv => whnf); first | exact True.intro | (refine And.intro ?_ ?_)))
    all_goals first | rfl | exact .eq rfl
  have hlt : (k : Int) < ((D.buf.length : Nat) : Int) := hlt
  (conv => whnf)
  (repeat (first | (exact Out.same; conv => whnf) | (exact Out1.same; conv => whnf) | (refine QAnd.mk ?_ ?_; conv => whnf) | (apply QStepH.go; conv => whnf) | (refine Both.lit_true ?_; conv => whnf) | (refine Both.lit_false ?_; conv => whnf) | (apply QStep.go; conv => whnf) | (refine Need.au ?_; conv => whnf) | (refine ⟨_, rfl, ?_⟩; conv => whnf)))
  refine Both.dec (fun hlt2 => ?_) (fun hge => ?_)
  rotate_left
  · have fin := fin (hend (by omega))
    (conv => whnf)
    (repeat (first | (exact Out.same; conv => whnf) | (exact Out1.same; conv => whnf) | (refine QAnd.mk ?_ ?_; conv => whnf) | (apply QStepH.go; conv => whnf) | (refine Both.lit_true ?_; conv => whnf) | (refine Both.lit_false ?_; conv => whnf) | (apply QStep.go; conv => whnf) | (refine Need.au ?_; conv => whnf) | (refine ⟨_, rfl, ?_⟩; conv => whnf) | (refine Both.of_false ?_ ?_; (focus (first | rfl | (simp <;> fail))); conv => whnf) | (refine Both.of_true ?_ ?_; (focus (first | rfl | (simp <;> fail))); conv => whnf)))
    refine ⟨_, _, WeakV.trans (WeakV.of (Weak.ownNil 0 3 135 2 rfl rfl)) (WeakV.auto ?_), fin⟩
    (repeat' ((conv => whnf); first | exact True.intro | (refine And.intro ?_ ?_)))
    all_goals first | rfl | exact .eq rfl
  clear fin hend
  have hk1 : k < D.buf.length := by omega
  have hk2 : k < L.length := by omega
  have hr0 : (D.buf.flatMap wrEn)[((k : Int)).toNat * 2 + 0]? = some (.int .i64 D.buf[k].1) := rows_cell (en := wrEn) (z := 2) (fun _ => rfl) D.buf k 0 hk1 (by omega)
  have hr1 : (D.buf.flatMap wrEn)[((k : Int)).toNat * 2 + 1]? = some (.str D.buf[k].2) := rows_cell (en := wrEn) (z := 2) (fun _ => rfl) D.buf k 1 hk1 (by omega)
  have hc : ((L.flatMap crEn).drop (((k : Int)).toNat * 2)).take 2 = [CV.bool L[k].1, .int .i64 L[k].2] := rows_at (en := crEn) (z := 2) (fun _ => rfl) L k hk2
  have hcs := cfold_succ D L hk1 hk2
  have hb := buf_at ho hk1
  revert hr0 hr1 hc hcs hb hreg hok
  generalize D.buf[k] = w
  generalize L[k] = c
  generalize cfold D L k = x
  obtain ⟨wn, ws⟩ := w
  obtain ⟨la, tn⟩ := c
  obtain ⟨tb, s0⟩ := x
  intro hreg hok hr0 hr1 hc hcs hb
  dsimp only at hr0 hr1 hc hb
  have hxl := hreg.at hb.1 hb.2.1
  have hwl := hb.2.2
  dsimp only at hxl hreg hok
  have hsz := ho.sz
  have hwr : IntKind.i64.wrap ((k : Int) + 1) = ((k + 1 : Nat) : Int) := by rw [wrap_i64 (by omega) (by omega)]; rfl
  have hsw : IntKind.i64.wrap ((D.sz : Int) - 1) = (D.sz : Int) - 1 := wrap_i64 (by omega) (by omega)
  have plain : ¬ (0 < tn ∧ tn < D.sz ∧ tb = false) → la = true → cfold D L (k + 1) = (tb, s0.set wn.toNat (ws ++ (s0.getD wn.toNat []).drop ws.length)) := fun hn hl => by
    rw [hcs, cstep, if_pos hl, if_neg hn]
    rw [List.drop_of_length_le (by omega), List.append_nil]
  (conv => whnf)
  (repeat (first | (refine ⟨_, hr0, ?_⟩; conv => whnf) | (refine ⟨_, hr1, ?_⟩; conv => whnf) | (refine ⟨_, hc, ?_⟩; conv => whnf) | (exact Out.same; conv => whnf) | (exact Out1.same; conv => whnf) | (refine QAnd.mk ?_ ?_; conv => whnf) | (apply QStepH.go; conv => whnf) | (refine Both.lit_true ?_; conv => whnf) | (refine Both.lit_false ?_; conv => whnf) | (apply QStep.go; conv => whnf) | (refine Need.au ?_; conv => whnf) | (refine ⟨_, rfl, ?_⟩; conv => whnf)))
  have fin : ∀ (tb' : Bool) (s' : Bs), cfold D L (k + 1) = (tb', s0.set wn.toNat (s' ++ (s0.getD wn.toNat []).drop s'.length)) →
      [SV.int .i64 (D.sz : Int), .int .i64 (D.sc : Int), .str (s0.set wn.toNat (s' ++ (s0.getD wn.toNat []).drop s'.length)).flatten, .own 1, .int .i64 (D.ar : Int)] = [SV.int .i64 (D.sz : Int), .int .i64 (D.sc : Int), .str (cfold D L (k + 1)).2.flatten, .own 1, .int .i64 (D.ar : Int)] ∧ SV.bool tb' = SV.bool (cfold D L (k + 1)).1 := by
    intro tb' s' e
    rw [e]
    exact ⟨rfl, rfl⟩
  cases la
  · have g3 : cfold D L (k + 1) = (tb, s0) := by rw [hcs]; rfl
    (repeat (first | (exact Out.same; conv => whnf) | (exact Out1.same; conv => whnf) | (refine QAnd.mk ?_ ?_; conv => whnf) | (apply QStepH.go; conv => whnf) | (refine Both.lit_true ?_; conv => whnf) | (refine Both.lit_false ?_; conv => whnf) | (apply QStep.go; conv => whnf) | (refine Need.au ?_; conv => whnf) | (refine ⟨_, rfl, ?_⟩; conv => whnf) | (refine Both.of_false ?_ ?_; (focus (first | rfl | (simp <;> fail))); conv => whnf) | (refine Both.of_true ?_ ?_; (focus (first | rfl | (simp <;> fail))); conv => whnf)))
    refine ⟨k + 1, by omega, by omega, Weak.auto ?_⟩
    (repeat' ((conv => whnf); first | exact True.intro | (refine And.intro ?_ ?_)))
    all_goals first | rfl | exact .eq rfl | exact congrArg (SV.int .i64) hwr | exact congrArg (fun x : Bool × List Bs => SV.bool x.1) g3.symm | exact .eq (congrArg (fun x : Bool × List Bs => [SV.int .i64 (D.sz : Int), .int .i64 (D.sc : Int), .str x.2.flatten, .own 1, .int .i64 (D.ar : Int)]) g3.symm)
  have hput : 0 ≤ wn ∧ wn < D.sc ∧ ws.length ≤ D.sz := ⟨hb.1, hb.2.1, Nat.le_of_eq hwl⟩
  (repeat (first | (exact Out.same; conv => whnf) | (exact Out1.same; conv => whnf) | (refine QAnd.mk ?_ ?_; conv => whnf) | (apply QStepH.go; conv => whnf) | (refine Both.lit_true ?_; conv => whnf) | (refine Both.lit_false ?_; conv => whnf) | (apply QStep.go; conv => whnf) | (refine Need.au ?_; conv => whnf) | (refine ⟨_, rfl, ?_⟩; conv => whnf) | (refine Both.of_false ?_ ?_; (focus (first | rfl | (simp <;> fail))); conv => whnf) | (refine Both.of_true ?_ ?_; (focus (first | rfl | (simp <;> fail))); conv => whnf)))
  cases tb
  · rcases Decidable.em (1 ≤ tn) with h1 | h1
    · rcases Decidable.em (tn ≤ (D.sz : Int) - 1) with h2 | h2
      · have hlen : (List.drop (Int.toNat 0) (ws.take tn.toNat)).length = tn.toNat := by
          show (ws.take tn.toNat).length = _
          rw [List.length_take]
          omega
        have g3 : cfold D L (k + 1) = (true, s0.set wn.toNat (List.drop (Int.toNat 0) (ws.take tn.toNat) ++ (s0.getD wn.toNat []).drop (List.drop (Int.toNat 0) (ws.take tn.toNat)).length)) := by
          rw [hlen, hcs, cstep, if_pos rfl, if_pos ⟨show 0 < tn by omega, show tn < (D.sz : Int) by omega, rfl⟩]
          rfl
        obtain ⟨g4, g5⟩ := fin _ _ g3
        have hput2 : 0 ≤ wn ∧ wn < D.sc ∧ (List.drop (Int.toNat 0) (ws.take tn.toNat)).length ≤ D.sz := ⟨hb.1, hb.2.1, by omega⟩
        (refine DrawVC.all Γok (by kernel_rfl) (by kernel_rfl) ?_; conv => whnf)
        (repeat (first | (exact ⟨congrArg (SV.int .i64) hsw, rfl⟩; conv => whnf) | (refine ⟨_, hc, ?_⟩; conv => whnf) | (exact Out.same; conv => whnf) | (exact Out1.same; conv => whnf) | (refine QAnd.mk ?_ ?_; conv => whnf) | (apply QStepH.go; conv => whnf) | (refine Both.lit_true ?_; conv => whnf) | (refine Both.lit_false ?_; conv => whnf) | (apply QStep.go; conv => whnf) | (refine Need.au ?_; conv => whnf) | (refine ⟨_, rfl, ?_⟩; conv => whnf) | (refine Both.of_false ?_ ?_; (focus (first | rfl | (simp [h1, h2] <;> fail))); conv => whnf) | (refine Both.of_true ?_ ?_; (focus (first | rfl | (simp [h1, h2] <;> fail))); conv => whnf)))
        (repeat (first | (refine ⟨_, hc, ?_⟩; conv => whnf) | (refine ⟨_, hr0, ?_⟩; conv => whnf) | (refine CallVC.auto d4rput_k ⟨_, rfl, rfl, rfl, rfl, rfl, rfl, hok, hput2, ?_⟩; conv => whnf) | (exact Out.same; conv => whnf) | (exact Out1.same; conv => whnf) | (refine QAnd.mk ?_ ?_; conv => whnf) | (apply QStepH.go; conv => whnf) | (refine Both.lit_true ?_; conv => whnf) | (refine Both.lit_false ?_; conv => whnf) | (apply QStep.go; conv => whnf) | (refine Need.au ?_; conv => whnf) | (refine ⟨_, rfl, ?_⟩; conv => whnf)))
        refine ⟨k + 1, by omega, by omega, Weak.auto ?_⟩
        (repeat' ((conv => whnf); first | exact True.intro | (refine And.intro ?_ ?_)))
        all_goals first | rfl | exact .eq rfl | exact congrArg (SV.int .i64) hwr | exact .eq g4 | exact g5
      · obtain ⟨g4, g5⟩ := fin _ _ (plain (fun h0 => h2 (by omega)) rfl)
        (refine DrawVC.all Γok (by kernel_rfl) (by kernel_rfl) ?_; conv => whnf)
        (repeat (first | (exact ⟨congrArg (SV.int .i64) hsw, rfl⟩; conv => whnf) | (refine ⟨_, hc, ?_⟩; conv => whnf) | (exact Out.same; conv => whnf) | (exact Out1.same; conv => whnf) | (refine QAnd.mk ?_ ?_; conv => whnf) | (apply QStepH.go; conv => whnf) | (refine Both.lit_true ?_; conv => whnf) | (refine Both.lit_false ?_; conv => whnf) | (apply QStep.go; conv => whnf) | (refine Need.au ?_; conv => whnf) | (refine ⟨_, rfl, ?_⟩; conv => whnf) | (refine Both.of_false ?_ ?_; (focus (first | rfl | (simp [h1, h2] <;> fail))); conv => whnf) | (refine Both.of_true ?_ ?_; (focus (first | rfl | (simp [h1, h2] <;> fail))); conv => whnf)))
        (repeat (first | (refine ⟨_, hr0, ?_⟩; conv => whnf) | (refine CallVC.auto d4rput_k ⟨_, rfl, rfl, rfl, rfl, rfl, rfl, hok, hput, ?_⟩; conv => whnf) | (exact Out.same; conv => whnf) | (exact Out1.same; conv => whnf) | (refine QAnd.mk ?_ ?_; conv => whnf) | (apply QStepH.go; conv => whnf) | (refine Both.lit_true ?_; conv => whnf) | (refine Both.lit_false ?_; conv => whnf) | (apply QStep.go; conv => whnf) | (refine Need.au ?_; conv => whnf) | (refine ⟨_, rfl, ?_⟩; conv => whnf)))
        refine ⟨k + 1, by omega, by omega, Weak.auto ?_⟩
        (repeat' ((conv => whnf); first | exact True.intro | (refine And.intro ?_ ?_)))
        all_goals first | rfl | exact .eq rfl | exact congrArg (SV.int .i64) hwr | exact .eq g4 | exact g5
    · obtain ⟨g4, g5⟩ := fin _ _ (plain (fun h0 => h1 (by omega)) rfl)
      (refine DrawVC.all Γok (by kernel_rfl) (by kernel_rfl) ?_; conv => whnf)
      (repeat (first | (exact ⟨congrArg (SV.int .i64) hsw, rfl⟩; conv => whnf) | (refine ⟨_, hc, ?_⟩; conv => whnf) | (exact Out.same; conv => whnf) | (exact Out1.same; conv => whnf) | (refine QAnd.mk ?_ ?_; conv => whnf) | (apply QStepH.go; conv => whnf) | (refine Both.lit_true ?_; conv => whnf) | (refine Both.lit_false ?_; conv => whnf) | (apply QStep.go; conv => whnf) | (refine Need.au ?_; conv => whnf) | (refine ⟨_, rfl, ?_⟩; conv => whnf) | (refine Both.of_false ?_ ?_; (focus (first | rfl | (simp [h1] <;> fail))); conv => whnf) | (refine Both.of_true ?_ ?_; (focus (first | rfl | (simp [h1] <;> fail))); conv => whnf)))
      (repeat (first | (refine ⟨_, hr0, ?_⟩; conv => whnf) | (refine CallVC.auto d4rput_k ⟨_, rfl, rfl, rfl, rfl, rfl, rfl, hok, hput, ?_⟩; conv => whnf) | (exact Out.same; conv => whnf) | (exact Out1.same; conv => whnf) | (refine QAnd.mk ?_ ?_; conv => whnf) | (apply QStepH.go; conv => whnf) | (refine Both.lit_true ?_; conv => whnf) | (refine Both.lit_false ?_; conv => whnf) | (apply QStep.go; conv => whnf) | (refine Need.au ?_; conv => whnf) | (refine ⟨_, rfl, ?_⟩; conv => whnf)))
      refine ⟨k + 1, by omega, by omega, Weak.auto ?_⟩
      (repeat' ((conv => whnf); first | exact True.intro | (refine And.intro ?_ ?_)))
      all_goals first | rfl | exact .eq rfl | exact congrArg (SV.int .i64) hwr | exact .eq g4 | exact g5
  · obtain ⟨g4, g5⟩ := fin _ _ (plain (fun h0 => by cases h0.2.2) rfl)
    (refine DrawVC.all Γok (by kernel_rfl) (by kernel_rfl) ?_; conv => whnf)
    (repeat (first | (exact ⟨congrArg (SV.int .i64) hsw, rfl⟩; conv => whnf) | (refine ⟨_, hc, ?_⟩; conv => whnf) | (exact Out.same; conv => whnf) | (exact Out1.same; conv => whnf) | (refine QAnd.mk ?_ ?_; conv => whnf) | (apply QStepH.go; conv => whnf) | (refine Both.lit_true ?_; conv => whnf) | (refine Both.lit_false ?_; conv => whnf) | (apply QStep.go; conv => whnf) | (refine Need.au ?_; conv => whnf) | (refine ⟨_, rfl, ?_⟩; conv => whnf) | (refine Both.of_false ?_ ?_; (focus (first | rfl | (simp <;> fail))); conv => whnf) | (refine Both.of_true ?_ ?_; (focus (first | rfl | (simp <;> fail))); conv => whnf)))
    (repeat (first | (refine ⟨_, hr0, ?_⟩; conv => whnf) | (refine CallVC.auto d4rput_k ⟨_, rfl, rfl, rfl, rfl, rfl, rfl, hok, hput, ?_⟩; conv => whnf) | (exact Out.same; conv => whnf) | (exact Out1.same; conv => whnf) | (refine QAnd.mk ?_ ?_; conv => whnf) | (apply QStepH.go; conv => whnf) | (refine Both.lit_true ?_; conv => whnf) | (refine Both.lit_false ?_; conv => whnf) | (apply QStep.go; conv => whnf) | (refine Need.au ?_; conv => whnf) | (refine ⟨_, rfl, ?_⟩; conv => whnf)))
    refine ⟨k + 1, by omega, by omega, Weak.auto ?_⟩
    (repeat' ((conv => whnf); first | exact True.intro | (refine And.intro ?_ ?_)))
    all_goals first | rfl | exact .eq rfl | exact congrArg (SV.int .i64) hwr | exact .eq g4 | exact g5
theorem rcrash_k : Contract Tryz.prog [] 52 rcrashS := ⟨⟨⟨_, rfl, rfl, rfl⟩⟩, rcrash_c⟩
end Go.LX
end
section
set_option maxRecDepth 100000
set_option maxHeartbeats 2000000
set_option autoImplicit false
set_option linter.unusedVariables false
set_option linter.unusedSimpArgs false
namespace Go.LX
open Go.Proofs

theorem rIn_mk {D : Dsk} {k : Dsk → Prop} (h : D.Ok) (hk : k D) : rIn (rB D) k := ⟨D, rfl, rfl, rfl, rfl, rfl, rfl, h, hk⟩
def rsegS : Spec := fun args H Q => match args with
  | [.ptr 0 0] => rIn H fun D => 2 ≤ D.sc ∧ Q (.int .i64 ((segV D : Nat) : Int)) (rB D)
  | _ => False
theorem rseg_c : Meets Tryz.prog [] 25 rsegS := by
  refine meets_of Γok Tryz.func25 rfl ?_
  intro args H Q h
  unfold rsegS at h
  split at h
  case h_2 => exact h.elim
  obtain ⟨D, rfl, ho, h2, h⟩ := rIn_out h
  have hv := segV_eq ho h2
  rw [← hv] at h
  (refine sx_sound Γok _ ?_; conv => whnf)
  (repeat (first | (exact Out.same; conv => whnf) | (exact Out1.same; conv => whnf) | (refine QAnd.mk ?_ ?_; conv => whnf) | (apply QStepH.go; conv => whnf) | (refine Both.lit_true ?_; conv => whnf) | (refine Both.lit_false ?_; conv => whnf) | (apply QStep.go; conv => whnf) | (refine Need.au ?_; conv => whnf) | (refine ⟨_, rfl, ?_⟩; conv => whnf)))
  refine ⟨_, _, WeakV.auto ?_, h⟩
  (repeat' ((conv => whnf); first | exact True.intro | (refine And.intro ?_ ?_)))
  all_goals first | rfl | exact .eq rfl
theorem rseg_k : Contract Tryz.prog [] 25 rsegS := ⟨⟨⟨_, rfl, rfl, rfl⟩⟩, rseg_c⟩
def rbaseS : Spec := fun args H Q => match args with
  | [.ptr 0 0, .agg [.int .u64 g, .int .i64 sg]] => rIn H fun D => 2 ≤ D.sc ∧ Q (.int .i64 (baseV D sg)) (rB D)
  | _ => False
theorem rbase_c : Meets Tryz.prog [] 74 rbaseS := by
  refine meets_of Γok Tryz.func74 rfl ?_
  intro args H Q h
  unfold rbaseS at h
  split at h
  case h_2 => exact h.elim
  rename_i g sg
  obtain ⟨D, rfl, ho, h2, h⟩ := rIn_out h
  have hs := ho.sc
  have hv : segV D ≤ 2047 := by unfold segV; omega
  by_cases q : sg = 1
  · have c1 : decide (sg = 1) = true := decide_eq_true q
    have hw : IntKind.i64.wrap (2 + ((segV D : Nat) : Int)) = baseV D sg := by
      unfold baseV
      rw [if_pos q, wrap_i64 (by omega) (by omega)]
    rw [← hw] at h
    (refine sx_sound Γok _ ?_; conv => whnf)
    (repeat (first | (refine Both.of_true c1 ?_; conv => whnf) | (refine CallVC.auto rseg_k (rIn_mk ho ⟨h2, ?_⟩); conv => whnf) | (exact Out.same; conv => whnf) | (exact Out1.same; conv => whnf) | (refine QAnd.mk ?_ ?_; conv => whnf) | (apply QStepH.go; conv => whnf) | (refine Both.lit_true ?_; conv => whnf) | (refine Both.lit_false ?_; conv => whnf) | (apply QStep.go; conv => whnf) | (refine Need.au ?_; conv => whnf) | (refine ⟨_, rfl, ?_⟩; conv => whnf)))
    refine ⟨_, _, WeakV.auto ?_, h⟩
    (repeat' ((conv => whnf); first | exact True.intro | (refine And.intro ?_ ?_)))
    all_goals first | rfl | exact .eq rfl
  · have c1 : decide (sg = 1) = false := decide_eq_false q
    have hw : (2 : Int) = baseV D sg := by
      unfold baseV
      rw [if_neg q]
    rw [← hw] at h
    (refine sx_sound Γok _ ?_; conv => whnf)
    (repeat (first | (refine Both.of_false c1 ?_; conv => whnf) | (exact Out.same; conv => whnf) | (exact Out1.same; conv => whnf) | (refine QAnd.mk ?_ ?_; conv => whnf) | (apply QStepH.go; conv => whnf) | (refine Both.lit_true ?_; conv => whnf) | (refine Both.lit_false ?_; conv => whnf) | (apply QStep.go; conv => whnf) | (refine Need.au ?_; conv => whnf) | (refine ⟨_, rfl, ?_⟩; conv => whnf)))
    refine ⟨_, _, WeakV.auto ?_, h⟩
    (repeat' ((conv => whnf); first | exact True.intro | (refine And.intro ?_ ?_)))
    all_goals first | rfl | exact .eq rfl
theorem rbase_k : Contract Tryz.prog [] 74 rbaseS := ⟨⟨⟨_, rfl, rfl, rfl⟩⟩, rbase_c⟩
def r7putS : Spec := fun args H Q => match args with
  | [.ptr 0 0, .int .i64 n, .sl 1 m cs f] => rIn H fun D => ∃ l : List Bs, m = l.length ∧ cs = l.map CV.str ∧ 0 ≤ n ∧ n ≤ 1000000 ∧ l.length ≤ 1000000 ∧ D.buf.length + l.length < 1000000 ∧ ∀ e D', (e, D') = putV D n l → Q (.int .i64 e) (rA D')
  | _ => False
theorem r7put_c : Meets Tryz.prog [] 73 r7putS := by
  refine meets_of Γok Tryz.func73 rfl ?_
  intro args H Q h
  unfold r7putS at h
  split at h
  case h_2 => exact h.elim
  rename_i n m cs f
  obtain ⟨D0, rfl, ho0, l, rfl, rfl, hn0, hn1, hl, hb0, h⟩ := rIn_out h
  (refine sx_sound Γok _ ?_; conv => whnf)
  (repeat (first | (exact Out.same; conv => whnf) | (exact Out1.same; conv => whnf) | (refine QAnd.mk ?_ ?_; conv => whnf) | (apply QStepH.go; conv => whnf) | (refine Both.lit_true ?_; conv => whnf) | (refine Both.lit_false ?_; conv => whnf) | (apply QStep.go; conv => whnf) | (refine Need.au ?_; conv => whnf) | (refine ⟨_, rfl, ?_⟩; conv => whnf)))
  refine loop_rule (fun x : Nat × Dsk => match x with | (k, D) => ⟨[.ptr 0 0, .int .i64 n, .sl 1 l.length (l.map CV.str) f, .any, .any, .any, .any, .int .i64 (k : Int), .any, .any, .any, .any, .any, .any, .any, .any, .any, .any, .any, .any, .any, .any, .any, .any, .any, .any, .any, .any, .any], rA D⟩) (fun x => match x with | (k, D) => k ≤ l.length ∧ D.Ok ∧ D.buf.length ≤ D0.buf.length + k ∧ putV D0 n l = putV D (n + k) (l.drop k)) (fun x => match x with | (k, D) => l.length - k) (0, D0) ⟨Nat.zero_le _, ho0, Nat.le_refl _, by rw [List.drop_zero]; simp⟩ ((Weak.fresh 1 0 3 rfl rfl rfl).trans (Weak.auto ?_)) ?_
  · (repeat' ((conv => whnf); first | exact True.intro | (refine And.intro ?_ ?_)))
    all_goals first | rfl | exact .eq rfl
  rintro ⟨k, D⟩ ⟨hk, ho, hb, hp⟩
  (refine sx_sound Γok _ ?_; conv => whnf)
  (repeat (first | (exact Out.same; conv => whnf) | (exact Out1.same; conv => whnf) | (refine QAnd.mk ?_ ?_; conv => whnf) | (apply QStepH.go; conv => whnf) | (refine Both.lit_true ?_; conv => whnf) | (refine Both.lit_false ?_; conv => whnf) | (apply QStep.go; conv => whnf) | (refine Need.au ?_; conv => whnf) | (refine ⟨_, rfl, ?_⟩; conv => whnf)))
  refine Both.dec (fun hlt => ?_) (fun hge => ?_)
  · have hkl : k < l.length := by omega
    have hat := strW_at l hkl
    have hdc := drop_cons hkl
    have hwn : IntKind.i64.wrap (n + (k : Int)) = n + (k : Int) := wrap_i64 (by omega) (by omega)
    have hwr : IntKind.i64.wrap ((k : Int) + 1) = ((k + 1 : Nat) : Int) := by rw [wrap_i64 (by omega) (by omega)]; rfl
    generalize l.getD k [] = t at hat hdc
    rw [hdc, putV] at hp
    have hwo := ho.wr (n := n + (k : Int)) (s := t) (by omega)
    have hwb := wr_buf D (n + (k : Int)) t
    (conv => whnf)
    (repeat (first | (refine ⟨_, hat, ?_⟩; conv => whnf) | (exact Out.same; conv => whnf) | (exact Out1.same; conv => whnf) | (refine QAnd.mk ?_ ?_; conv => whnf) | (apply QStepH.go; conv => whnf) | (refine Both.lit_true ?_; conv => whnf) | (refine Both.lit_false ?_; conv => whnf) | (apply QStep.go; conv => whnf) | (refine Need.au ?_; conv => whnf) | (refine ⟨_, rfl, ?_⟩; conv => whnf)))
    refine CallVC.auto rwrite_k (rIn_mk ho ⟨by omega, fun e D' he => ?_⟩)
    rw [hwn] at he
    rw [← he] at hwo hwb hp
    (conv => whnf)
    (repeat (first | (exact Out.same; conv => whnf) | (exact Out1.same; conv => whnf) | (refine QAnd.mk ?_ ?_; conv => whnf) | (apply QStepH.go; conv => whnf) | (refine Both.lit_true ?_; conv => whnf) | (refine Both.lit_false ?_; conv => whnf) | (apply QStep.go; conv => whnf) | (refine Need.au ?_; conv => whnf) | (refine ⟨_, rfl, ?_⟩; conv => whnf)))
    refine Both.dec_not (fun hne => ?_) (fun heq => ?_)
    · rw [if_neg hne] at hp
      (conv => whnf)
      (repeat (first | (exact Out.same; conv => whnf) | (exact Out1.same; conv => whnf) | (refine QAnd.mk ?_ ?_; conv => whnf) | (apply QStepH.go; conv => whnf) | (refine Both.lit_true ?_; conv => whnf) | (refine Both.lit_false ?_; conv => whnf) | (apply QStep.go; conv => whnf) | (refine Need.au ?_; conv => whnf) | (refine ⟨_, rfl, ?_⟩; conv => whnf)))
      refine ⟨_, _, WeakV.auto ?_, h e D' hp.symm⟩
      (repeat' ((conv => whnf); first | exact True.intro | (refine And.intro ?_ ?_)))
      all_goals first | rfl | exact .eq rfl
    · rw [if_pos heq] at hp
      (conv => whnf)
      (repeat (first | (exact Out.same; conv => whnf) | (exact Out1.same; conv => whnf) | (refine QAnd.mk ?_ ?_; conv => whnf) | (apply QStepH.go; conv => whnf) | (refine Both.lit_true ?_; conv => whnf) | (refine Both.lit_false ?_; conv => whnf) | (apply QStep.go; conv => whnf) | (refine Need.au ?_; conv => whnf) | (refine ⟨_, rfl, ?_⟩; conv => whnf)))
      refine ⟨(k + 1, D'), ⟨hkl, hwo, by show D'.buf.length ≤ D0.buf.length + (k + 1); have : D'.buf.length ≤ D.buf.length + 1 := hwb; omega, by rw [hp]; congr 1; omega⟩, by show l.length - (k + 1) < l.length - k; omega, Weak.auto ?_⟩
      (repeat' ((conv => whnf); first | exact True.intro | (refine And.intro ?_ ?_)))
      all_goals first | rfl | exact .eq rfl | exact congrArg (SV.int .i64) hwr
  · have hke : k = l.length := by omega
    subst hke
    rw [List.drop_length, putV] at hp
    (conv => whnf)
    (repeat (first | (exact Out.same; conv => whnf) | (exact Out1.same; conv => whnf) | (refine QAnd.mk ?_ ?_; conv => whnf) | (apply QStepH.go; conv => whnf) | (refine Both.lit_true ?_; conv => whnf) | (refine Both.lit_false ?_; conv => whnf) | (apply QStep.go; conv => whnf) | (refine Need.au ?_; conv => whnf) | (refine ⟨_, rfl, ?_⟩; conv => whnf)))
    refine CallVC.auto rflush_k (rIn_mk ho fun e D' he => ?_)
    (conv => whnf)
    (repeat (first | (exact Out.same; conv => whnf) | (exact Out1.same; conv => whnf) | (refine QAnd.mk ?_ ?_; conv => whnf) | (apply QStepH.go; conv => whnf) | (refine Both.lit_true ?_; conv => whnf) | (refine Both.lit_false ?_; conv => whnf) | (apply QStep.go; conv => whnf) | (refine Need.au ?_; conv => whnf) | (refine ⟨_, rfl, ?_⟩; conv => whnf)))
    refine ⟨_, _, WeakV.auto ?_, h e D' (by rw [hp]; exact he)⟩
    (repeat' ((conv => whnf); first | exact True.intro | (refine And.intro ?_ ?_)))
    all_goals first | rfl | exact .eq rfl
theorem r7put_k : Contract Tryz.prog [] 73 r7putS := ⟨⟨⟨_, rfl, rfl, rfl⟩⟩, r7put_c⟩
end Go.LX
end
section
set_option maxRecDepth 100000
set_option maxHeartbeats 1000000
set_option autoImplicit false
set_option linter.unusedVariables false
set_option linter.unusedSimpArgs false
namespace Go.LX
open Go.Proofs

theorem npar_most {r n : Nat} (hr : 0 < r) (hn : 0 < n) : n ≤ npar r 4096 ↔ (n - 1) * r < 4096 := by
  constructor
  · intro h
    rcases Nat.lt_or_ge 1 n with h1 | h1
    · have h2 := npar_lo (k := n - 2) (n := 4096) hr (by omega)
      rw [show n - 2 + 1 = n - 1 by omega] at h2
      exact h2
    · rw [show n - 1 = 0 by omega, Nat.zero_mul]
      omega
  · intro h
    rcases Nat.lt_or_ge (npar r 4096) n with h1 | h1
    · exfalso
      have h2 := npar_up (n := 4096) hr
      have h3 : npar r 4096 * r ≤ (n - 1) * r := Nat.mul_le_mul_right _ (by omega)
      omega
    · exact h1
def formR (r k n m : Nat) : Prop := ¬ ((k < n - 1 ∧ m ≠ r) ∨ (0 < k ∧ m = 0)) ∧ (if k = n - 1 then (n - 1) * r + m else (n - 1) * r + 1) ≤ 4096
def formP (r k n m : Nat) : Prop := ¬ ((k + 1 ≠ n ∧ m ≠ r) ∨ (k + 1 = n ∧ 1 < n ∧ m = 0)) ∧ k * r + m ≤ 4096 ∧ n ≤ npar r 4096
theorem form_iff {r k n m : Nat} (hr : 0 < r) (hr2 : r ≤ 4096) (hk : k < n) (hm : m ≤ r) : formP r k n m ↔ formR r k n m := by
  unfold formP formR
  rw [npar_most hr (by omega)]
  by_cases hl : k = n - 1
  · subst hl
    rw [if_pos rfl]
    constructor
    · rintro ⟨h1, h2, h3⟩
      exact ⟨by omega, h2⟩
    · rintro ⟨h1, h2⟩
      refine ⟨by omega, h2, ?_⟩
      rcases Nat.lt_or_ge 1 n with q | q
      · omega
      · rw [show n - 1 = 0 by omega, Nat.zero_mul]
        omega
  · rw [if_neg hl]
    have h5 : k * r + r ≤ (n - 1) * r := by
      have := Nat.mul_le_mul_right r (show k + 1 ≤ n - 1 by omega)
      rw [Nat.add_mul] at this
      omega
    constructor
    · rintro ⟨h1, h2, h3⟩
      exact ⟨by omega, by omega⟩
    · rintro ⟨h1, h2⟩
      exact ⟨by omega, by omega, by omega⟩
end Go.LX
end
section
set_option maxRecDepth 100000
set_option maxHeartbeats 1000000
set_option autoImplicit false
set_option linter.unusedVariables false
set_option linter.unusedSimpArgs false
namespace Go.LX
open Go.Proofs

theorem bev_inj : ∀ (x y : List UInt8), x.length = y.length → bev x = bev y → x = y
  | [], [], _, _ => rfl
  | a :: x, b :: y, hl, h => by
    have hl : x.length = y.length := by simpa using hl
    rw [bev_cons, bev_cons, hl] at h
    have hx := bev_lt x
    have hy := bev_lt y
    rw [hl] at hx
    have hp : 0 < 256 ^ y.length := Nat.pow_pos (by omega)
    generalize 256 ^ y.length = p at *
    have h1 : a.toNat = b.toNat := by
      have e1 : (a.toNat * p + bev x) / p = a.toNat := by rw [Nat.mul_comm, Nat.mul_add_div hp, Nat.div_eq_of_lt hx, Nat.add_zero]
      have e2 : (b.toNat * p + bev y) / p = b.toNat := by rw [Nat.mul_comm, Nat.mul_add_div hp, Nat.div_eq_of_lt hy, Nat.add_zero]
      rw [← e1, ← e2, h]
    rw [h1] at h
    rw [UInt8.toNat_inj.1 h1, bev_inj x y hl (by omega)]
theorem beb_bev {l : List UInt8} {k : Nat} (h : l.length = k) : beb (bev l) k = l := by
  subst h
  exact bev_inj _ _ (beb_length _ _) (bev_beb _ _ (bev_lt l))
theorem cut_at (T : Bz) (i j k : Nat) (h : i + j = k) : T.drop i = (T.drop i).take j ++ T.drop k := by
  subst h
  rw [← List.drop_drop, List.take_append_drop]
theorem raw_cut {T : Bz} {m : Nat} (hm : m = bev ((T.drop 19).take 2)) (hl : 21 + m ≤ T.length) :
    T = T.take 1 ++ beb (bev ((T.drop 1).take 8)) 8 ++ beb (bev ((T.drop 9).take 8)) 8 ++ beb (bev ((T.drop 17).take 1)) 1 ++ beb (bev ((T.drop 18).take 1)) 1 ++ (beb m 2 ++ (T.drop 21).take m) ++ T.drop (21 + m) := by
  have hlen : ∀ i j, i + j ≤ 21 → ((T.drop i).take j).length = j := fun i j h => by rw [List.length_take, List.length_drop]; omega
  have h2 : beb m 2 = (T.drop 19).take 2 := by rw [hm]; exact beb_bev (hlen 19 2 (by omega))
  rw [beb_bev (hlen 1 8 (by omega)), beb_bev (hlen 9 8 (by omega)), beb_bev (hlen 17 1 (by omega)), beb_bev (hlen 18 1 (by omega)), h2]
  have e : T = T.take 1 ++ T.drop 1 := (List.take_append_drop 1 T).symm
  have c1 := cut_at T 1 8 9 rfl
  have c2 := cut_at T 9 8 17 rfl
  have c3 := cut_at T 17 1 18 rfl
  have c4 := cut_at T 18 1 19 rfl
  have c5 := cut_at T 19 2 21 rfl
  have c6 := cut_at T 21 m (21 + m) rfl
  obtain ⟨X, hX⟩ : ∃ X, T.take 1 ++ (T.drop 1).take 8 ++ (T.drop 9).take 8 ++ (T.drop 17).take 1 ++ (T.drop 18).take 1 ++ ((T.drop 19).take 2 ++ (T.drop 21).take m) ++ T.drop (21 + m) = X := ⟨_, rfl⟩
  rw [hX]
  have : T.take 1 ++ T.drop 1 = X := by
    rw [← hX]
    simp only [List.append_assoc]
    rw [← c6, ← c5, ← c4, ← c3, ← c2, ← c1]
  exact e.trans this
theorem raw_iff {T : Bz} {size m : Nat} (hm : m = bev ((T.drop 19).take 2)) (hT : T.length = size - 4) (hl : m + 25 ≤ size) :
    T = rawX size (bev ((T.drop 1).take 8)) (bev ((T.drop 9).take 8)) (bev ((T.drop 17).take 1)) (bev ((T.drop 18).take 1)) ((T.drop 21).take m) ↔ T.take 1 = [82] ∧ T.drop (21 + m) = List.replicate (size - 25 - m) 0 := by
  have hcut := raw_cut hm (by omega)
  have hbl : ((T.drop 21).take m).length = m := by rw [List.length_take, List.length_drop]; omega
  unfold rawX
  rw [hbl]
  constructor
  · intro h
    have h2 : T.take 1 = [82] := by
      have := congrArg (List.take 1) h
      rw [this]
      simp
    refine ⟨h2, ?_⟩
    have := congrArg (List.drop (21 + m)) h
    rw [this]
    simp only [List.append_assoc]
    rw [show ([82] ++ (beb (bev ((T.drop 1).take 8)) 8 ++ (beb (bev ((T.drop 9).take 8)) 8 ++ (beb (bev ((T.drop 17).take 1)) 1 ++ (beb (bev ((T.drop 18).take 1)) 1 ++ (beb m 2 ++ ((T.drop 21).take m ++ List.replicate (size - 25 - m) 0)))))) : Bz) = ([82] ++ beb (bev ((T.drop 1).take 8)) 8 ++ beb (bev ((T.drop 9).take 8)) 8 ++ beb (bev ((T.drop 17).take 1)) 1 ++ beb (bev ((T.drop 18).take 1)) 1 ++ (beb m 2 ++ (T.drop 21).take m)) ++ List.replicate (size - 25 - m) 0 by simp only [List.append_assoc]]
    refine List.drop_left' ?_
    simp only [List.length_append, beb_length, List.length_singleton, hbl]
    omega
  · rintro ⟨h1, h2⟩
    rw [h1, h2] at hcut
    exact hcut
end Go.LX
end
section
set_option maxRecDepth 100000
set_option maxHeartbeats 1000000
set_option autoImplicit false
set_option linter.unusedVariables false
set_option linter.unusedSimpArgs false
namespace Go.LX
open Go.Proofs

def trimL : List UInt8 → List UInt8
  | [] => []
  | b :: t => if b = 0 then trimL t else b :: t
def trimR (s : List UInt8) : List UInt8 := (trimL s.reverse).reverse
theorem trimR_zero (u : List UInt8) : trimR (u ++ [0]) = trimR u := by simp [trimR, trimL]
theorem trimR_some (u : List UInt8) {b : UInt8} (h : b ≠ 0) : trimR (u ++ [b]) = u ++ [b] := by simp [trimR, trimL, h]
theorem trimL_nil : ∀ (s : List UInt8), trimL s = [] ↔ s = List.replicate s.length 0
  | [] => by simp [trimL]
  | b :: t => by
    by_cases h : b = 0
    · have e : trimL (b :: t) = trimL t := by rw [trimL, if_pos h]
      rw [e, trimL_nil t, List.length_cons, List.replicate_succ, h]
      simp
    · have e : trimL (b :: t) = b :: t := by rw [trimL, if_neg h]
      rw [e, List.length_cons, List.replicate_succ]
      simp [h]
theorem trim_nil (s : List UInt8) : trimL (trimR s) = [] ↔ s = List.replicate s.length 0 := by
  have h1 := trimL_nil s.reverse
  constructor
  · intro h
    have hz := (trimL_nil _).1 h
    have : ∀ r : List UInt8, (∀ x ∈ trimL r, x = 0) → trimL r = [] := by
      intro r
      induction r with
      | nil => intro _; rfl
      | cons b t ih =>
        intro hx
        unfold trimL at hx ⊢
        split
        · rename_i hb
          rw [if_pos hb] at hx
          exact ih hx
        · rename_i hb
          rw [if_neg hb] at hx
          exact absurd (hx b (by simp)) hb
    have h2 := this s.reverse (fun x hx => by
      have : x ∈ trimR s := by unfold trimR; simpa using hx
      rw [hz] at this
      exact List.eq_of_mem_replicate this)
    have h3 := h1.1 h2
    have h4 := congrArg List.reverse h3
    simpa using h4
  · intro h
    have h2 : s.reverse = List.replicate s.reverse.length 0 := by
      have := congrArg List.reverse h
      simpa using this
    have h3 := h1.2 h2
    unfold trimR
    rw [h3]
    rfl
def trimLS : Spec := fun args H Q => match args, H with
  | [.str s, .int .u8 c], [] => c = 0 ∧ Q (.str (trimL s)) []
  | _, _ => False
theorem trimL_c : Meets Tryz.prog [] 125 trimLS := by
  refine meets_of Γok Tryz.func125 rfl ?_
  intro args H Q h
  unfold trimLS at h
  split at h
  case h_2 => exact h.elim
  rename_i s c
  obtain ⟨rfl, h⟩ := h
  (refine sx_sound Γok _ ?_; conv => whnf)
  refine loop_rule (fun t : List UInt8 => ⟨[.str t, .int .u8 0, .any, .any, .any, .any, .any, .any, .any, .any, .any, .any, .any, .any, .any, .any, .any], []⟩) (fun t => trimL t = trimL s ∧ t.length ≤ s.length) (fun t => t.length) s ⟨rfl, Nat.le_refl _⟩ (Weak.auto ?_) ?_
  · (repeat' ((conv => whnf); first | exact True.intro | (refine And.intro ?_ ?_)))
    all_goals first | rfl | exact .eq rfl
  rintro t ⟨ht, htl⟩
  cases t with
  | nil =>
    (refine sx_sound Γok _ ?_; conv => whnf)
    (repeat (first | (exact Out.same; conv => whnf) | (exact Out1.same; conv => whnf) | (refine QAnd.mk ?_ ?_; conv => whnf) | (apply QStepH.go; conv => whnf) | (refine Both.lit_true ?_; conv => whnf) | (refine Both.lit_false ?_; conv => whnf) | (apply QStep.go; conv => whnf) | (refine Need.au ?_; conv => whnf) | (refine ⟨_, rfl, ?_⟩; conv => whnf)))
    refine ⟨_, _, WeakV.drop rfl, ?_⟩
    rw [← ht] at h
    exact h
  | cons b t =>
    have hpos : decide ((0 : Int) < (((b :: t).length : Nat) : Int)) = true := decide_eq_true (by simp only [List.length_cons]; omega)
    have hix : (0 : Int) ≤ 0 ∧ (0 : Int) < (((b :: t).length : Nat) : Int) := by simp only [List.length_cons]; omega
    have hsl : (0 : Int) ≤ 1 ∧ (1 : Int) ≤ (((b :: t).length : Nat) : Int) := by simp only [List.length_cons]; omega
    (refine sx_sound Γok _ ?_; conv => whnf)
    (repeat (first | (refine Both.of_true hpos ?_; conv => whnf) | (refine Need.mk hix ?_; conv => whnf) | (exact Out.same; conv => whnf) | (exact Out1.same; conv => whnf) | (refine QAnd.mk ?_ ?_; conv => whnf) | (apply QStepH.go; conv => whnf) | (refine Both.lit_true ?_; conv => whnf) | (refine Both.lit_false ?_; conv => whnf) | (apply QStep.go; conv => whnf) | (refine Need.au ?_; conv => whnf) | (refine ⟨_, rfl, ?_⟩; conv => whnf)))
    refine Both.dec (fun hq => ?_) (fun hq => ?_)
    · have hb : b = 0 := UInt8.toNat_inj.1 (by have : ((b.toNat : Nat) : Int) = 0 := hq; exact Int.ofNat.inj this)
      subst hb
      (conv => whnf)
      (repeat (first | (refine Need.mk hsl ?_; conv => whnf) | (exact Out.same; conv => whnf) | (exact Out1.same; conv => whnf) | (refine QAnd.mk ?_ ?_; conv => whnf) | (apply QStepH.go; conv => whnf) | (refine Both.lit_true ?_; conv => whnf) | (refine Both.lit_false ?_; conv => whnf) | (apply QStep.go; conv => whnf) | (refine Need.au ?_; conv => whnf) | (refine ⟨_, rfl, ?_⟩; conv => whnf)))
      have htk : List.drop (Int.toNat 1) (List.take ((((0 : UInt8) :: t).length : Nat) : Int).toNat ((0 : UInt8) :: t)) = t := by
        rw [Int.toNat_natCast, List.take_length]
        rfl
      refine ⟨t, ⟨?_, by simp at htl; omega⟩, by simp, Weak.auto ?_⟩
      · rw [← ht]
        simp [trimL]
      · (repeat' ((conv => whnf); first | exact True.intro | (refine And.intro ?_ ?_)))
        all_goals first | rfl | exact .eq rfl | exact congrArg SV.str htk
    · have hb : b ≠ 0 := fun e => hq (by rw [e]; rfl)
      (conv => whnf)
      (repeat (first | (exact Out.same; conv => whnf) | (exact Out1.same; conv => whnf) | (refine QAnd.mk ?_ ?_; conv => whnf) | (apply QStepH.go; conv => whnf) | (refine Both.lit_true ?_; conv => whnf) | (refine Both.lit_false ?_; conv => whnf) | (apply QStep.go; conv => whnf) | (refine Need.au ?_; conv => whnf) | (refine ⟨_, rfl, ?_⟩; conv => whnf)))
      refine ⟨_, _, WeakV.drop rfl, ?_⟩
      rw [← ht] at h
      simp only [trimL, if_neg hb] at h
      exact h
theorem trimL_k : Contract Tryz.prog [] 125 trimLS := ⟨⟨⟨_, rfl, rfl, rfl⟩⟩, trimL_c⟩
def trimRS : Spec := fun args H Q => match args, H with
  | [.str s, .int .u8 c], [] => c = 0 ∧ s.length ≤ 1000000000 ∧ Q (.str (trimR s)) []
  | _, _ => False
theorem trimR_c : Meets Tryz.prog [] 126 trimRS := by
  refine meets_of Γok Tryz.func126 rfl ?_
  intro args H Q h
  unfold trimRS at h
  split at h
  case h_2 => exact h.elim
  rename_i s c
  obtain ⟨rfl, hsl0, h⟩ := h
  (refine sx_sound Γok _ ?_; conv => whnf)
  refine loop_rule (fun t : List UInt8 => ⟨[.str t, .int .u8 0, .any, .any, .any, .any, .any, .any, .any, .any, .any, .any, .any, .any, .any, .any, .any, .any, .any, .any, .any, .any, .any], []⟩) (fun t => trimR t = trimR s ∧ t.length ≤ s.length) (fun t => t.length) s ⟨rfl, Nat.le_refl _⟩ (Weak.auto ?_) ?_
  · (repeat' ((conv => whnf); first | exact True.intro | (refine And.intro ?_ ?_)))
    all_goals first | rfl | exact .eq rfl
  rintro t ⟨ht, htl⟩
  rcases List.eq_nil_or_concat t with rfl | ⟨u, b, rfl⟩
  · (refine sx_sound Γok _ ?_; conv => whnf)
    (repeat (first | (exact Out.same; conv => whnf) | (exact Out1.same; conv => whnf) | (refine QAnd.mk ?_ ?_; conv => whnf) | (apply QStepH.go; conv => whnf) | (refine Both.lit_true ?_; conv => whnf) | (refine Both.lit_false ?_; conv => whnf) | (apply QStep.go; conv => whnf) | (refine Need.au ?_; conv => whnf) | (refine ⟨_, rfl, ?_⟩; conv => whnf)))
    refine ⟨_, _, WeakV.drop rfl, ?_⟩
    rw [← ht] at h
    exact h
  · rw [List.concat_eq_append] at ht htl ⊢
    have hlen : (u ++ [b]).length = u.length + 1 := by simp
    have hpos : decide ((0 : Int) < (((u ++ [b]).length : Nat) : Int)) = true := decide_eq_true (by omega)
    have hw : IntKind.i64.wrap ((((u ++ [b]).length : Nat) : Int) - 1) = ((u.length : Nat) : Int) := by
      rw [hlen, wrap_i64 (by omega) (by omega)]
      omega
    have hix : (0 : Int) ≤ IntKind.i64.wrap ((((u ++ [b]).length : Nat) : Int) - 1) ∧ IntKind.i64.wrap ((((u ++ [b]).length : Nat) : Int) - 1) < (((u ++ [b]).length : Nat) : Int) := by rw [hw]; omega
    have hsl : (0 : Int) ≤ IntKind.i64.wrap ((((u ++ [b]).length : Nat) : Int) - 1) ∧ IntKind.i64.wrap ((((u ++ [b]).length : Nat) : Int) - 1) ≤ (((u ++ [b]).length : Nat) : Int) := by rw [hw]; omega
    have hgt : (u ++ [b]).getD (IntKind.i64.wrap ((((u ++ [b]).length : Nat) : Int) - 1)).toNat 0 = b := by
      rw [hw, Int.toNat_natCast]
      simp
    (refine sx_sound Γok _ ?_; conv => whnf)
    (repeat (first | (refine Both.of_true hpos ?_; conv => whnf) | (refine Need.mk hix ?_; conv => whnf) | (exact Out.same; conv => whnf) | (exact Out1.same; conv => whnf) | (refine QAnd.mk ?_ ?_; conv => whnf) | (apply QStepH.go; conv => whnf) | (refine Both.lit_true ?_; conv => whnf) | (refine Both.lit_false ?_; conv => whnf) | (apply QStep.go; conv => whnf) | (refine Need.au ?_; conv => whnf) | (refine ⟨_, rfl, ?_⟩; conv => whnf)))
    refine Both.dec (fun hq => ?_) (fun hq => ?_)
    · rw [hgt] at hq
      have hb : b = 0 := UInt8.toNat_inj.1 (by have : ((b.toNat : Nat) : Int) = 0 := hq; exact Int.ofNat.inj this)
      subst hb
      have htk : List.drop (Int.toNat 0) (List.take (IntKind.i64.wrap ((((u ++ [(0 : UInt8)]).length : Nat) : Int) - 1)).toNat (u ++ [0])) = u := by
        rw [hw, Int.toNat_natCast]
        simp
      (conv => whnf)
      (repeat (first | (refine Need.mk hsl ?_; conv => whnf) | (exact Out.same; conv => whnf) | (exact Out1.same; conv => whnf) | (refine QAnd.mk ?_ ?_; conv => whnf) | (apply QStepH.go; conv => whnf) | (refine Both.lit_true ?_; conv => whnf) | (refine Both.lit_false ?_; conv => whnf) | (apply QStep.go; conv => whnf) | (refine Need.au ?_; conv => whnf) | (refine ⟨_, rfl, ?_⟩; conv => whnf)))
      refine ⟨u, ⟨?_, by omega⟩, by simp, Weak.auto ?_⟩
      · rw [← ht, trimR_zero]
      · (repeat' ((conv => whnf); first | exact True.intro | (refine And.intro ?_ ?_)))
        all_goals first | rfl | exact .eq rfl | exact congrArg SV.str htk
    · rw [hgt] at hq
      have hb : b ≠ 0 := fun e => hq (by rw [e]; rfl)
      (conv => whnf)
      (repeat (first | (exact Out.same; conv => whnf) | (exact Out1.same; conv => whnf) | (refine QAnd.mk ?_ ?_; conv => whnf) | (apply QStepH.go; conv => whnf) | (refine Both.lit_true ?_; conv => whnf) | (refine Both.lit_false ?_; conv => whnf) | (apply QStep.go; conv => whnf) | (refine Need.au ?_; conv => whnf) | (refine ⟨_, rfl, ?_⟩; conv => whnf)))
      refine ⟨_, _, WeakV.drop rfl, ?_⟩
      rw [← ht, trimR_some u hb] at h
      exact h
theorem trimR_k : Contract Tryz.prog [] 126 trimRS := ⟨⟨⟨_, rfl, rfl, rfl⟩⟩, trimR_c⟩
def trimS : Spec := fun args H Q => match args, H with
  | [.str s, .str c], [] => c = [0] ∧ s.length ≤ 1000000000 ∧ Q (.str (trimL (trimR s))) []
  | _, _ => False
theorem trim_c : Meets Tryz.prog [] 117 trimS := by
  refine meets_of Γok Tryz.func117 rfl ?_
  intro args H Q h
  unfold trimS at h
  split at h
  case h_2 => exact h.elim
  rename_i s c
  obtain ⟨rfl, hl, h⟩ := h
  cases s with
  | nil =>
    (refine sx_sound Γok _ ?_; conv => whnf)
    (repeat (first | (exact Out.same; conv => whnf) | (exact Out1.same; conv => whnf) | (refine QAnd.mk ?_ ?_; conv => whnf) | (apply QStepH.go; conv => whnf) | (refine Both.lit_true ?_; conv => whnf) | (refine Both.lit_false ?_; conv => whnf) | (apply QStep.go; conv => whnf) | (refine Need.au ?_; conv => whnf) | (refine ⟨_, rfl, ?_⟩; conv => whnf)))
    exact ⟨_, _, WeakV.drop rfl, h⟩
  | cons b t =>
    have hne : decide ((b :: t : List UInt8) = []) = false := by simp
    (refine sx_sound Γok _ ?_; conv => whnf)
    (repeat (first | (refine Both.of_false hne ?_; conv => whnf) | (exact Out.same; conv => whnf) | (exact Out1.same; conv => whnf) | (refine QAnd.mk ?_ ?_; conv => whnf) | (apply QStepH.go; conv => whnf) | (refine Both.lit_true ?_; conv => whnf) | (refine Both.lit_false ?_; conv => whnf) | (apply QStep.go; conv => whnf) | (refine Need.au ?_; conv => whnf) | (refine ⟨_, rfl, ?_⟩; conv => whnf)))
    (refine DrawVC.any Γok (by kernel_rfl) (by kernel_rfl) (by kernel_rfl) (by rfl) ?_; conv => whnf)
    (repeat (first | (refine CallVC.auto trimR_k ⟨rfl, hl, ?_⟩; conv => whnf) | (refine CallVC.auto trimL_k ⟨rfl, ?_⟩; conv => whnf) | (exact Out.same; conv => whnf) | (exact Out1.same; conv => whnf) | (refine QAnd.mk ?_ ?_; conv => whnf) | (apply QStepH.go; conv => whnf) | (refine Both.lit_true ?_; conv => whnf) | (refine Both.lit_false ?_; conv => whnf) | (apply QStep.go; conv => whnf) | (refine Need.au ?_; conv => whnf) | (refine ⟨_, rfl, ?_⟩; conv => whnf)))
    exact ⟨_, _, WeakV.drop rfl, h⟩
theorem trim_k : Contract Tryz.prog [] 117 trimS := ⟨⟨⟨_, rfl, rfl, rfl⟩⟩, trim_c⟩
end Go.LX
end
section
set_option maxRecDepth 100000
set_option maxHeartbeats 1000000
set_option autoImplicit false
set_option linter.unusedVariables false
set_option linter.unusedSimpArgs false
namespace Go.LX
open Go.Proofs

structure PartX where
  g : Nat
  sr : Nat
  k : Nat
  n : Nat
  b : Bz
def partZ : PartX := ⟨0, 0, 0, 0, []⟩
def mX (s : Bz) : Nat := bev ((s.drop 19).take 2)
def partOf (s : Bz) : PartX := ⟨bev ((s.drop 1).take 8), bev ((s.drop 9).take 8), bev ((s.drop 17).take 1), bev ((s.drop 18).take 1), (s.drop 21).take (mX s)⟩
def goodX (size : Nat) (T : Bz) : Prop :=
  mX T + 25 ≤ size ∧ (partOf T).k < (partOf T).n ∧ formR (size - 25) (partOf T).k (partOf T).n (mX T) ∧ T.take 1 = [82] ∧ T.drop (21 + mX T) = List.replicate (size - 25 - mX T) 0
open Classical in
noncomputable def readX (z : Int) (s : Bz) : PartX × Int :=
  if rightN z = false then (partZ, 1) else if (s.length : Int) ≠ z then (partZ, 6) else if rightB s = false then (partZ, 8) else
    if goodX z.toNat (s.take (z.toNat - 4)) then (partOf (s.take (z.toNat - 4)), 0) else (partZ, 5)
theorem take_field (s : Bz) {i j n : Nat} (h : i + j ≤ n) : ((s.take n).drop i).take j = (s.drop i).take j := by
  rw [List.drop_take, List.take_take, Nat.min_eq_left (by omega)]
theorem mX_take (s : Bz) {n : Nat} (h : 21 ≤ n) : mX (s.take n) = mX s := by
  unfold mX
  rw [take_field s (by omega)]
theorem partOf_take (s : Bz) {n : Nat} (h : 21 + mX s ≤ n) : partOf (s.take n) = partOf s := by
  unfold partOf
  rw [mX_take s (by omega), take_field s (by omega), take_field s (by omega), take_field s (by omega), take_field s (by omega), take_field s h]
end Go.LX
end
section
set_option maxRecDepth 100000
set_option maxHeartbeats 1000000
set_option autoImplicit false
set_option linter.unusedVariables false
set_option linter.unusedSimpArgs false
namespace Go.LX
open Go.Proofs

def stepOk (z g sr : Nat) (s : Bz) (k n : Nat) (r : PartX × Int) : Prop :=
  (k + 1) * z ≤ s.length ∧ r.2 = 0 ∧ r.1.g = g ∧ r.1.sr = sr ∧ r.1.k = k ∧ (0 < k → r.1.n = n)
open Classical in
noncomputable def recX (z g sr : Nat) (s : Bz) : Nat → Nat → Nat → Bz → Bz × Nat
  | 0, _, _, _ => ([], 0)
  | f + 1, k, n, txt =>
    if stepOk z g sr s k n (readX (z : Int) (chunk z s k)) then
      if k + 1 = (readX (z : Int) (chunk z s k)).1.n then (txt ++ (readX (z : Int) (chunk z s k)).1.b, (readX (z : Int) (chunk z s k)).1.n)
      else recX z g sr s f (k + 1) (readX (z : Int) (chunk z s k)).1.n (txt ++ (readX (z : Int) (chunk z s k)).1.b)
    else ([], 0)
noncomputable def recA (z g sr : Nat) (s : Bz) : Bz × Nat := recX z g sr s (s.length + 1) 0 0 []
noncomputable def scanX (z g : Nat) (s : Bz) : Nat → Nat → List Bz → List Bz × Nat
  | 0, used, out => (out, used)
  | f + 1, used, out =>
    if (recA z g out.length (s.drop (used * z))).2 = 0 then (out, used)
    else scanX z g s f (used + (recA z g out.length (s.drop (used * z))).2) (out ++ [(recA z g out.length (s.drop (used * z))).1])
noncomputable def scanA (z g : Nat) (s : Bz) : List Bz × Nat := scanX z g s (s.length + 1) 0 []
theorem bev1_lt (s : Bz) (i : Nat) : bev ((s.drop i).take 1) < 256 := by
  have h := bev_lt ((s.drop i).take 1)
  have h2 : ((s.drop i).take 1).length ≤ 1 := by rw [List.length_take]; omega
  exact Nat.lt_of_lt_of_le h (Nat.le_trans (Nat.pow_le_pow_right (by omega) h2) (by decide))
theorem bev8_lt (s : Bz) (i : Nat) : bev ((s.drop i).take 8) < 18446744073709551616 := by
  have h := bev_lt ((s.drop i).take 8)
  have h2 : ((s.drop i).take 8).length ≤ 8 := by rw [List.length_take]; omega
  exact Nat.lt_of_lt_of_le h (Nat.le_trans (Nat.pow_le_pow_right (by omega) h2) (by decide))
theorem readX_facts {z : Int} {s : Bz} : (readX z s).1.g < 18446744073709551616 ∧ (readX z s).1.sr < 18446744073709551616 ∧ (readX z s).1.k < 256 ∧ (readX z s).1.n < 256 ∧ (readX z s).1.b.length ≤ 512 ∧
    ((readX z s).2 = 0 → (readX z s).1.k < (readX z s).1.n) ∧ ((readX z s).2 ≠ 0 → (readX z s).1 = partZ) := by
  by_cases h1 : rightN z = false
  · rw [show readX z s = (partZ, 1) from if_pos h1]
    exact ⟨by decide, by decide, by decide, by decide, by decide, fun h => absurd h (by decide), fun _ => rfl⟩
  by_cases h2 : (s.length : Int) ≠ z
  · rw [show readX z s = (partZ, 6) by unfold readX; rw [if_neg h1, if_pos h2]]
    exact ⟨by decide, by decide, by decide, by decide, by decide, fun h => absurd h (by decide), fun _ => rfl⟩
  by_cases h3 : rightB s = false
  · rw [show readX z s = (partZ, 8) by unfold readX; rw [if_neg h1, if_neg h2, if_pos h3]]
    exact ⟨by decide, by decide, by decide, by decide, by decide, fun h => absurd h (by decide), fun _ => rfl⟩
  by_cases h4 : goodX z.toNat (s.take (z.toNat - 4))
  · rw [show readX z s = (partOf (s.take (z.toNat - 4)), 0) by unfold readX; rw [if_neg h1, if_neg h2, if_neg h3, if_pos h4]]
    refine ⟨bev8_lt _ _, bev8_lt _ _, bev1_lt _ _, bev1_lt _ _, ?_, fun _ => h4.2.1, fun h => absurd rfl h⟩
    have h5 : 64 ≤ z ∧ z ≤ 512 := of_decide_eq_true (by simpa using h1 : rightN z = true)
    show (List.take _ _).length ≤ 512
    rw [List.length_take]
    have := h4.1
    omega
  · rw [show readX z s = (partZ, 5) by unfold readX; rw [if_neg h1, if_neg h2, if_neg h3, if_neg h4]]
    exact ⟨by decide, by decide, by decide, by decide, by decide, fun h => absurd h (by decide), fun _ => rfl⟩
theorem recX_room (z g sr : Nat) (s : Bz) : ∀ (f k n : Nat) (txt : Bz), (recX z g sr s f k n txt).2 ≠ 0 → (recX z g sr s f k n txt).2 * z ≤ s.length
  | 0, _, _, _, h => absurd rfl h
  | f + 1, k, n, txt, h => by
    unfold recX at h ⊢
    split at h
    · rename_i h1
      rw [if_pos h1]
      split at h
      · rename_i h2
        rw [if_pos h2]
        show (readX (z : Int) (chunk z s k)).1.n * z ≤ _
        rw [← h2]
        exact h1.1
      · rename_i h2
        rw [if_neg h2]
        exact recX_room z g sr s f _ _ _ h
    · exact absurd rfl h
theorem recA_room (z g sr : Nat) (s : Bz) (h : (recA z g sr s).2 ≠ 0) : (recA z g sr s).2 * z ≤ s.length := recX_room z g sr s _ _ _ _ h
theorem recX_yes {z g sr : Nat} {s : Bz} {f k n : Nat} {txt : Bz} (h : stepOk z g sr s k n (readX (z : Int) (chunk z s k))) :
    recX z g sr s (f + 1) k n txt = if k + 1 = (readX (z : Int) (chunk z s k)).1.n then (txt ++ (readX (z : Int) (chunk z s k)).1.b, (readX (z : Int) (chunk z s k)).1.n)
      else recX z g sr s f (k + 1) (readX (z : Int) (chunk z s k)).1.n (txt ++ (readX (z : Int) (chunk z s k)).1.b) := by
  rw [recX, if_pos h]
theorem recX_no {z g sr : Nat} {s : Bz} {f k n : Nat} {txt : Bz} (h : ¬ stepOk z g sr s k n (readX (z : Int) (chunk z s k))) : recX z g sr s f k n txt = ([], 0) := by
  cases f with
  | zero => rfl
  | succ f =>
    rw [recX, if_neg h]
theorem mX_two {s : Bz} (h : 21 ≤ s.length) : mX s = (s.getD 19 0).toNat * 256 + (s.getD 20 0).toNat := by
  unfold mX
  have e : (s.drop 19).take 2 = [s.getD 19 0, s.getD 20 0] := by
    apply List.ext_getElem
    · simp; omega
    · intro i h1 h2
      simp only [List.length_cons, List.length_nil] at h2
      rw [List.getElem_take, List.getElem_drop]
      rcases i with _ | _ | i
      · simp [List.getElem?_eq_getElem (show 19 < s.length by omega)]
      · simp [List.getElem?_eq_getElem (show 20 < s.length by omega)]
      · omega
  rw [e]
  show (0 * 256 + _) * 256 + _ = _
  omega
theorem bev_one {s : Bz} {i : Nat} (h : i < s.length) : bev ((s.drop i).take 1) = (s.getD i 0).toNat := by
  have e : (s.drop i).take 1 = [s.getD i 0] := by
    rw [List.drop_eq_getElem_cons h, List.getD_eq_getElem?_getD, List.getElem?_eq_getElem h]
    rfl
  rw [e]
  show 0 * 256 + _ = _
  omega
end Go.LX
end
section
set_option maxRecDepth 100000
set_option maxHeartbeats 1000000
set_option autoImplicit false
set_option linter.unusedVariables false
set_option linter.unusedSimpArgs false
namespace Go.LX
open Go.Proofs

theorem mid_of (A B C : Bz) {i j : Nat} (hA : A.length = i) (hB : B.length = j) : ((A ++ B ++ C).drop i).take j = B := by
  subst hA; subst hB
  rw [List.append_assoc, List.drop_left, List.take_left]
theorem rightB_sealed (s : Bz) : rightB (Crc.seal_ s) = true := by
  have h := Crc.right_seal s
  unfold rightB
  rw [decide_eq_true h.1, decide_eq_true h.2]
  rfl
theorem seal_take (s : Bz) {n : Nat} (h : s.length = n) : (Crc.seal_ s).take n = s := by
  subst h
  unfold Crc.seal_
  rw [List.take_left]
theorem raw_fields {size g sr k n : Nat} {b : Bz} (hg : g < 18446744073709551616) (hs : sr < 18446744073709551616) (hk : k < 256) (hn : n < 256) (hb : b.length < 65536) :
    mX (rawX size g sr k n b) = b.length ∧ partOf (rawX size g sr k n b) = ⟨g, sr, k, n, b⟩ ∧ (rawX size g sr k n b).take 1 = [82] ∧ (rawX size g sr k n b).drop (21 + b.length) = List.replicate (size - 25 - b.length) 0 := by
  obtain ⟨Z, hZ⟩ : ∃ Z : Bz, List.replicate (size - 25 - b.length) (0 : UInt8) = Z := ⟨_, rfl⟩
  have e0 : rawX size g sr k n b = [82] ++ beb g 8 ++ beb sr 8 ++ beb k 1 ++ beb n 1 ++ (beb b.length 2 ++ b) ++ Z := by rw [← hZ]; rfl
  have e1 : rawX size g sr k n b = [82] ++ beb g 8 ++ (beb sr 8 ++ beb k 1 ++ beb n 1 ++ (beb b.length 2 ++ b) ++ Z) := by rw [e0]; simp only [List.append_assoc]
  have e2 : rawX size g sr k n b = ([82] ++ beb g 8) ++ beb sr 8 ++ (beb k 1 ++ beb n 1 ++ (beb b.length 2 ++ b) ++ Z) := by rw [e0]; simp only [List.append_assoc]
  have e3 : rawX size g sr k n b = ([82] ++ beb g 8 ++ beb sr 8) ++ beb k 1 ++ (beb n 1 ++ (beb b.length 2 ++ b) ++ Z) := by rw [e0]; simp only [List.append_assoc]
  have e4 : rawX size g sr k n b = ([82] ++ beb g 8 ++ beb sr 8 ++ beb k 1) ++ beb n 1 ++ ((beb b.length 2 ++ b) ++ Z) := by rw [e0]; simp only [List.append_assoc]
  have e5 : rawX size g sr k n b = ([82] ++ beb g 8 ++ beb sr 8 ++ beb k 1 ++ beb n 1) ++ beb b.length 2 ++ (b ++ Z) := by rw [e0]; simp only [List.append_assoc]
  have e6 : rawX size g sr k n b = ([82] ++ beb g 8 ++ beb sr 8 ++ beb k 1 ++ beb n 1 ++ beb b.length 2) ++ b ++ Z := by rw [e0]; simp only [List.append_assoc]
  have f1 : ((rawX size g sr k n b).drop 1).take 8 = beb g 8 := by rw [e1]; exact mid_of _ _ _ rfl (beb_length _ _)
  have f2 : ((rawX size g sr k n b).drop 9).take 8 = beb sr 8 := by rw [e2]; exact mid_of _ _ _ (by simp only [List.length_append, beb_length, List.length_singleton]) (beb_length _ _)
  have f3 : ((rawX size g sr k n b).drop 17).take 1 = beb k 1 := by rw [e3]; exact mid_of _ _ _ (by simp only [List.length_append, beb_length, List.length_singleton]) (beb_length _ _)
  have f4 : ((rawX size g sr k n b).drop 18).take 1 = beb n 1 := by rw [e4]; exact mid_of _ _ _ (by simp only [List.length_append, beb_length, List.length_singleton]) (beb_length _ _)
  have f5 : ((rawX size g sr k n b).drop 19).take 2 = beb b.length 2 := by rw [e5]; exact mid_of _ _ _ (by simp only [List.length_append, beb_length, List.length_singleton]) (beb_length _ _)
  have f6 : ((rawX size g sr k n b).drop 21).take b.length = b := by rw [e6]; exact mid_of _ _ _ (by simp only [List.length_append, beb_length, List.length_singleton]) rfl
  have hm : mX (rawX size g sr k n b) = b.length := by unfold mX; rw [f5]; exact bev_beb 2 _ hb
  refine ⟨hm, ?_, ?_, ?_⟩
  · unfold partOf
    rw [hm, f1, f2, f3, f4, f6, bev_beb 8 g hg, bev_beb 8 sr hs, bev_beb 1 k hk, bev_beb 1 n hn]
  · rw [e1]
    simp
  · rw [e6, hZ]
    refine List.drop_left' ?_
    simp only [List.length_append, beb_length, List.length_singleton]
theorem readX_sec {z g sr k n : Nat} {b : Bz} (hz : 64 ≤ z ∧ z ≤ 512) (hg : g < 18446744073709551616) (hs : sr < 18446744073709551616) (hkn : k < n) (hn : n < 256) (hb : b.length + 25 ≤ z) (hf : formR (z - 25) k n b.length) :
    readX (z : Int) (secX z g sr k n b) = (⟨g, sr, k, n, b⟩, 0) := by
  have h1 : ¬ rightN (z : Int) = false := by
    have : rightN (z : Int) = true := decide_eq_true (by omega)
    rw [this]
    decide
  have h2 : ¬ ((secX z g sr k n b).length : Int) ≠ z := by rw [sec_len hb]; exact fun q => q rfl
  have h3 : ¬ rightB (secX z g sr k n b) = false := by rw [secX_raw, rightB_sealed]; decide
  have e : (secX z g sr k n b).take ((z : Int).toNat - 4) = rawX z g sr k n b := by
    rw [secX_raw, Int.toNat_natCast, seal_take _ (rawX_len hb g sr k n)]
  obtain ⟨m1, m2, m3, m4⟩ := raw_fields (size := z) hg hs (by omega : k < 256) hn (by omega : b.length < 65536)
  have h4 : goodX (z : Int).toNat (rawX z g sr k n b) := by
    unfold goodX
    rw [m1, m2, Int.toNat_natCast]
    exact ⟨hb, hkn, hf, m3, m4⟩
  unfold readX
  rw [if_neg h1, if_neg h2, if_neg h3, e, if_pos h4, m2]
theorem chunk_size {r k : Nat} {s : Bz} (hr : 0 < r) (h : k < npar r s.length) : (chunk r s k).length = if k + 1 = npar r s.length then s.length - k * r else r := by
  have hl := npar_last hr h
  unfold chunk
  rw [List.length_take, List.length_drop]
  split
  · rename_i h1
    have := hl.2 h1
    omega
  · rename_i h1
    have h2 : ¬ (s.length - k * r ≤ r) := fun q => h1 (hl.1 q)
    omega
theorem chunk_form {r k : Nat} {s : Bz} (hr : 0 < r) (hs : s.length ≤ 4096) (h : k < npar r s.length) : formR r k (npar r s.length) (chunk r s k).length := by
  have hup := npar_up (n := s.length) hr
  have hpos := npar_pos r s.length
  have hlow : ∀ j, j + 1 < npar r s.length → (j + 1) * r < s.length := fun j => npar_lo hr
  rw [chunk_size hr h]
  unfold formR
  by_cases hl : k + 1 = npar r s.length
  · rw [if_pos hl, if_pos (by omega)]
    have e : npar r s.length - 1 = k := by omega
    have hk : 0 < k → k * r < s.length := fun q => by
      have := hlow (k - 1) (by omega)
      rwa [show k - 1 + 1 = k by omega] at this
    rw [e]
    rcases Nat.eq_zero_or_pos k with h0 | h0
    · subst h0
      rw [Nat.zero_mul]
      omega
    · have := hk h0
      omega
  · rw [if_neg hl, if_neg (by omega)]
    have := hlow (npar r s.length - 2) (by omega)
    rw [show npar r s.length - 2 + 1 = npar r s.length - 1 by omega] at this
    omega
end Go.LX
end
section
set_option maxRecDepth 100000
set_option maxHeartbeats 1000000
set_option autoImplicit false
set_option linter.unusedVariables false
set_option linter.unusedSimpArgs false
namespace Go.LX
open Go.Proofs

theorem seal_of_right5 {s : Bz} {n : Nat} (hl : s.length = n + 4) (hr : rightB s = true) : Crc.seal_ (s.take n) = s := by
  unfold rightB at hr
  rw [Bool.and_eq_true] at hr
  have h := of_decide_eq_true hr.2
  rw [show s.length - 4 = n by omega] at h
  rw [Crc.seal_, h, List.take_append_drop]
theorem seal_inj5 {a b : Bz} (hl : a.length = b.length) (h : Crc.seal_ a = Crc.seal_ b) : a = b := by
  unfold Crc.seal_ at h
  exact (List.append_inj h hl).1
theorem good_sec {s : Bz} {L : Nat} (hz : 64 ≤ L ∧ L ≤ 512) (hl : s.length = L) (hr : rightB s = true) : goodX L (s.take (L - 4)) ↔
    mX s + 25 ≤ L ∧ (partOf s).k < (partOf s).n ∧ formR (L - 25) (partOf s).k (partOf s).n (mX s) ∧ secX L (partOf s).g (partOf s).sr (partOf s).k (partOf s).n (partOf s).b = s := by
  unfold goodX
  rw [mX_take s (by omega : 21 ≤ L - 4)]
  refine and_congr_right fun hm => ?_
  rw [partOf_take s (by omega : 21 + mX s ≤ L - 4)]
  refine and_congr_right fun _ => and_congr_right fun _ => ?_
  have hT : (s.take (L - 4)).length = L - 4 := by rw [List.length_take]; omega
  have hseal := seal_of_right5 (s := s) (n := L - 4) (by omega) hr
  have e := raw_iff (T := s.take (L - 4)) (size := L) (m := mX s) (mX_take s (by omega : 21 ≤ L - 4)).symm hT hm
  rw [← e, take_field s (by omega : 1 + 8 ≤ L - 4), take_field s (by omega : 9 + 8 ≤ L - 4), take_field s (by omega : 17 + 1 ≤ L - 4), take_field s (by omega : 18 + 1 ≤ L - 4), take_field s (by omega : 21 + mX s ≤ L - 4), secX_raw]
  constructor
  · intro h
    rw [show (partOf s).g = bev ((s.drop 1).take 8) from rfl, show (partOf s).sr = bev ((s.drop 9).take 8) from rfl, show (partOf s).k = bev ((s.drop 17).take 1) from rfl, show (partOf s).n = bev ((s.drop 18).take 1) from rfl, show (partOf s).b = (s.drop 21).take (mX s) from rfl, ← h, hseal]
  · intro h
    refine seal_inj5 ?_ (hseal.trans h.symm)
    rw [hT]
    have hb : ((partOf s).b).length + 25 ≤ L := by
      show (List.take _ _).length + 25 ≤ L
      rw [List.length_take]
      omega
    exact (rawX_len hb _ _ _ _).symm
def partSV (p : PartX) : SV := .agg [.int .u64 p.g, .int .u64 p.sr, .int .i64 p.k, .int .i64 p.n, .str p.b]
def rreadS : Spec := fun args H Q => match args, H with
  | [.int .i64 z, .str s], [] => s.length ≤ 20000 ∧ ∀ p : PartX, ∀ e : Int, readX z s = (p, e) → Q (.tuple [partSV p, .int .i64 e]) []
  | _, _ => False
theorem rread_c : Meets Tryz.prog [] 133 rreadS := by
  refine meets_of Γok Tryz.func133 rfl ?_
  intro args H Q h
  unfold rreadS at h
  split at h
  case h_2 => exact h.elim
  rename_i z s
  obtain ⟨hl, h⟩ := h
  by_cases hr : rightN z = false
  · have h := h partZ 1 (by unfold readX; rw [if_pos hr])
    have h1 : (!rightN z) = true := by rw [hr]; rfl
    (refine sx_sound Γok _ ?_; conv => whnf)
    (repeat (first | (refine Both.of_true h1 ?_; conv => whnf) | (exact Out.same; conv => whnf) | (exact Out1.same; conv => whnf) | (refine QAnd.mk ?_ ?_; conv => whnf) | (apply QStepH.go; conv => whnf) | (refine Both.lit_true ?_; conv => whnf) | (refine Both.lit_false ?_; conv => whnf) | (apply QStep.go; conv => whnf) | (refine Need.au ?_; conv => whnf) | (refine ⟨_, rfl, ?_⟩; conv => whnf) | (refine CallVC.auto fright2_k ?_; conv => whnf)))
    exact ⟨_, _, WeakV.drop rfl, h⟩
  have h1 : (!rightN z) = false := by rw [(by simpa using hr : rightN z = true)]; rfl
  by_cases hz : (s.length : Int) = z
  case neg =>
    have h := h partZ 6 (by unfold readX; rw [if_neg hr, if_pos hz])
    have h2 : (!decide ((s.length : Int) = z)) = true := by rw [decide_eq_false hz]; rfl
    (refine sx_sound Γok _ ?_; conv => whnf)
    (repeat (first | (refine Both.of_false h1 ?_; conv => whnf) | (refine Both.of_true h2 ?_; conv => whnf) | (exact Out.same; conv => whnf) | (exact Out1.same; conv => whnf) | (refine QAnd.mk ?_ ?_; conv => whnf) | (apply QStepH.go; conv => whnf) | (refine Both.lit_true ?_; conv => whnf) | (refine Both.lit_false ?_; conv => whnf) | (apply QStep.go; conv => whnf) | (refine Need.au ?_; conv => whnf) | (refine ⟨_, rfl, ?_⟩; conv => whnf) | (refine CallVC.auto fright2_k ?_; conv => whnf)))
    exact ⟨_, _, WeakV.drop rfl, h⟩
  have h2 : (!decide ((s.length : Int) = z)) = false := by rw [decide_eq_true hz]; rfl
  have hs6 : s.length < 1000000 := by omega
  by_cases hb : rightB s = false
  · have h := h partZ 8 (by unfold readX; rw [if_neg hr, if_neg (fun q => q hz), if_pos hb])
    have h3 : (!rightB s) = true := by rw [hb]; rfl
    (refine sx_sound Γok _ ?_; conv => whnf)
    (repeat (first | (refine Both.of_false h1 ?_; conv => whnf) | (refine Both.of_false h2 ?_; conv => whnf) | (refine CallVC.auto right2_k ⟨hs6, ?_⟩; conv => whnf) | (refine Both.of_true h3 ?_; conv => whnf) | (exact Out.same; conv => whnf) | (exact Out1.same; conv => whnf) | (refine QAnd.mk ?_ ?_; conv => whnf) | (apply QStepH.go; conv => whnf) | (refine Both.lit_true ?_; conv => whnf) | (refine Both.lit_false ?_; conv => whnf) | (apply QStep.go; conv => whnf) | (refine Need.au ?_; conv => whnf) | (refine ⟨_, rfl, ?_⟩; conv => whnf) | (refine CallVC.auto fright2_k ?_; conv => whnf)))
    exact ⟨_, _, WeakV.drop rfl, h⟩
  have h3 : (!rightB s) = false := by rw [(by simpa using hb : rightB s = true)]; rfl
  have hrz : 64 ≤ z ∧ z ≤ 512 := of_decide_eq_true (by simpa using hr : rightN z = true)
  subst hz
  (refine sx_sound Γok _ ?_; conv => whnf)
  (repeat (first | (refine Both.of_false h1 ?_; conv => whnf) | (refine Both.of_false h2 ?_; conv => whnf) | (refine CallVC.auto right2_k ⟨hs6, ?_⟩; conv => whnf) | (refine Both.of_false h3 ?_; conv => whnf) | (exact Out.same; conv => whnf) | (exact Out1.same; conv => whnf) | (refine QAnd.mk ?_ ?_; conv => whnf) | (apply QStepH.go; conv => whnf) | (refine Both.lit_true ?_; conv => whnf) | (refine Both.lit_false ?_; conv => whnf) | (apply QStep.go; conv => whnf) | (refine Need.au ?_; conv => whnf) | (refine ⟨_, rfl, ?_⟩; conv => whnf) | (refine CallVC.auto fright2_k ?_; conv => whnf)))
  have z1 : 64 ≤ s.length := by omega
  have n1 : (0 : Int) ≤ 1 ∧ (1 : Int) ≤ 9 ∧ (9 : Int) ≤ ((s.length : Nat) : Int) := by omega
  have n2 : (0 : Int) ≤ 9 ∧ (9 : Int) ≤ 17 ∧ (17 : Int) ≤ ((s.length : Nat) : Int) := by omega
  have n3 : (0 : Int) ≤ 17 ∧ (17 : Int) < ((s.length : Nat) : Int) := by omega
  have n4 : (0 : Int) ≤ 18 ∧ (18 : Int) < ((s.length : Nat) : Int) := by omega
  have l1 : (List.drop (Int.toNat 1) (List.take (Int.toNat 9) s)).length ≤ 8 := by rw [List.length_drop, List.length_take]; show min 9 _ - 1 ≤ 8; omega
  have l2 : (List.drop (Int.toNat 9) (List.take (Int.toNat 17) s)).length ≤ 8 := by rw [List.length_drop, List.length_take]; show min 17 _ - 9 ≤ 8; omega
  (refine DrawVC.quiet [2, 5] Γok (by kernel_rfl) (by kernel_rfl) (by kernel_rfl) (by rfl) ?_; conv => whnf)
  (repeat (first | (refine Need.mk n1 ?_; conv => whnf) | (refine Need.mk n2 ?_; conv => whnf) | (refine Need.mk n3 ?_; conv => whnf) | (refine Need.mk n4 ?_; conv => whnf) | (refine CallVC.auto val_k (Need.mk l1 ?_); conv => whnf) | (refine CallVC.auto val_k (Need.mk l2 ?_); conv => whnf) | (exact Out.same; conv => whnf) | (exact Out1.same; conv => whnf) | (refine QAnd.mk ?_ ?_; conv => whnf) | (apply QStepH.go; conv => whnf) | (refine Both.lit_true ?_; conv => whnf) | (refine Both.lit_false ?_; conv => whnf) | (apply QStep.go; conv => whnf) | (refine Need.au ?_; conv => whnf) | (refine ⟨_, rfl, ?_⟩; conv => whnf)))
  have n5 : (0 : Int) ≤ 19 ∧ (19 : Int) < ((s.length : Nat) : Int) := by omega
  have n6 : (0 : Int) ≤ 20 ∧ (20 : Int) < ((s.length : Nat) : Int) := by omega
  (refine DrawVC.any Γok (by kernel_rfl) (by kernel_rfl) (by kernel_rfl) (by rfl) ?_; conv => whnf)
  (repeat (first | (refine Need.mk n5 ?_; conv => whnf) | (refine Need.mk n6 ?_; conv => whnf) | (exact Out.same; conv => whnf) | (exact Out1.same; conv => whnf) | (refine QAnd.mk ?_ ?_; conv => whnf) | (apply QStepH.go; conv => whnf) | (refine Both.lit_true ?_; conv => whnf) | (refine Both.lit_false ?_; conv => whnf) | (apply QStep.go; conv => whnf) | (refine Need.au ?_; conv => whnf) | (refine ⟨_, rfl, ?_⟩; conv => whnf)))

  obtain ⟨r, hr0⟩ : ∃ r : Nat, s.length - 25 = r := ⟨_, rfl⟩
  have hgs := good_sec (s := s) ⟨by omega, by omega⟩ rfl (by simpa using hb : rightB s = true)
  obtain ⟨P, hP⟩ : ∃ P, partOf s = P := ⟨_, rfl⟩
  obtain ⟨M, hM⟩ : ∃ M, mX s = M := ⟨_, rfl⟩
  have hbad : ¬ goodX s.length (s.take (s.length - 4)) → Q (.tuple [partSV partZ, .int .i64 5]) [] := fun q => h partZ 5 (by
    unfold readX
    rw [if_neg hr, if_neg (fun q => q rfl), if_neg hb, Int.toNat_natCast, if_neg q])
  have hgood : goodX s.length (s.take (s.length - 4)) → Q (.tuple [partSV P, .int .i64 0]) [] := fun q => h P 0 (by
    unfold readX
    rw [if_neg hr, if_neg (fun q => q rfl), if_neg hb, Int.toNat_natCast, if_pos q, partOf_take s (by have := q.1; rw [mX_take s (by omega : 21 ≤ s.length - 4)] at this; omega), hP])
  clear h
  rw [hgs, hP, hM, hr0] at hbad hgood
  have hG : bev (List.drop (Int.toNat 1) (List.take (Int.toNat 9) s)) = P.g := by rw [← hP]; show bev (List.drop 1 (List.take 9 s)) = bev ((s.drop 1).take 8); rw [List.drop_take]
  have hS : bev (List.drop (Int.toNat 9) (List.take (Int.toNat 17) s)) = P.sr := by rw [← hP]; show bev (List.drop 9 (List.take 17 s)) = bev ((s.drop 9).take 8); rw [List.drop_take]
  have hK1 : (s.getD 17 0).toNat = P.k := by rw [← hP]; exact (bev_one (by omega)).symm
  have hN1 : (s.getD 18 0).toNat = P.n := by rw [← hP]; exact (bev_one (by omega)).symm
  have hM1 := mX_two (s := s) (by omega)
  have hKb : P.k < 256 := by rw [← hP]; exact bev1_lt _ _
  have hNb : P.n < 256 := by rw [← hP]; exact bev1_lt _ _
  have hGb : P.g < 18446744073709551616 := by rw [← hP]; exact bev8_lt _ _
  have hSb : P.sr < 18446744073709551616 := by rw [← hP]; exact bev8_lt _ _
  have hPb : P.b = (s.drop 21).take M := by rw [← hP, ← hM]; rfl
  rw [hM] at hM1
  have hu1 := (s.getD 19 0).toNat_lt
  have hu2 := (s.getD 20 0).toNat_lt
  have hRw : IntKind.i64.wrap (((s.length : Nat) : Int) - 25) = (r : Int) := by rw [wrap_i64 (by omega) (by omega)]; omega
  have hKw : IntKind.i64.wrap ((s.getD (Int.toNat 17) 0).toNat : Int) = (P.k : Int) := by
    show IntKind.i64.wrap ((s.getD 17 0).toNat : Int) = _
    rw [hK1, wrap_i64 (by omega) (by omega)]
  have hNw : IntKind.i64.wrap ((s.getD (Int.toNat 18) 0).toNat : Int) = (P.n : Int) := by
    show IntKind.i64.wrap ((s.getD 18 0).toNat : Int) = _
    rw [hN1, wrap_i64 (by omega) (by omega)]
  have hMw : IntKind.i64.wrap (IntKind.i64.wrap (IntKind.i64.wrap ((s.getD (Int.toNat 19) 0).toNat : Int) * 256) + IntKind.i64.wrap ((s.getD (Int.toNat 20) 0).toNat : Int)) = (M : Int) := by
    show IntKind.i64.wrap (IntKind.i64.wrap (IntKind.i64.wrap ((s.getD 19 0).toNat : Int) * 256) + IntKind.i64.wrap ((s.getD 20 0).toNat : Int)) = (M : Int)
    rw [wrap_i64 (n := ((s.getD 19 0).toNat : Int)) (by omega) (by omega), wrap_i64 (n := ((s.getD 19 0).toNat : Int) * 256) (by omega) (by omega), wrap_i64 (n := ((s.getD 20 0).toNat : Int)) (by omega) (by omega), wrap_i64 (by omega) (by omega)]
    omega
  simp only [hRw, hMw, hKw, hNw, hG, hS]
  refine Both.dec (fun h5 => ?_) (fun h5 => ?_)
  · have h := hbad (fun q => by have := q.1; omega)
    (conv => whnf)
    (repeat (first | (exact Out.same; conv => whnf) | (exact Out1.same; conv => whnf) | (refine QAnd.mk ?_ ?_; conv => whnf) | (apply QStepH.go; conv => whnf) | (refine Both.lit_true ?_; conv => whnf) | (refine Both.lit_false ?_; conv => whnf) | (apply QStep.go; conv => whnf) | (refine Need.au ?_; conv => whnf) | (refine ⟨_, rfl, ?_⟩; conv => whnf)))
    exact ⟨_, _, WeakV.drop rfl, h⟩
  (conv => whnf)
  (repeat (first | (exact Out.same; conv => whnf) | (exact Out1.same; conv => whnf) | (refine QAnd.mk ?_ ?_; conv => whnf) | (apply QStepH.go; conv => whnf) | (refine Both.lit_true ?_; conv => whnf) | (refine Both.lit_false ?_; conv => whnf) | (apply QStep.go; conv => whnf) | (refine Need.au ?_; conv => whnf) | (refine ⟨_, rfl, ?_⟩; conv => whnf)))
  refine Both.dec (fun h6 => ?_) (fun h6 => ?_)
  · have h := hbad (fun q => by have := q.2.1; omega)
    (conv => whnf)
    (repeat (first | (exact Out.same; conv => whnf) | (exact Out1.same; conv => whnf) | (refine QAnd.mk ?_ ?_; conv => whnf) | (apply QStepH.go; conv => whnf) | (refine Both.lit_true ?_; conv => whnf) | (refine Both.lit_false ?_; conv => whnf) | (apply QStep.go; conv => whnf) | (refine Need.au ?_; conv => whnf) | (refine ⟨_, rfl, ?_⟩; conv => whnf)))
    exact ⟨_, _, WeakV.drop rfl, h⟩
  have hMr : M ≤ r := by omega
  have hrr : r ≤ 487 := by omega
  have hw21 : IntKind.i64.wrap (21 + (M : Int)) = ((21 + M : Nat) : Int) := by rw [wrap_i64 (by omega) (by omega)]; omega
  have n7 : (0 : Int) ≤ 21 ∧ (21 : Int) ≤ IntKind.i64.wrap (21 + (M : Int)) ∧ IntKind.i64.wrap (21 + (M : Int)) ≤ ((s.length : Nat) : Int) := by rw [hw21]; omega
  have hBw : List.drop (Int.toNat 21) (List.take (IntKind.i64.wrap (21 + (M : Int))).toNat s) = P.b := by
    rw [hw21, Int.toNat_natCast, hPb]
    show List.drop 21 _ = _
    rw [List.drop_take, Nat.add_sub_cancel_left]
  have hnw : IntKind.i64.wrap ((P.n : Int) - 1) = ((P.n - 1 : Nat) : Int) := by rw [wrap_i64 (by omega) (by omega)]; omega
  obtain ⟨X, hX⟩ : ∃ X : Nat, (P.n - 1) * r = X := ⟨_, rfl⟩
  have hXb : X ≤ 255 * 487 := by rw [← hX]; exact Nat.mul_le_mul (by omega) hrr
  have hXw : IntKind.i64.wrap (((P.n - 1 : Nat) : Int) * (r : Int)) = (X : Int) := by rw [← Int.natCast_mul, hX, wrap_i64 (by omega) (by omega)]
  have hl1 : IntKind.i64.wrap ((X : Int) + 1) = ((X + 1 : Nat) : Int) := by rw [wrap_i64 (by omega) (by omega)]; omega
  have hl2 : IntKind.i64.wrap ((X : Int) + (M : Int)) = ((X + M : Nat) : Int) := by rw [wrap_i64 (by omega) (by omega)]; omega
  have hbl : P.b.length = M := by rw [hPb, List.length_take, List.length_drop]; omega
  have hbl2 : P.b.length + 25 ≤ s.length := by omega
  have hform : formR r P.k P.n M ↔ ¬ ((P.k < P.n - 1 ∧ M ≠ r) ∨ (0 < P.k ∧ M = 0)) ∧ (if P.k = P.n - 1 then X + M else X + 1) ≤ 4096 := by unfold formR; rw [hX]
  have hpos : M + 25 ≤ s.length ∧ P.k < P.n := by omega
  have hz512 : s.length ≤ 512 := by omega
  (conv => whnf)
  (repeat (first | (refine Need.mk n7 ?_; conv => whnf) | (exact Out.same; conv => whnf) | (exact Out1.same; conv => whnf) | (refine QAnd.mk ?_ ?_; conv => whnf) | (apply QStepH.go; conv => whnf) | (refine Both.lit_true ?_; conv => whnf) | (refine Both.lit_false ?_; conv => whnf) | (apply QStep.go; conv => whnf) | (refine Need.au ?_; conv => whnf) | (refine ⟨_, rfl, ?_⟩; conv => whnf)))
  simp only [hBw, hnw, hRw, hXw, hl1, hl2]
  refine Both.dec (fun h7 => ?_) (fun h7 => ?_)
  · have hk1 : ¬ P.k = P.n - 1 := by omega
    rw [if_neg hk1] at hform
    (conv => whnf)
    (repeat (first | (exact Out.same; conv => whnf) | (exact Out1.same; conv => whnf) | (refine QAnd.mk ?_ ?_; conv => whnf) | (apply QStepH.go; conv => whnf) | (refine Both.lit_true ?_; conv => whnf) | (refine Both.lit_false ?_; conv => whnf) | (apply QStep.go; conv => whnf) | (refine Need.au ?_; conv => whnf) | (refine ⟨_, rfl, ?_⟩; conv => whnf)))
    refine Both.dec_not (fun h8 => ?_) (fun h8 => ?_)
    · have h := hbad (fun q => by have := hform.1 q.2.2.1; omega)
      (conv => whnf)
      (repeat (first | (exact Out.same; conv => whnf) | (exact Out1.same; conv => whnf) | (refine QAnd.mk ?_ ?_; conv => whnf) | (apply QStepH.go; conv => whnf) | (refine Both.lit_true ?_; conv => whnf) | (refine Both.lit_false ?_; conv => whnf) | (apply QStep.go; conv => whnf) | (refine Need.au ?_; conv => whnf) | (refine ⟨_, rfl, ?_⟩; conv => whnf)))
      exact ⟨_, _, WeakV.drop rfl, h⟩
    have e10 : decide ((M : Int) = 0) = false := decide_eq_false (by omega)
    have e11 : decide ((P.k : Int) = IntKind.i64.wrap ((P.n : Int) - 1)) = false := by rw [hnw]; exact decide_eq_false (by omega)
    (conv => whnf)
    (repeat (first | (exact Out.same; conv => whnf) | (exact Out1.same; conv => whnf) | (refine QAnd.mk ?_ ?_; conv => whnf) | (apply QStepH.go; conv => whnf) | (refine Both.lit_true ?_; conv => whnf) | (refine Both.lit_false ?_; conv => whnf) | (apply QStep.go; conv => whnf) | (refine Need.au ?_; conv => whnf) | (refine ⟨_, rfl, ?_⟩; conv => whnf)))
    refine Both.dec (fun h9 => ?_) (fun h9 => ?_)
    all_goals
      (conv => whnf)
      (repeat (first | (refine Both.of_false e10 ?_; conv => whnf) | (refine Both.of_false e11 ?_; conv => whnf) | (exact Out.same; conv => whnf) | (exact Out1.same; conv => whnf) | (refine QAnd.mk ?_ ?_; conv => whnf) | (apply QStepH.go; conv => whnf) | (refine Both.lit_true ?_; conv => whnf) | (refine Both.lit_false ?_; conv => whnf) | (apply QStep.go; conv => whnf) | (refine Need.au ?_; conv => whnf) | (refine ⟨_, rfl, ?_⟩; conv => whnf)))
      simp only [hnw, hRw, hXw, hl1]
      refine Both.dec (fun h12 => ?_) (fun h12 => ?_)
      · have h := hbad (fun q => by have := (hform.1 q.2.2.1).2; omega)
        (conv => whnf)
        (repeat (first | (exact Out.same; conv => whnf) | (exact Out1.same; conv => whnf) | (refine QAnd.mk ?_ ?_; conv => whnf) | (apply QStepH.go; conv => whnf) | (refine Both.lit_true ?_; conv => whnf) | (refine Both.lit_false ?_; conv => whnf) | (apply QStep.go; conv => whnf) | (refine Need.au ?_; conv => whnf) | (refine ⟨_, rfl, ?_⟩; conv => whnf)))
        exact ⟨_, _, WeakV.drop rfl, h⟩
      (conv => whnf)
      (repeat (first | (refine CallVC.auto sec2_k ⟨s.length, P.g, P.sr, P.k, P.n, P.b, rfl, rfl, rfl, rfl, rfl, rfl, hz512, hGb, hSb, hKb, hNb, hbl2, ?_⟩; conv => whnf) | (exact Out.same; conv => whnf) | (exact Out1.same; conv => whnf) | (refine QAnd.mk ?_ ?_; conv => whnf) | (apply QStepH.go; conv => whnf) | (refine Both.lit_true ?_; conv => whnf) | (refine Both.lit_false ?_; conv => whnf) | (apply QStep.go; conv => whnf) | (refine Need.au ?_; conv => whnf) | (refine ⟨_, rfl, ?_⟩; conv => whnf)))
      refine Both.dec_not (fun h13 => ?_) (fun h13 => ?_)
      · have h := hbad (fun q => h13 q.2.2.2)
        (conv => whnf)
        (repeat (first | (exact Out.same; conv => whnf) | (exact Out1.same; conv => whnf) | (refine QAnd.mk ?_ ?_; conv => whnf) | (apply QStepH.go; conv => whnf) | (refine Both.lit_true ?_; conv => whnf) | (refine Both.lit_false ?_; conv => whnf) | (apply QStep.go; conv => whnf) | (refine Need.au ?_; conv => whnf) | (refine ⟨_, rfl, ?_⟩; conv => whnf)))
        exact ⟨_, _, WeakV.drop rfl, h⟩
      have h := hgood ⟨hpos.1, hpos.2, hform.2 ⟨by omega, by omega⟩, h13⟩
      (conv => whnf)
      (repeat (first | (exact Out.same; conv => whnf) | (exact Out1.same; conv => whnf) | (refine QAnd.mk ?_ ?_; conv => whnf) | (apply QStepH.go; conv => whnf) | (refine Both.lit_true ?_; conv => whnf) | (refine Both.lit_false ?_; conv => whnf) | (apply QStep.go; conv => whnf) | (refine Need.au ?_; conv => whnf) | (refine ⟨_, rfl, ?_⟩; conv => whnf)))
      exact ⟨_, _, WeakV.drop rfl, h⟩
  · have hk1 : P.k = P.n - 1 := by omega
    rw [if_pos hk1] at hform
    have e11 : decide ((P.k : Int) = IntKind.i64.wrap ((P.n : Int) - 1)) = true := by rw [hnw]; exact decide_eq_true (by omega)
    (conv => whnf)
    (repeat (first | (exact Out.same; conv => whnf) | (exact Out1.same; conv => whnf) | (refine QAnd.mk ?_ ?_; conv => whnf) | (apply QStepH.go; conv => whnf) | (refine Both.lit_true ?_; conv => whnf) | (refine Both.lit_false ?_; conv => whnf) | (apply QStep.go; conv => whnf) | (refine Need.au ?_; conv => whnf) | (refine ⟨_, rfl, ?_⟩; conv => whnf)))
    by_cases hm0 : 0 < P.k ∧ M = 0
    · have e9 : decide ((0 : Int) < (P.k : Int)) = true := decide_eq_true (by omega)
      have e10 : decide ((M : Int) = 0) = true := decide_eq_true (by omega)
      have h := hbad (fun q => by have := hform.1 q.2.2.1; omega)
      (repeat (first | (refine Both.of_true e9 ?_; conv => whnf) | (refine Both.of_true e10 ?_; conv => whnf) | (exact Out.same; conv => whnf) | (exact Out1.same; conv => whnf) | (refine QAnd.mk ?_ ?_; conv => whnf) | (apply QStepH.go; conv => whnf) | (refine Both.lit_true ?_; conv => whnf) | (refine Both.lit_false ?_; conv => whnf) | (apply QStep.go; conv => whnf) | (refine Need.au ?_; conv => whnf) | (refine ⟨_, rfl, ?_⟩; conv => whnf)))
      exact ⟨_, _, WeakV.drop rfl, h⟩
    refine Both.dec (fun h9 => ?_) (fun h9 => ?_)
    · have e10 : decide ((M : Int) = 0) = false := decide_eq_false (by omega)
      (conv => whnf)
      (repeat (first | (refine Both.of_false e10 ?_; conv => whnf) | (refine Both.of_true e11 ?_; conv => whnf) | (exact Out.same; conv => whnf) | (exact Out1.same; conv => whnf) | (refine QAnd.mk ?_ ?_; conv => whnf) | (apply QStepH.go; conv => whnf) | (refine Both.lit_true ?_; conv => whnf) | (refine Both.lit_false ?_; conv => whnf) | (apply QStep.go; conv => whnf) | (refine Need.au ?_; conv => whnf) | (refine ⟨_, rfl, ?_⟩; conv => whnf)))
      simp only [hnw, hRw, hXw, hl2]
      refine Both.dec (fun h12 => ?_) (fun h12 => ?_)
      · have h := hbad (fun q => by have := (hform.1 q.2.2.1).2; omega)
        (conv => whnf)
        (repeat (first | (exact Out.same; conv => whnf) | (exact Out1.same; conv => whnf) | (refine QAnd.mk ?_ ?_; conv => whnf) | (apply QStepH.go; conv => whnf) | (refine Both.lit_true ?_; conv => whnf) | (refine Both.lit_false ?_; conv => whnf) | (apply QStep.go; conv => whnf) | (refine Need.au ?_; conv => whnf) | (refine ⟨_, rfl, ?_⟩; conv => whnf)))
        exact ⟨_, _, WeakV.drop rfl, h⟩
      (conv => whnf)
      (repeat (first | (refine CallVC.auto sec2_k ⟨s.length, P.g, P.sr, P.k, P.n, P.b, rfl, rfl, rfl, rfl, rfl, rfl, hz512, hGb, hSb, hKb, hNb, hbl2, ?_⟩; conv => whnf) | (exact Out.same; conv => whnf) | (exact Out1.same; conv => whnf) | (refine QAnd.mk ?_ ?_; conv => whnf) | (apply QStepH.go; conv => whnf) | (refine Both.lit_true ?_; conv => whnf) | (refine Both.lit_false ?_; conv => whnf) | (apply QStep.go; conv => whnf) | (refine Need.au ?_; conv => whnf) | (refine ⟨_, rfl, ?_⟩; conv => whnf)))
      refine Both.dec_not (fun h13 => ?_) (fun h13 => ?_)
      · have h := hbad (fun q => h13 q.2.2.2)
        (conv => whnf)
        (repeat (first | (exact Out.same; conv => whnf) | (exact Out1.same; conv => whnf) | (refine QAnd.mk ?_ ?_; conv => whnf) | (apply QStepH.go; conv => whnf) | (refine Both.lit_true ?_; conv => whnf) | (refine Both.lit_false ?_; conv => whnf) | (apply QStep.go; conv => whnf) | (refine Need.au ?_; conv => whnf) | (refine ⟨_, rfl, ?_⟩; conv => whnf)))
        exact ⟨_, _, WeakV.drop rfl, h⟩
      have h := hgood ⟨hpos.1, hpos.2, hform.2 ⟨by omega, by omega⟩, h13⟩
      (conv => whnf)
      (repeat (first | (exact Out.same; conv => whnf) | (exact Out1.same; conv => whnf) | (refine QAnd.mk ?_ ?_; conv => whnf) | (apply QStepH.go; conv => whnf) | (refine Both.lit_true ?_; conv => whnf) | (refine Both.lit_false ?_; conv => whnf) | (apply QStep.go; conv => whnf) | (refine Need.au ?_; conv => whnf) | (refine ⟨_, rfl, ?_⟩; conv => whnf)))
      exact ⟨_, _, WeakV.drop rfl, h⟩
    · (conv => whnf)
      (repeat (first | (refine Both.of_true e11 ?_; conv => whnf) | (exact Out.same; conv => whnf) | (exact Out1.same; conv => whnf) | (refine QAnd.mk ?_ ?_; conv => whnf) | (apply QStepH.go; conv => whnf) | (refine Both.lit_true ?_; conv => whnf) | (refine Both.lit_false ?_; conv => whnf) | (apply QStep.go; conv => whnf) | (refine Need.au ?_; conv => whnf) | (refine ⟨_, rfl, ?_⟩; conv => whnf)))
      simp only [hnw, hRw, hXw, hl2]
      refine Both.dec (fun h12 => ?_) (fun h12 => ?_)
      · have h := hbad (fun q => by have := (hform.1 q.2.2.1).2; omega)
        (conv => whnf)
        (repeat (first | (exact Out.same; conv => whnf) | (exact Out1.same; conv => whnf) | (refine QAnd.mk ?_ ?_; conv => whnf) | (apply QStepH.go; conv => whnf) | (refine Both.lit_true ?_; conv => whnf) | (refine Both.lit_false ?_; conv => whnf) | (apply QStep.go; conv => whnf) | (refine Need.au ?_; conv => whnf) | (refine ⟨_, rfl, ?_⟩; conv => whnf)))
        exact ⟨_, _, WeakV.drop rfl, h⟩
      (conv => whnf)
      (repeat (first | (refine CallVC.auto sec2_k ⟨s.length, P.g, P.sr, P.k, P.n, P.b, rfl, rfl, rfl, rfl, rfl, rfl, hz512, hGb, hSb, hKb, hNb, hbl2, ?_⟩; conv => whnf) | (exact Out.same; conv => whnf) | (exact Out1.same; conv => whnf) | (refine QAnd.mk ?_ ?_; conv => whnf) | (apply QStepH.go; conv => whnf) | (refine Both.lit_true ?_; conv => whnf) | (refine Both.lit_false ?_; conv => whnf) | (apply QStep.go; conv => whnf) | (refine Need.au ?_; conv => whnf) | (refine ⟨_, rfl, ?_⟩; conv => whnf)))
      refine Both.dec_not (fun h13 => ?_) (fun h13 => ?_)
      · have h := hbad (fun q => h13 q.2.2.2)
        (conv => whnf)
        (repeat (first | (exact Out.same; conv => whnf) | (exact Out1.same; conv => whnf) | (refine QAnd.mk ?_ ?_; conv => whnf) | (apply QStepH.go; conv => whnf) | (refine Both.lit_true ?_; conv => whnf) | (refine Both.lit_false ?_; conv => whnf) | (apply QStep.go; conv => whnf) | (refine Need.au ?_; conv => whnf) | (refine ⟨_, rfl, ?_⟩; conv => whnf)))
        exact ⟨_, _, WeakV.drop rfl, h⟩
      have h := hgood ⟨hpos.1, hpos.2, hform.2 ⟨by omega, by omega⟩, h13⟩
      (conv => whnf)
      (repeat (first | (exact Out.same; conv => whnf) | (exact Out1.same; conv => whnf) | (refine QAnd.mk ?_ ?_; conv => whnf) | (apply QStepH.go; conv => whnf) | (refine Both.lit_true ?_; conv => whnf) | (refine Both.lit_false ?_; conv => whnf) | (apply QStep.go; conv => whnf) | (refine Need.au ?_; conv => whnf) | (refine ⟨_, rfl, ?_⟩; conv => whnf)))
      exact ⟨_, _, WeakV.drop rfl, h⟩
theorem rread_k : Contract Tryz.prog [] 133 rreadS := ⟨⟨⟨_, rfl, rfl, rfl⟩⟩, rread_c⟩
end Go.LX
end
section
set_option maxRecDepth 100000
set_option maxHeartbeats 1000000
set_option autoImplicit false
set_option linter.unusedVariables false
set_option linter.unusedSimpArgs false
namespace Go.LX
open Go.Proofs

theorem rd_yes {n : Nat} {s : List UInt8} (h : n ≤ s.length) : rdT 0 n s = s.take n ∧ rdE 0 n s = 0 ∧ rdS 0 n s = s.drop n := by
  have hok : rdOk 0 n s = true := decide_eq_true ⟨rfl, by omega, by omega⟩
  refine ⟨by simp [rdT, hok], ?_, by simp [rdS, hok]⟩
  unfold rdE
  rw [if_pos rfl, if_pos ⟨by omega, by omega⟩]
theorem rd_no {n : Nat} {s : List UInt8} (h : s.length < n) : rdT 0 n s = [] ∧ rdE 0 n s = 6 ∧ rdS 0 n s = s := by
  have hok : rdOk 0 n s = false := decide_eq_false (by omega)
  refine ⟨by simp [rdT, hok], ?_, by simp [rdS, hok]⟩
  unfold rdE
  rw [if_pos rfl, if_neg (by omega)]
theorem rd_err {e : Int} (he : e ≠ 0) (n : Int) (s : List UInt8) : rdT e n s = [] ∧ rdE e n s = e ∧ rdS e n s = s := by
  have hok : rdOk e n s = false := decide_eq_false (fun q => he q.1)
  refine ⟨by simp [rdT, hok], ?_, by simp [rdS, hok]⟩
  unfold rdE
  rw [if_neg he]
def rrawOS : Spec := fun args H Q => match args, H with
  | [.ptr 0 0, .int .i64 n], [.cells [.int .i64 e, .str s] 172] => e = 0 ∧ ∃ m : Nat, n = m ∧ m ≤ s.length ∧ s.length < 1000000 ∧ ∀ t u : List UInt8, t = s.take m → u = s.drop m → Q (.str t) (rd 0 u)
  | _, _ => False
theorem rrawO_k : Contract Tryz.prog [] 114 rrawOS := rraw_k.imp fun args H Q h => by
  unfold rrawOS at h
  split at h
  case h_2 => exact h.elim
  obtain ⟨rfl, m, rfl, hm, hs, h⟩ := h
  obtain ⟨h1, h2, h3⟩ := rd_yes hm
  refine ⟨hs, ?_⟩
  rw [h1, h2, h3]
  exact h _ _ rfl rfl
def rrawES : Spec := fun args H Q => match args, H with
  | [.ptr 0 0, .int .i64 n], [.cells [.int .i64 e, .str s] 172] => e ≠ 0 ∧ s.length < 1000000 ∧ Q (.str []) (rd e s)
  | _, _ => False
theorem rrawE_k : Contract Tryz.prog [] 114 rrawES := rraw_k.imp fun args H Q h => by
  unfold rrawES at h
  split at h
  case h_2 => exact h.elim
  obtain ⟨he, hs, h⟩ := h
  rename_i n e s
  obtain ⟨h1, h2, h3⟩ := rd_err he n s
  refine ⟨hs, ?_⟩
  rw [h1, h2, h3]
  exact h
def rnumOS : Spec := fun args H Q => match args, H with
  | [.ptr 0 0], [.cells [.int .i64 e, .str s] 172] => e = 0 ∧ 8 ≤ s.length ∧ s.length < 1000000 ∧ ∀ (g : Nat) (u : List UInt8), g = bev (s.take 8) → u = s.drop 8 → Q (.int .u64 (g : Int)) (rd 0 u)
  | _, _ => False
theorem rnumO_k : Contract Tryz.prog [] 95 rnumOS := rnum_k.imp fun args H Q h => by
  unfold rnumOS at h
  split at h
  case h_2 => exact h.elim
  obtain ⟨rfl, hm, hs, h⟩ := h
  obtain ⟨h1, h2, h3⟩ := rd_yes hm
  refine Need.mk hs ?_
  show Q (.int .u64 ((bev (rdT 0 ((8 : Nat) : Int) _) : Nat) : Int)) (rd (rdE 0 ((8 : Nat) : Int) _) (rdS 0 ((8 : Nat) : Int) _))
  rw [h1, h2, h3]
  exact h _ _ rfl rfl
def rbyteOS : Spec := fun args H Q => match args, H with
  | [.ptr 0 0], [.cells [.int .i64 e, .str s] 172] => e = 0 ∧ 1 ≤ s.length ∧ s.length < 1000000 ∧ ∀ (g : Nat) (u : List UInt8), g = bev (s.take 1) → u = s.drop 1 → Q (.int .i64 (g : Int)) (rd 0 u)
  | _, _ => False
theorem rbyteO_k : Contract Tryz.prog [] 96 rbyteOS := rbyte_k.imp fun args H Q h => by
  unfold rbyteOS at h
  split at h
  case h_2 => exact h.elim
  obtain ⟨rfl, hm, hs, h⟩ := h
  obtain ⟨h1, h2, h3⟩ := rd_yes hm
  refine Need.mk hs ?_
  show Q (.int .i64 ((bev (rdT 0 ((1 : Nat) : Int) _) : Nat) : Int)) (rd (rdE 0 ((1 : Nat) : Int) _) (rdS 0 ((1 : Nat) : Int) _))
  rw [h1, h2, h3]
  exact h _ _ rfl rfl
def rtextOS : Spec := fun args H Q => match args, H with
  | [.ptr 0 0], [.cells [.int .i64 e, .str s] 172] => e = 0 ∧ ∃ m : Nat, m = bev (s.take 2) ∧ 2 + m ≤ s.length ∧ s.length < 1000000 ∧ ∀ t u : List UInt8, t = (s.drop 2).take m → u = s.drop (2 + m) → Q (.str t) (rd 0 u)
  | _, _ => False
theorem rtextO_k : Contract Tryz.prog [] 115 rtextOS := rtext_k.imp fun args H Q h => by
  unfold rtextOS at h
  split at h
  case h_2 => exact h.elim
  rename_i e s
  obtain ⟨rfl, m, hm0, hm, hs, h⟩ := h
  obtain ⟨h1, h2, h3⟩ := rd_yes (n := 2) (s := s) (by omega)
  obtain ⟨h4, h5, h6⟩ := rd_yes (n := m) (s := s.drop 2) (by rw [List.length_drop]; omega)
  refine Need.mk hs ?_
  have hv : rdV 0 2 s = m := by
    show bev (rdT 0 ((2 : Nat) : Int) s) = m
    rw [h1, hm0]
  have e2 : rdE 0 2 s = 0 := h2
  have e3 : rdS 0 2 s = s.drop 2 := h3
  rw [hv, e2, e3, h4, h5, h6]
  exact h _ _ rfl (by rw [List.drop_drop])
def rtextES : Spec := fun args H Q => match args, H with
  | [.ptr 0 0], [.cells [.int .i64 e, .str s] 172] => e = 0 ∧ ∃ m : Nat, m = bev (s.take 2) ∧ 2 ≤ s.length ∧ s.length < 2 + m ∧ s.length < 1000000 ∧ ∀ u : List UInt8, u.length ≤ s.length → Q (.str []) (rd 6 u)
  | _, _ => False
theorem rtextE_k : Contract Tryz.prog [] 115 rtextES := rtext_k.imp fun args H Q h => by
  unfold rtextES at h
  split at h
  case h_2 => exact h.elim
  rename_i e s
  obtain ⟨rfl, m, hm0, hm, hm2, hs, h⟩ := h
  obtain ⟨h1, h2, h3⟩ := rd_yes (n := 2) (s := s) (by omega)
  obtain ⟨h4, h5, h6⟩ := rd_no (n := m) (s := s.drop 2) (by rw [List.length_drop]; omega)
  refine Need.mk hs ?_
  have hv : rdV 0 2 s = m := by
    show bev (rdT 0 ((2 : Nat) : Int) s) = m
    rw [h1, hm0]
  have e2 : rdE 0 2 s = 0 := h2
  have e3 : rdS 0 2 s = s.drop 2 := h3
  rw [hv, e2, e3, h4, h5, h6]
  exact h _ (by rw [List.length_drop]; omega)
def leftOS : Spec := fun args H Q => match args, H with
  | [.ptr 0 0], [.cells [.int .i64 e, .str s] 172] => ∃ n : Int, n = (if e = 0 then (s.length : Int) else 0) ∧ Q (.int .i64 n) (rd e s)
  | _, _ => False
theorem leftO_k : Contract Tryz.prog [] 116 leftOS := left_k.imp fun args H Q h => by
  unfold leftOS at h
  split at h
  case h_2 => exact h.elim
  obtain ⟨n, rfl, h⟩ := h
  exact h
end Go.LX
end
section
set_option maxRecDepth 100000
set_option maxHeartbeats 1000000
set_option autoImplicit false
set_option linter.unusedVariables false
set_option linter.unusedSimpArgs false
namespace Go.LX
open Go.Proofs

theorem good_prog {s : Bz} {L : Nat} (hz : 64 ≤ L ∧ L ≤ 512) (hl : s.length = L) : goodX L (s.take (L - 4)) ↔
    mX s + 25 ≤ L ∧ (partOf s).k < (partOf s).n ∧ formP (L - 25) (partOf s).k (partOf s).n (mX s) ∧ (s.take (L - 4)).take 1 = [82] ∧ (s.take (L - 4)).drop (21 + mX s) = List.replicate (L - 25 - mX s) 0 := by
  unfold goodX
  rw [mX_take s (by omega : 21 ≤ L - 4)]
  refine and_congr_right fun hm => ?_
  rw [partOf_take s (by omega : 21 + mX s ≤ L - 4)]
  refine and_congr_right fun hk => ?_
  rw [form_iff (by omega) (by omega) hk (by omega)]
theorem fread_c : Meets Tryz.prog [] 98 rreadS := by
  refine meets_of Γok Tryz.func98 rfl ?_
  intro args H Q h
  unfold rreadS at h
  split at h
  case h_2 => exact h.elim
  rename_i z s
  obtain ⟨hl, h⟩ := h
  by_cases hr : rightN z = false
  · have h := h partZ 1 (by unfold readX; rw [if_pos hr])
    have h1 : (!rightN z) = true := by rw [hr]; rfl
    (refine sx_sound Γok _ ?_; conv => whnf)
    (repeat (first | (refine Both.of_true h1 ?_; conv => whnf) | (exact Out.same; conv => whnf) | (exact Out1.same; conv => whnf) | (refine QAnd.mk ?_ ?_; conv => whnf) | (apply QStepH.go; conv => whnf) | (refine Both.lit_true ?_; conv => whnf) | (refine Both.lit_false ?_; conv => whnf) | (apply QStep.go; conv => whnf) | (refine Need.au ?_; conv => whnf) | (refine ⟨_, rfl, ?_⟩; conv => whnf) | (refine CallVC.auto fright_k ?_; conv => whnf)))
    exact ⟨_, _, WeakV.drop rfl, h⟩
  have h1 : (!rightN z) = false := by rw [(by simpa using hr : rightN z = true)]; rfl
  by_cases hz : (s.length : Int) = z
  case neg =>
    have h := h partZ 6 (by unfold readX; rw [if_neg hr, if_pos hz])
    have h2 : (!decide ((s.length : Int) = z)) = true := by rw [decide_eq_false hz]; rfl
    (refine sx_sound Γok _ ?_; conv => whnf)
    (repeat (first | (refine Both.of_false h1 ?_; conv => whnf) | (refine Both.of_true h2 ?_; conv => whnf) | (exact Out.same; conv => whnf) | (exact Out1.same; conv => whnf) | (refine QAnd.mk ?_ ?_; conv => whnf) | (apply QStepH.go; conv => whnf) | (refine Both.lit_true ?_; conv => whnf) | (refine Both.lit_false ?_; conv => whnf) | (apply QStep.go; conv => whnf) | (refine Need.au ?_; conv => whnf) | (refine ⟨_, rfl, ?_⟩; conv => whnf) | (refine CallVC.auto fright_k ?_; conv => whnf)))
    exact ⟨_, _, WeakV.drop rfl, h⟩
  have h2 : (!decide ((s.length : Int) = z)) = false := by rw [decide_eq_true hz]; rfl
  have hs6 : s.length < 1000000 := by omega
  by_cases hb : rightB s = false
  · have h := h partZ 8 (by unfold readX; rw [if_neg hr, if_neg (fun q => q hz), if_pos hb])
    have h3 : (!rightB s) = true := by rw [hb]; rfl
    (refine sx_sound Γok _ ?_; conv => whnf)
    (repeat (first | (refine Both.of_false h1 ?_; conv => whnf) | (refine Both.of_false h2 ?_; conv => whnf) | (refine CallVC.auto right_k ⟨hs6, ?_⟩; conv => whnf) | (refine Both.of_true h3 ?_; conv => whnf) | (exact Out.same; conv => whnf) | (exact Out1.same; conv => whnf) | (refine QAnd.mk ?_ ?_; conv => whnf) | (apply QStepH.go; conv => whnf) | (refine Both.lit_true ?_; conv => whnf) | (refine Both.lit_false ?_; conv => whnf) | (apply QStep.go; conv => whnf) | (refine Need.au ?_; conv => whnf) | (refine ⟨_, rfl, ?_⟩; conv => whnf) | (refine CallVC.auto fright_k ?_; conv => whnf)))
    exact ⟨_, _, WeakV.drop rfl, h⟩
  have h3 : (!rightB s) = false := by rw [(by simpa using hb : rightB s = true)]; rfl
  have hrz : 64 ≤ z ∧ z ≤ 512 := of_decide_eq_true (by simpa using hr : rightN z = true)
  subst hz
  have z1 : 64 ≤ s.length := by omega
  obtain ⟨r, hr0⟩ : ∃ r : Nat, s.length - 25 = r := ⟨_, rfl⟩
  obtain ⟨T, hT⟩ : ∃ T, s.take (s.length - 4) = T := ⟨_, rfl⟩
  have hTl : T.length = s.length - 4 := by rw [← hT, List.length_take]; omega
  have hgs := good_prog (s := s) ⟨by omega, by omega⟩ rfl
  have hf1 := take_field s (i := 1) (j := 8) (n := s.length - 4) (by omega)
  have hf2 := take_field s (i := 9) (j := 8) (n := s.length - 4) (by omega)
  have hf3 := take_field s (i := 17) (j := 1) (n := s.length - 4) (by omega)
  have hf4 := take_field s (i := 18) (j := 1) (n := s.length - 4) (by omega)
  have hf5 := take_field s (i := 19) (j := 2) (n := s.length - 4) (by omega)
  have hf6 : mX s + 25 ≤ s.length → ((s.take (s.length - 4)).drop 21).take (mX s) = (s.drop 21).take (mX s) := fun q => take_field s (by omega)
  have hPe : partOf s = ⟨bev ((s.drop 1).take 8), bev ((s.drop 9).take 8), bev ((s.drop 17).take 1), bev ((s.drop 18).take 1), (s.drop 21).take (mX s)⟩ := rfl
  have hMe : mX s = bev ((s.drop 19).take 2) := rfl
  rw [hT] at hf1 hf2 hf3 hf4 hf5 hf6 hgs
  rw [← hf1, ← hf2, ← hf3, ← hf4] at hPe
  rw [← hf5] at hMe
  obtain ⟨P, hP⟩ : ∃ P, partOf s = P := ⟨_, rfl⟩
  obtain ⟨M, hM⟩ : ∃ M, mX s = M := ⟨_, rfl⟩
  have hbad : ¬ goodX s.length T → Q (.tuple [partSV partZ, .int .i64 5]) [] := fun q => h partZ 5 (by
    unfold readX
    rw [if_neg hr, if_neg (fun q => q rfl), if_neg hb, Int.toNat_natCast, hT, if_neg q])
  have hgood : goodX s.length T → Q (.tuple [partSV P, .int .i64 0]) [] := fun q => h P 0 (by
    unfold readX
    rw [if_neg hr, if_neg (fun q => q rfl), if_neg hb, Int.toNat_natCast, hT, if_pos q, ← hT, partOf_take s (by have := q.1; rw [← hT, mX_take s (by omega : 21 ≤ s.length - 4)] at this; omega), hP])
  clear h
  rw [hP, hM, hr0] at hgs
  rw [hgs] at hbad hgood
  rw [hM] at hMe hf6
  rw [hP, hM] at hPe
  have hw4 : IntKind.i64.wrap (((s.length : Nat) : Int) - 4) = ((s.length - 4 : Nat) : Int) := by rw [wrap_i64 (by omega) (by omega)]; omega
  have hTw : List.drop (Int.toNat 0) (List.take (IntKind.i64.wrap (((s.length : Nat) : Int) - 4)).toNat s) = T := by rw [hw4, Int.toNat_natCast, hT]; rfl
  have n0 : (0 : Int) ≤ 0 ∧ (0 : Int) ≤ IntKind.i64.wrap (((s.length : Nat) : Int) - 4) ∧ IntKind.i64.wrap (((s.length : Nat) : Int) - 4) ≤ ((s.length : Nat) : Int) := by rw [hw4]; omega
  (refine sx_sound Γok _ ?_; conv => whnf)
  (repeat (first | (refine Both.of_false h1 ?_; conv => whnf) | (refine Both.of_false h2 ?_; conv => whnf) | (refine CallVC.auto right_k ⟨hs6, ?_⟩; conv => whnf) | (refine Both.of_false h3 ?_; conv => whnf) | (refine Need.mk n0 ?_; conv => whnf) | (exact Out.same; conv => whnf) | (exact Out1.same; conv => whnf) | (refine QAnd.mk ?_ ?_; conv => whnf) | (apply QStepH.go; conv => whnf) | (refine Both.lit_true ?_; conv => whnf) | (refine Both.lit_false ?_; conv => whnf) | (apply QStep.go; conv => whnf) | (refine Need.au ?_; conv => whnf) | (refine ⟨_, rfl, ?_⟩; conv => whnf) | (refine CallVC.auto fright_k ?_; conv => whnf)))
  simp only [hTw]
  refine CallVC.auto rnew_k ?_
  (conv => whnf)
  (repeat (first | (exact Out.same; conv => whnf) | (exact Out1.same; conv => whnf) | (refine QAnd.mk ?_ ?_; conv => whnf) | (apply QStepH.go; conv => whnf) | (refine Both.lit_true ?_; conv => whnf) | (refine Both.lit_false ?_; conv => whnf) | (apply QStep.go; conv => whnf) | (refine Need.au ?_; conv => whnf) | (refine ⟨_, rfl, ?_⟩; conv => whnf)))
  refine CallVC.auto rrawO_k ⟨rfl, 1, rfl, by omega, by omega, ?_⟩
  intro lt T1 hlt hT1
  have q1 : T1.length = s.length - 5 := by rw [hT1, List.length_drop]; omega
  (conv => whnf)
  (repeat (first | (exact Out.same; conv => whnf) | (exact Out1.same; conv => whnf) | (refine QAnd.mk ?_ ?_; conv => whnf) | (apply QStepH.go; conv => whnf) | (refine Both.lit_true ?_; conv => whnf) | (refine Both.lit_false ?_; conv => whnf) | (apply QStep.go; conv => whnf) | (refine Need.au ?_; conv => whnf) | (refine ⟨_, rfl, ?_⟩; conv => whnf)))
  refine CallVC.auto rnumO_k ⟨rfl, by omega, by omega, ?_⟩
  intro g T2 hg hT2
  have q2 : T2.length = s.length - 13 := by rw [hT2, List.length_drop]; omega
  (conv => whnf)
  (repeat (first | (exact Out.same; conv => whnf) | (exact Out1.same; conv => whnf) | (refine QAnd.mk ?_ ?_; conv => whnf) | (apply QStepH.go; conv => whnf) | (refine Both.lit_true ?_; conv => whnf) | (refine Both.lit_false ?_; conv => whnf) | (apply QStep.go; conv => whnf) | (refine Need.au ?_; conv => whnf) | (refine ⟨_, rfl, ?_⟩; conv => whnf)))
  refine CallVC.auto rnumO_k ⟨rfl, by omega, by omega, ?_⟩
  intro sr T3 hsr hT3
  have q3 : T3.length = s.length - 21 := by rw [hT3, List.length_drop]; omega
  (conv => whnf)
  (repeat (first | (exact Out.same; conv => whnf) | (exact Out1.same; conv => whnf) | (refine QAnd.mk ?_ ?_; conv => whnf) | (apply QStepH.go; conv => whnf) | (refine Both.lit_true ?_; conv => whnf) | (refine Both.lit_false ?_; conv => whnf) | (apply QStep.go; conv => whnf) | (refine Need.au ?_; conv => whnf) | (refine ⟨_, rfl, ?_⟩; conv => whnf)))
  refine CallVC.auto rbyteO_k ⟨rfl, by omega, by omega, ?_⟩
  intro k T4 hk hT4
  have q4 : T4.length = s.length - 22 := by rw [hT4, List.length_drop]; omega
  (conv => whnf)
  (repeat (first | (exact Out.same; conv => whnf) | (exact Out1.same; conv => whnf) | (refine QAnd.mk ?_ ?_; conv => whnf) | (apply QStepH.go; conv => whnf) | (refine Both.lit_true ?_; conv => whnf) | (refine Both.lit_false ?_; conv => whnf) | (apply QStep.go; conv => whnf) | (refine Need.au ?_; conv => whnf) | (refine ⟨_, rfl, ?_⟩; conv => whnf)))
  refine CallVC.auto rbyteO_k ⟨rfl, by omega, by omega, ?_⟩
  intro n T5 hn hT5
  have q5 : T5.length = s.length - 23 := by rw [hT5, List.length_drop]; omega
  have hT2 : T2 = T.drop 9 := by rw [hT2, hT1, List.drop_drop]
  have hT3 : T3 = T.drop 17 := by rw [hT3, hT2, List.drop_drop]
  have hT4 : T4 = T.drop 18 := by rw [hT4, hT3, List.drop_drop]
  have hT5 : T5 = T.drop 19 := by rw [hT5, hT4, List.drop_drop]
  rw [hT1] at hg
  rw [hT2] at hsr
  rw [hT3] at hk
  rw [hT4] at hn
  rw [← hg, ← hsr, ← hk, ← hn] at hPe
  rw [← hT5] at hMe
  have hkb : k < 256 := by rw [hk]; exact bev1_lt _ _
  have hnb : n < 256 := by rw [hn]; exact bev1_lt _ _
  clear hf1 hf2 hf3 hf4 hf5 hg hsr hk hn
  have hkP : P.k = k := by rw [hPe]
  have hnP : P.n = n := by rw [hPe]
  rw [hkP, hnP] at hbad hgood
  have en : IntKind.i64.wrap ((n : Int) - 1) = (n : Int) - 1 := wrap_i64 (by omega) (by omega)
  (conv => whnf)
  (repeat (first | (exact Out.same; conv => whnf) | (exact Out1.same; conv => whnf) | (refine QAnd.mk ?_ ?_; conv => whnf) | (apply QStepH.go; conv => whnf) | (refine Both.lit_true ?_; conv => whnf) | (refine Both.lit_false ?_; conv => whnf) | (apply QStep.go; conv => whnf) | (refine Need.au ?_; conv => whnf) | (refine ⟨_, rfl, ?_⟩; conv => whnf)))
  by_cases hMl : M + 25 ≤ s.length
  case neg =>
    refine CallVC.auto rtextE_k ⟨rfl, M, hMe, by omega, by omega, by omega, ?_⟩
    intro T6 q6
    have h := hbad (fun q => hMl q.1)
    (conv => whnf)
    (repeat (first | (exact Out.same; conv => whnf) | (exact Out1.same; conv => whnf) | (refine QAnd.mk ?_ ?_; conv => whnf) | (apply QStepH.go; conv => whnf) | (refine Both.lit_true ?_; conv => whnf) | (refine Both.lit_false ?_; conv => whnf) | (apply QStep.go; conv => whnf) | (refine Need.au ?_; conv => whnf) | (refine ⟨_, rfl, ?_⟩; conv => whnf)))
    refine CallVC.auto leftO_k ⟨0, rfl, ?_⟩
    (conv => whnf)
    (repeat (first | (exact Out.same; conv => whnf) | (exact Out1.same; conv => whnf) | (refine QAnd.mk ?_ ?_; conv => whnf) | (apply QStepH.go; conv => whnf) | (refine Both.lit_true ?_; conv => whnf) | (refine Both.lit_false ?_; conv => whnf) | (apply QStep.go; conv => whnf) | (refine Need.au ?_; conv => whnf) | (refine ⟨_, rfl, ?_⟩; conv => whnf)))
    refine CallVC.auto rrawE_k ⟨by decide, by omega, ?_⟩
    (conv => whnf)
    (repeat (first | (exact Out.same; conv => whnf) | (exact Out1.same; conv => whnf) | (refine QAnd.mk ?_ ?_; conv => whnf) | (apply QStepH.go; conv => whnf) | (refine Both.lit_true ?_; conv => whnf) | (refine Both.lit_false ?_; conv => whnf) | (apply QStep.go; conv => whnf) | (refine Need.au ?_; conv => whnf) | (refine ⟨_, rfl, ?_⟩; conv => whnf) | (refine CallVC.auto errA_k ?_; conv => whnf)))
    exact ⟨_, _, WeakV.drop rfl, h⟩
  refine CallVC.auto rtextO_k ⟨rfl, M, hMe, by omega, by omega, ?_⟩
  intro b T6 hbt hT6
  have hT6 : T6 = T.drop (21 + M) := by rw [hT6, hT5, List.drop_drop]; congr 1; omega
  have hbP : P.b = b := by rw [hPe, hbt, hT5, List.drop_drop]; exact (hf6 hMl).symm
  have q6 : T6.length = s.length - 25 - M := by rw [hT6, List.length_drop]; omega
  have hbl : b.length = M := by rw [hbt, List.length_take, List.length_drop]; omega
  rw [← hlt, ← hT6] at hbad hgood
  (conv => whnf)
  (repeat (first | (exact Out.same; conv => whnf) | (exact Out1.same; conv => whnf) | (refine QAnd.mk ?_ ?_; conv => whnf) | (apply QStepH.go; conv => whnf) | (refine Both.lit_true ?_; conv => whnf) | (refine Both.lit_false ?_; conv => whnf) | (apply QStep.go; conv => whnf) | (refine Need.au ?_; conv => whnf) | (refine ⟨_, rfl, ?_⟩; conv => whnf)))
  refine CallVC.auto leftO_k ⟨(T6.length : Int), rfl, ?_⟩
  (conv => whnf)
  (repeat (first | (exact Out.same; conv => whnf) | (exact Out1.same; conv => whnf) | (refine QAnd.mk ?_ ?_; conv => whnf) | (apply QStepH.go; conv => whnf) | (refine Both.lit_true ?_; conv => whnf) | (refine Both.lit_false ?_; conv => whnf) | (apply QStep.go; conv => whnf) | (refine Need.au ?_; conv => whnf) | (refine ⟨_, rfl, ?_⟩; conv => whnf)))
  refine CallVC.auto rrawO_k ⟨rfl, T6.length, rfl, by omega, by omega, ?_⟩
  intro rest T7 hrest hT7
  have hrest : rest = T6 := by rw [hrest, List.take_length]
  subst hrest
  (conv => whnf)
  (repeat (first | (exact Out.same; conv => whnf) | (exact Out1.same; conv => whnf) | (refine QAnd.mk ?_ ?_; conv => whnf) | (apply QStepH.go; conv => whnf) | (refine Both.lit_true ?_; conv => whnf) | (refine Both.lit_false ?_; conv => whnf) | (apply QStep.go; conv => whnf) | (refine Need.au ?_; conv => whnf) | (refine ⟨_, rfl, ?_⟩; conv => whnf) | (refine CallVC.auto errA_k ?_; conv => whnf)))
  have hrw : IntKind.i64.wrap (((s.length : Nat) : Int) - 25) = (r : Int) := by rw [wrap_i64 (by omega) (by omega)]; omega
  refine Both.dec_not (fun h4 => ?_) (fun h4 => ?_)
  · have h := hbad (fun q => h4 q.2.2.2.1)
    (conv => whnf)
    (repeat (first | (exact Out.same; conv => whnf) | (exact Out1.same; conv => whnf) | (refine QAnd.mk ?_ ?_; conv => whnf) | (apply QStepH.go; conv => whnf) | (refine Both.lit_true ?_; conv => whnf) | (refine Both.lit_false ?_; conv => whnf) | (apply QStep.go; conv => whnf) | (refine Need.au ?_; conv => whnf) | (refine ⟨_, rfl, ?_⟩; conv => whnf)))
    exact ⟨_, _, WeakV.drop rfl, h⟩
  have h4 : lt = [82] := h4
  (conv => whnf)
  (repeat (first | (exact Out.same; conv => whnf) | (exact Out1.same; conv => whnf) | (refine QAnd.mk ?_ ?_; conv => whnf) | (apply QStepH.go; conv => whnf) | (refine Both.lit_true ?_; conv => whnf) | (refine Both.lit_false ?_; conv => whnf) | (apply QStep.go; conv => whnf) | (refine Need.au ?_; conv => whnf) | (refine ⟨_, rfl, ?_⟩; conv => whnf)))
  refine CallVC.auto trim_k ⟨rfl, by omega, ?_⟩
  (conv => whnf)
  (repeat (first | (exact Out.same; conv => whnf) | (exact Out1.same; conv => whnf) | (refine QAnd.mk ?_ ?_; conv => whnf) | (apply QStepH.go; conv => whnf) | (refine Both.lit_true ?_; conv => whnf) | (refine Both.lit_false ?_; conv => whnf) | (apply QStep.go; conv => whnf) | (refine Need.au ?_; conv => whnf) | (refine ⟨_, rfl, ?_⟩; conv => whnf)))
  refine Both.dec_not (fun h5 => ?_) (fun h5 => ?_)
  · have h := hbad (fun q => h5 ((trim_nil rest).2 (by rw [show rest.length = r - M by omega]; exact q.2.2.2.2)))
    (conv => whnf)
    (repeat (first | (exact Out.same; conv => whnf) | (exact Out1.same; conv => whnf) | (refine QAnd.mk ?_ ?_; conv => whnf) | (apply QStepH.go; conv => whnf) | (refine Both.lit_true ?_; conv => whnf) | (refine Both.lit_false ?_; conv => whnf) | (apply QStep.go; conv => whnf) | (refine Need.au ?_; conv => whnf) | (refine ⟨_, rfl, ?_⟩; conv => whnf)))
    exact ⟨_, _, WeakV.drop rfl, h⟩
  have h5 : rest = List.replicate (r - M) 0 := by
    have := (trim_nil rest).1 h5
    rwa [show rest.length = r - M by omega] at this
  (conv => whnf)
  (repeat (first | (exact Out.same; conv => whnf) | (exact Out1.same; conv => whnf) | (refine QAnd.mk ?_ ?_; conv => whnf) | (apply QStepH.go; conv => whnf) | (refine Both.lit_true ?_; conv => whnf) | (refine Both.lit_false ?_; conv => whnf) | (apply QStep.go; conv => whnf) | (refine Need.au ?_; conv => whnf) | (refine ⟨_, rfl, ?_⟩; conv => whnf)))
  refine Both.dec (fun h6 => ?_) (fun h6 => ?_)
  · have h := hbad (fun q => by have := q.2.1; omega)
    (conv => whnf)
    (repeat (first | (exact Out.same; conv => whnf) | (exact Out1.same; conv => whnf) | (refine QAnd.mk ?_ ?_; conv => whnf) | (apply QStepH.go; conv => whnf) | (refine Both.lit_true ?_; conv => whnf) | (refine Both.lit_false ?_; conv => whnf) | (apply QStep.go; conv => whnf) | (refine Need.au ?_; conv => whnf) | (refine ⟨_, rfl, ?_⟩; conv => whnf)))
    exact ⟨_, _, WeakV.drop rfl, h⟩
  have hkn : k < n := by omega
  obtain ⟨X, hX⟩ : ∃ X : Nat, k * r = X := ⟨_, rfl⟩
  have hXb : X ≤ 255 * 487 := by rw [← hX]; exact Nat.mul_le_mul (by omega) (by omega)
  have hAw : IntKind.i64.wrap (IntKind.i64.wrap ((k : Int) * IntKind.i64.wrap (((s.length : Nat) : Int) - 25)) + ((b.length : Nat) : Int)) = ((X + M : Nat) : Int) := by
    rw [hrw, ← Int.natCast_mul, hX, wrap_i64 (n := (X : Int)) (by omega) (by omega), wrap_i64 (by omega) (by omega), hbl]
    omega
  have hp1 : partsV ((s.length : Nat) : Int) (IntKind.i64.wrap (IntKind.i64.wrap ((k : Int) * IntKind.i64.wrap (((s.length : Nat) : Int) - 25)) + ((b.length : Nat) : Int))) = if X + M ≤ 4096 then npar r (X + M) else 0 := by
    rw [hAw]
    unfold partsV
    by_cases q : X + M ≤ 4096
    · rw [if_pos q, if_pos ⟨hrz, by omega, by omega⟩, Int.toNat_natCast, Int.toNat_natCast, hr0]
    · rw [if_neg q, if_neg (fun u => q (by omega))]
  have hp2 : partsV ((s.length : Nat) : Int) 4096 = npar r 4096 := by
    unfold partsV
    rw [if_pos ⟨hrz, by omega, by omega⟩, Int.toNat_natCast, hr0]
    rfl
  have hnp := npar_pos r (X + M)
  have hform : formP r k n M ↔ ¬ ((k + 1 ≠ n ∧ M ≠ r) ∨ (k + 1 = n ∧ 1 < n ∧ M = 0)) ∧ X + M ≤ 4096 ∧ n ≤ npar r 4096 := by unfold formP; rw [hX]
  have hend : ¬ ((k + 1 ≠ n ∧ M ≠ r) ∨ (k + 1 = n ∧ 1 < n ∧ M = 0)) → (X + M ≤ 4096 ∧ n ≤ npar r 4096 → Q (.tuple [partSV P, .int .i64 0]) []) ∧ (¬ (X + M ≤ 4096 ∧ n ≤ npar r 4096) → Q (.tuple [partSV partZ, .int .i64 5]) []) := fun q =>
    ⟨fun u => hgood ⟨hMl, hkn, hform.2 ⟨q, u⟩, h4, h5⟩, fun u => hbad (fun v => u (hform.1 v.2.2.1).2)⟩
  have hcut : ((k + 1 ≠ n ∧ M ≠ r) ∨ (k + 1 = n ∧ 1 < n ∧ M = 0)) → Q (.tuple [partSV partZ, .int .i64 5]) [] := fun q => hbad (fun v => (hform.1 v.2.2.1).1 q)
  clear hbad hgood
  (conv => whnf)
  (repeat (first | (exact Out.same; conv => whnf) | (exact Out1.same; conv => whnf) | (refine QAnd.mk ?_ ?_; conv => whnf) | (apply QStepH.go; conv => whnf) | (refine Both.lit_true ?_; conv => whnf) | (refine Both.lit_false ?_; conv => whnf) | (apply QStep.go; conv => whnf) | (refine Need.au ?_; conv => whnf) | (refine ⟨_, rfl, ?_⟩; conv => whnf)))
  have hPb' : b = List.take M (List.drop 21 s) := by rw [← hbP, hPe]
  by_cases hlast : k + 1 = n
  · have eL : (!decide ((k : Int) = IntKind.i64.wrap ((n : Int) - 1))) = false := by rw [en, decide_eq_true (by omega)]; rfl
    have eM : decide ((k : Int) = IntKind.i64.wrap ((n : Int) - 1)) = true := by rw [en, decide_eq_true (by omega)]
    (repeat (first | (refine Both.of_false eL ?_; conv => whnf) | (refine Both.of_true eM ?_; conv => whnf) | (exact Out.same; conv => whnf) | (exact Out1.same; conv => whnf) | (refine QAnd.mk ?_ ?_; conv => whnf) | (apply QStepH.go; conv => whnf) | (refine Both.lit_true ?_; conv => whnf) | (refine Both.lit_false ?_; conv => whnf) | (apply QStep.go; conv => whnf) | (refine Need.au ?_; conv => whnf) | (refine ⟨_, rfl, ?_⟩; conv => whnf)))
    refine Both.dec (fun h8 => ?_) (fun h8 => ?_)
    · (conv => whnf)
      (repeat (first | (exact Out.same; conv => whnf) | (exact Out1.same; conv => whnf) | (refine QAnd.mk ?_ ?_; conv => whnf) | (apply QStepH.go; conv => whnf) | (refine Both.lit_true ?_; conv => whnf) | (refine Both.lit_false ?_; conv => whnf) | (apply QStep.go; conv => whnf) | (refine Need.au ?_; conv => whnf) | (refine ⟨_, rfl, ?_⟩; conv => whnf)))
      refine Both.dec (fun h9 => ?_) (fun h9 => ?_)
      · have h := hcut (.inr ⟨hlast, by omega, by rw [← hbl, h9]; rfl⟩)
        (conv => whnf)
        (repeat (first | (exact Out.same; conv => whnf) | (exact Out1.same; conv => whnf) | (refine QAnd.mk ?_ ?_; conv => whnf) | (apply QStepH.go; conv => whnf) | (refine Both.lit_true ?_; conv => whnf) | (refine Both.lit_false ?_; conv => whnf) | (apply QStep.go; conv => whnf) | (refine Need.au ?_; conv => whnf) | (refine ⟨_, rfl, ?_⟩; conv => whnf)))
        exact ⟨_, _, WeakV.drop rfl, h⟩
      have hM0 : M ≠ 0 := fun u => h9 (List.eq_nil_of_length_eq_zero (hbl.trans u))
      (conv => whnf)
      (repeat (first | (exact Out.same; conv => whnf) | (exact Out1.same; conv => whnf) | (refine QAnd.mk ?_ ?_; conv => whnf) | (apply QStepH.go; conv => whnf) | (refine Both.lit_true ?_; conv => whnf) | (refine Both.lit_false ?_; conv => whnf) | (apply QStep.go; conv => whnf) | (refine Need.au ?_; conv => whnf) | (refine ⟨_, rfl, ?_⟩; conv => whnf)))
      obtain ⟨hY, hN⟩ := hend (fun u => by omega)
      by_cases hX4 : X + M ≤ 4096
      · have eA : decide (((partsV ((s.length : Nat) : Int) (IntKind.i64.wrap (IntKind.i64.wrap ((k : Int) * IntKind.i64.wrap (((s.length : Nat) : Int) - 25)) + ((b.length : Nat) : Int))) : Nat) : Int) = 0) = false := by rw [hp1, if_pos hX4]; exact decide_eq_false (by omega)
        by_cases hn4 : n ≤ npar r 4096
        · have eB : decide (((partsV ((s.length : Nat) : Int) 4096 : Nat) : Int) < (n : Int)) = false := by rw [hp2]; exact decide_eq_false (by omega)
          have h := hY ⟨hX4, hn4⟩
          rw [hPe, ← hPb'] at h
          (refine DrawVC.any Γok (by kernel_rfl) (by kernel_rfl) (by kernel_rfl) (by rfl) ?_; conv => whnf)
          (repeat (first | (refine Both.of_false eA ?_; conv => whnf) | (refine Both.of_false eB ?_; conv => whnf) | (exact Out.same; conv => whnf) | (exact Out1.same; conv => whnf) | (refine QAnd.mk ?_ ?_; conv => whnf) | (apply QStepH.go; conv => whnf) | (refine Both.lit_true ?_; conv => whnf) | (refine Both.lit_false ?_; conv => whnf) | (apply QStep.go; conv => whnf) | (refine Need.au ?_; conv => whnf) | (refine ⟨_, rfl, ?_⟩; conv => whnf) | (refine CallVC.auto parts_k ?_; conv => whnf)))
          exact ⟨_, _, WeakV.drop rfl, h⟩
        · have eB : decide (((partsV ((s.length : Nat) : Int) 4096 : Nat) : Int) < (n : Int)) = true := by rw [hp2]; exact decide_eq_true (by omega)
          have h := hN (fun u => hn4 u.2)
          (refine DrawVC.any Γok (by kernel_rfl) (by kernel_rfl) (by kernel_rfl) (by rfl) ?_; conv => whnf)
          (repeat (first | (refine Both.of_false eA ?_; conv => whnf) | (refine Both.of_true eB ?_; conv => whnf) | (exact Out.same; conv => whnf) | (exact Out1.same; conv => whnf) | (refine QAnd.mk ?_ ?_; conv => whnf) | (apply QStepH.go; conv => whnf) | (refine Both.lit_true ?_; conv => whnf) | (refine Both.lit_false ?_; conv => whnf) | (apply QStep.go; conv => whnf) | (refine Need.au ?_; conv => whnf) | (refine ⟨_, rfl, ?_⟩; conv => whnf) | (refine CallVC.auto parts_k ?_; conv => whnf)))
          exact ⟨_, _, WeakV.drop rfl, h⟩
      · have eA : decide (((partsV ((s.length : Nat) : Int) (IntKind.i64.wrap (IntKind.i64.wrap ((k : Int) * IntKind.i64.wrap (((s.length : Nat) : Int) - 25)) + ((b.length : Nat) : Int))) : Nat) : Int) = 0) = true := by rw [hp1, if_neg hX4]; rfl
        have h := hN (fun u => hX4 u.1)
        (refine DrawVC.any Γok (by kernel_rfl) (by kernel_rfl) (by kernel_rfl) (by rfl) ?_; conv => whnf)
        (repeat (first | (refine Both.of_true eA ?_; conv => whnf) | (exact Out.same; conv => whnf) | (exact Out1.same; conv => whnf) | (refine QAnd.mk ?_ ?_; conv => whnf) | (apply QStepH.go; conv => whnf) | (refine Both.lit_true ?_; conv => whnf) | (refine Both.lit_false ?_; conv => whnf) | (apply QStep.go; conv => whnf) | (refine Need.au ?_; conv => whnf) | (refine ⟨_, rfl, ?_⟩; conv => whnf) | (refine CallVC.auto parts_k ?_; conv => whnf)))
        exact ⟨_, _, WeakV.drop rfl, h⟩
    · (conv => whnf)
      (repeat (first | (exact Out.same; conv => whnf) | (exact Out1.same; conv => whnf) | (refine QAnd.mk ?_ ?_; conv => whnf) | (apply QStepH.go; conv => whnf) | (refine Both.lit_true ?_; conv => whnf) | (refine Both.lit_false ?_; conv => whnf) | (apply QStep.go; conv => whnf) | (refine Need.au ?_; conv => whnf) | (refine ⟨_, rfl, ?_⟩; conv => whnf)))
      obtain ⟨hY, hN⟩ := hend (fun u => by omega)
      by_cases hX4 : X + M ≤ 4096
      · have eA : decide (((partsV ((s.length : Nat) : Int) (IntKind.i64.wrap (IntKind.i64.wrap ((k : Int) * IntKind.i64.wrap (((s.length : Nat) : Int) - 25)) + ((b.length : Nat) : Int))) : Nat) : Int) = 0) = false := by rw [hp1, if_pos hX4]; exact decide_eq_false (by omega)
        by_cases hn4 : n ≤ npar r 4096
        · have eB : decide (((partsV ((s.length : Nat) : Int) 4096 : Nat) : Int) < (n : Int)) = false := by rw [hp2]; exact decide_eq_false (by omega)
          have h := hY ⟨hX4, hn4⟩
          rw [hPe, ← hPb'] at h
          (refine DrawVC.any Γok (by kernel_rfl) (by kernel_rfl) (by kernel_rfl) (by rfl) ?_; conv => whnf)
          (repeat (first | (refine Both.of_false eA ?_; conv => whnf) | (refine Both.of_false eB ?_; conv => whnf) | (exact Out.same; conv => whnf) | (exact Out1.same; conv => whnf) | (refine QAnd.mk ?_ ?_; conv => whnf) | (apply QStepH.go; conv => whnf) | (refine Both.lit_true ?_; conv => whnf) | (refine Both.lit_false ?_; conv => whnf) | (apply QStep.go; conv => whnf) | (refine Need.au ?_; conv => whnf) | (refine ⟨_, rfl, ?_⟩; conv => whnf) | (refine CallVC.auto parts_k ?_; conv => whnf)))
          exact ⟨_, _, WeakV.drop rfl, h⟩
        · have eB : decide (((partsV ((s.length : Nat) : Int) 4096 : Nat) : Int) < (n : Int)) = true := by rw [hp2]; exact decide_eq_true (by omega)
          have h := hN (fun u => hn4 u.2)
          (refine DrawVC.any Γok (by kernel_rfl) (by kernel_rfl) (by kernel_rfl) (by rfl) ?_; conv => whnf)
          (repeat (first | (refine Both.of_false eA ?_; conv => whnf) | (refine Both.of_true eB ?_; conv => whnf) | (exact Out.same; conv => whnf) | (exact Out1.same; conv => whnf) | (refine QAnd.mk ?_ ?_; conv => whnf) | (apply QStepH.go; conv => whnf) | (refine Both.lit_true ?_; conv => whnf) | (refine Both.lit_false ?_; conv => whnf) | (apply QStep.go; conv => whnf) | (refine Need.au ?_; conv => whnf) | (refine ⟨_, rfl, ?_⟩; conv => whnf) | (refine CallVC.auto parts_k ?_; conv => whnf)))
          exact ⟨_, _, WeakV.drop rfl, h⟩
      · have eA : decide (((partsV ((s.length : Nat) : Int) (IntKind.i64.wrap (IntKind.i64.wrap ((k : Int) * IntKind.i64.wrap (((s.length : Nat) : Int) - 25)) + ((b.length : Nat) : Int))) : Nat) : Int) = 0) = true := by rw [hp1, if_neg hX4]; rfl
        have h := hN (fun u => hX4 u.1)
        (refine DrawVC.any Γok (by kernel_rfl) (by kernel_rfl) (by kernel_rfl) (by rfl) ?_; conv => whnf)
        (repeat (first | (refine Both.of_true eA ?_; conv => whnf) | (exact Out.same; conv => whnf) | (exact Out1.same; conv => whnf) | (refine QAnd.mk ?_ ?_; conv => whnf) | (apply QStepH.go; conv => whnf) | (refine Both.lit_true ?_; conv => whnf) | (refine Both.lit_false ?_; conv => whnf) | (apply QStep.go; conv => whnf) | (refine Need.au ?_; conv => whnf) | (refine ⟨_, rfl, ?_⟩; conv => whnf) | (refine CallVC.auto parts_k ?_; conv => whnf)))
        exact ⟨_, _, WeakV.drop rfl, h⟩
  · have eL : (!decide ((k : Int) = IntKind.i64.wrap ((n : Int) - 1))) = true := by rw [en, decide_eq_false (by omega)]; rfl
    have eM : decide ((k : Int) = IntKind.i64.wrap ((n : Int) - 1)) = false := by rw [en, decide_eq_false (by omega)]
    (repeat (first | (refine Both.of_true eL ?_; conv => whnf) | (refine Both.of_false eM ?_; conv => whnf) | (exact Out.same; conv => whnf) | (exact Out1.same; conv => whnf) | (refine QAnd.mk ?_ ?_; conv => whnf) | (apply QStepH.go; conv => whnf) | (refine Both.lit_true ?_; conv => whnf) | (refine Both.lit_false ?_; conv => whnf) | (apply QStep.go; conv => whnf) | (refine Need.au ?_; conv => whnf) | (refine ⟨_, rfl, ?_⟩; conv => whnf)))
    refine Both.dec_not (fun h8 => ?_) (fun h8 => ?_)
    · have h := hcut (.inl ⟨hlast, by rw [hrw] at h8; omega⟩)
      (conv => whnf)
      (repeat (first | (refine Both.of_false eM ?_; conv => whnf) | (exact Out.same; conv => whnf) | (exact Out1.same; conv => whnf) | (refine QAnd.mk ?_ ?_; conv => whnf) | (apply QStepH.go; conv => whnf) | (refine Both.lit_true ?_; conv => whnf) | (refine Both.lit_false ?_; conv => whnf) | (apply QStep.go; conv => whnf) | (refine Need.au ?_; conv => whnf) | (refine ⟨_, rfl, ?_⟩; conv => whnf)))
      exact ⟨_, _, WeakV.drop rfl, h⟩
    have h8 : M = r := by rw [hrw] at h8; omega
    (conv => whnf)
    (repeat (first | (refine Both.of_false eM ?_; conv => whnf) | (exact Out.same; conv => whnf) | (exact Out1.same; conv => whnf) | (refine QAnd.mk ?_ ?_; conv => whnf) | (apply QStepH.go; conv => whnf) | (refine Both.lit_true ?_; conv => whnf) | (refine Both.lit_false ?_; conv => whnf) | (apply QStep.go; conv => whnf) | (refine Need.au ?_; conv => whnf) | (refine ⟨_, rfl, ?_⟩; conv => whnf)))
    obtain ⟨hY, hN⟩ := hend (fun u => by omega)
    by_cases hX4 : X + M ≤ 4096
    · have eA : decide (((partsV ((s.length : Nat) : Int) (IntKind.i64.wrap (IntKind.i64.wrap ((k : Int) * IntKind.i64.wrap (((s.length : Nat) : Int) - 25)) + ((b.length : Nat) : Int))) : Nat) : Int) = 0) = false := by rw [hp1, if_pos hX4]; exact decide_eq_false (by omega)
      by_cases hn4 : n ≤ npar r 4096
      · have eB : decide (((partsV ((s.length : Nat) : Int) 4096 : Nat) : Int) < (n : Int)) = false := by rw [hp2]; exact decide_eq_false (by omega)
        have h := hY ⟨hX4, hn4⟩
        rw [hPe, ← hPb'] at h
        (refine DrawVC.any Γok (by kernel_rfl) (by kernel_rfl) (by kernel_rfl) (by rfl) ?_; conv => whnf)
        (repeat (first | (refine Both.of_false eA ?_; conv => whnf) | (refine Both.of_false eB ?_; conv => whnf) | (exact Out.same; conv => whnf) | (exact Out1.same; conv => whnf) | (refine QAnd.mk ?_ ?_; conv => whnf) | (apply QStepH.go; conv => whnf) | (refine Both.lit_true ?_; conv => whnf) | (refine Both.lit_false ?_; conv => whnf) | (apply QStep.go; conv => whnf) | (refine Need.au ?_; conv => whnf) | (refine ⟨_, rfl, ?_⟩; conv => whnf) | (refine CallVC.auto parts_k ?_; conv => whnf)))
        exact ⟨_, _, WeakV.drop rfl, h⟩
      · have eB : decide (((partsV ((s.length : Nat) : Int) 4096 : Nat) : Int) < (n : Int)) = true := by rw [hp2]; exact decide_eq_true (by omega)
        have h := hN (fun u => hn4 u.2)
        (refine DrawVC.any Γok (by kernel_rfl) (by kernel_rfl) (by kernel_rfl) (by rfl) ?_; conv => whnf)
        (repeat (first | (refine Both.of_false eA ?_; conv => whnf) | (refine Both.of_true eB ?_; conv => whnf) | (exact Out.same; conv => whnf) | (exact Out1.same; conv => whnf) | (refine QAnd.mk ?_ ?_; conv => whnf) | (apply QStepH.go; conv => whnf) | (refine Both.lit_true ?_; conv => whnf) | (refine Both.lit_false ?_; conv => whnf) | (apply QStep.go; conv => whnf) | (refine Need.au ?_; conv => whnf) | (refine ⟨_, rfl, ?_⟩; conv => whnf) | (refine CallVC.auto parts_k ?_; conv => whnf)))
        exact ⟨_, _, WeakV.drop rfl, h⟩
    · have eA : decide (((partsV ((s.length : Nat) : Int) (IntKind.i64.wrap (IntKind.i64.wrap ((k : Int) * IntKind.i64.wrap (((s.length : Nat) : Int) - 25)) + ((b.length : Nat) : Int))) : Nat) : Int) = 0) = true := by rw [hp1, if_neg hX4]; rfl
      have h := hN (fun u => hX4 u.1)
      (refine DrawVC.any Γok (by kernel_rfl) (by kernel_rfl) (by kernel_rfl) (by rfl) ?_; conv => whnf)
      (repeat (first | (refine Both.of_true eA ?_; conv => whnf) | (exact Out.same; conv => whnf) | (exact Out1.same; conv => whnf) | (refine QAnd.mk ?_ ?_; conv => whnf) | (apply QStepH.go; conv => whnf) | (refine Both.lit_true ?_; conv => whnf) | (refine Both.lit_false ?_; conv => whnf) | (apply QStep.go; conv => whnf) | (refine Need.au ?_; conv => whnf) | (refine ⟨_, rfl, ?_⟩; conv => whnf) | (refine CallVC.auto parts_k ?_; conv => whnf)))
      exact ⟨_, _, WeakV.drop rfl, h⟩
theorem fread_k : Contract Tryz.prog [] 98 rreadS := ⟨⟨⟨_, rfl, rfl, rfl⟩⟩, fread_c⟩
end Go.LX
end
section
set_option maxRecDepth 100000
set_option maxHeartbeats 1000000
set_option autoImplicit false
set_option linter.unusedVariables false
set_option linter.unusedSimpArgs false
namespace Go.LX
open Go.Proofs

theorem chunk_drop (z u k : Nat) (s : Bz) : chunk z (s.drop (u * z)) k = chunk z s (u + k) := by
  unfold chunk
  rw [List.drop_drop, ← Nat.add_mul]
theorem np_small {z n : Nat} (hz : 64 ≤ z ∧ z ≤ 512) (hn : n ≤ 4096) : npar (z - 25) n ≤ 106 := by
  refine npar_le (by omega) ?_ (by omega)
  have h1 : 106 * 39 ≤ 106 * (z - 25) := Nat.mul_le_mul_left _ (by omega)
  omega
def secAt (z g sr : Nat) (t : Bz) (k : Nat) : Bz := secX z g sr k (npar (z - 25) t.length) (chunk (z - 25) t k)
theorem secAt_len {z : Nat} (hz : 64 ≤ z ∧ z ≤ 512) (g sr : Nat) (t : Bz) (k : Nat) : (secAt z g sr t k).length = z := by
  unfold secAt
  have := chunk_len (z - 25) t k
  exact sec_len (by omega)
theorem readX_at {z g sr : Nat} {t : Bz} {k : Nat} (hz : 64 ≤ z ∧ z ≤ 512) (hg : g < 18446744073709551616) (hs : sr < 18446744073709551616) (ht : t.length ≤ 4096) (hk : k < npar (z - 25) t.length) :
    readX (z : Int) (secAt z g sr t k) = (⟨g, sr, k, npar (z - 25) t.length, chunk (z - 25) t k⟩, 0) := by
  have h1 := np_small hz ht
  have h2 := chunk_len (z - 25) t k
  exact readX_sec hz hg hs hk (by omega) (by omega) (chunk_form (by omega) ht hk)
theorem recX_split {z g sr : Nat} {t S : Bz} (hz : 64 ≤ z ∧ z ≤ 512) (hg : g < 18446744073709551616) (hs : sr < 18446744073709551616) (ht : t.length ≤ 4096)
    (hc : ∀ k, k < npar (z - 25) t.length → chunk z S k = secAt z g sr t k) (hS : npar (z - 25) t.length * z ≤ S.length) :
    ∀ (f k n : Nat) (txt : Bz), k < npar (z - 25) t.length → npar (z - 25) t.length ≤ f + k → (0 < k → n = npar (z - 25) t.length) → recX z g sr S f k n txt = (txt ++ t.drop (k * (z - 25)), npar (z - 25) t.length)
  | 0, k, n, txt, hk, hf, hn => by omega
  | f + 1, k, n, txt, hk, hf, hn => by
    have hr := readX_at hz hg hs ht hk
    have hlast := npar_last (r := z - 25) (by omega) hk
    have hkz : (k + 1) * z ≤ npar (z - 25) t.length * z := Nat.mul_le_mul_right _ hk
    have hok : stepOk z g sr S k n (readX (z : Int) (chunk z S k)) := by
      rw [hc k hk, hr]
      exact ⟨by omega, rfl, rfl, rfl, rfl, fun q => (hn q).symm⟩
    rw [recX_yes hok, hc k hk, hr]
    show (if k + 1 = npar (z - 25) t.length then _ else _) = _
    by_cases h1 : k + 1 = npar (z - 25) t.length
    · rw [if_pos h1]
      have h2 := hlast.2 h1
      have h3 : chunk (z - 25) t k = t.drop (k * (z - 25)) := by
        unfold chunk
        exact List.take_of_length_le (by rw [List.length_drop]; exact h2)
      rw [h3]
    · rw [if_neg h1]
      show recX z g sr S f (k + 1) (npar (z - 25) t.length) (txt ++ chunk (z - 25) t k) = _
      rw [recX_split hz hg hs ht hc hS f (k + 1) _ _ (by omega) (by omega) (fun _ => rfl)]
      have h3 : chunk (z - 25) t k ++ t.drop ((k + 1) * (z - 25)) = t.drop (k * (z - 25)) := by
        unfold chunk
        rw [Nat.add_mul, Nat.one_mul, ← List.drop_drop, List.take_append_drop]
      rw [List.append_assoc, h3]
theorem recA_split {z g sr : Nat} {t S : Bz} (hz : 64 ≤ z ∧ z ≤ 512) (hg : g < 18446744073709551616) (hs : sr < 18446744073709551616) (ht : t.length ≤ 4096)
    (hc : ∀ k, k < npar (z - 25) t.length → chunk z S k = secAt z g sr t k) (hS : npar (z - 25) t.length * z ≤ S.length) : recA z g sr S = (t, npar (z - 25) t.length) := by
  have h1 : npar (z - 25) t.length * 1 ≤ npar (z - 25) t.length * z := Nat.mul_le_mul_left _ (by omega)
  have := recX_split hz hg hs ht hc hS (S.length + 1) 0 0 [] (npar_pos _ _) (by omega) (fun q => absurd q (by omega))
  rw [Nat.zero_mul] at this
  exact this
theorem scanX_stop {z g : Nat} {T : Bz} {used : Nat} {out : List Bz} (h : (recA z g out.length (T.drop (used * z))).2 = 0) : ∀ f, scanX z g T f used out = (out, used)
  | 0 => rfl
  | f + 1 => by
    show (if _ then _ else _) = _
    rw [if_pos h]
theorem scanX_go {z g : Nat} {T : Bz} {used : Nat} {out : List Bz} {f : Nat} (h : (recA z g out.length (T.drop (used * z))).2 ≠ 0) :
    scanX z g T (f + 1) used out = scanX z g T f (used + (recA z g out.length (T.drop (used * z))).2) (out ++ [(recA z g out.length (T.drop (used * z))).1]) := by
  show (if _ then _ else _) = _
  rw [if_neg h]
def secs (z : Nat) : List Bz → Nat
  | [] => 0
  | t :: L => npar (z - 25) t.length + secs z L
theorem secs_app (z : Nat) : ∀ A B : List Bz, secs z (A ++ B) = secs z A + secs z B
  | [], B => by simp [secs]
  | t :: A, B => by rw [List.cons_append, secs, secs, secs_app z A B]; omega
def placed (z g : Nat) (T : Bz) : Nat → Nat → List Bz → Prop
  | _, _, [] => True
  | u, i, t :: L => ((∀ k, k < npar (z - 25) t.length → chunk z T (u + k) = secAt z g i t k) ∧ (u + npar (z - 25) t.length) * z ≤ T.length) ∧ placed z g T (u + npar (z - 25) t.length) (i + 1) L
theorem scanX_placed {z g : Nat} {T : Bz} (hz : 64 ≤ z ∧ z ≤ 512) (hg : g < 18446744073709551616) : ∀ (L : List Bz) (u : Nat) (out : List Bz) (f : Nat), (∀ t ∈ L, t.length ≤ 4096) → out.length + L.length < 18446744073709551616 → placed z g T u out.length L →
    scanX z g T (f + L.length) u out = scanX z g T f (u + secs z L) (out ++ L)
  | [], u, out, f, _, _, _ => by simp [secs]
  | t :: L, u, out, f, hl, hn, hp => by
    have hn' : out.length + (L.length + 1) < 18446744073709551616 := hn
    have ht := hl t (List.mem_cons_self ..)
    have hr : recA z g out.length (T.drop (u * z)) = (t, npar (z - 25) t.length) := by
      refine recA_split hz hg (by omega) ht (fun k hk => ?_) ?_
      · rw [chunk_drop]
        exact hp.1.1 k hk
      · rw [List.length_drop]
        have := hp.1.2
        rw [Nat.add_mul] at this
        omega
    have hne : (recA z g out.length (T.drop (u * z))).2 ≠ 0 := by
      rw [hr]
      have := npar_pos (z - 25) t.length
      show npar (z - 25) t.length ≠ 0
      omega
    rw [List.length_cons, ← Nat.add_assoc, scanX_go hne, hr]
    have ih := scanX_placed hz hg L (u + npar (z - 25) t.length) (out ++ [t]) f (fun x hx => hl x (List.mem_cons_of_mem _ hx)) (by rw [List.length_append, List.length_singleton]; omega) (by rw [List.length_append, List.length_singleton]; exact hp.2)
    rw [ih, secs, List.append_assoc]
    congr 1
    omega
theorem secs_ge (z : Nat) : ∀ L : List Bz, L.length ≤ secs z L
  | [] => Nat.le_refl _
  | t :: L => by
    have := secs_ge z L
    have := npar_pos (z - 25) t.length
    rw [secs, List.length_cons]
    omega
theorem splitL_at {z g sr : Nat} {t : Bz} {k : Nat} (h : k < npar (z - 25) t.length) : (splitL z g sr t)[k]? = some (secAt z g sr t k) := by
  unfold splitL
  rw [List.getElem?_map, List.getElem?_range h]
  rfl
theorem splitL_len (z g sr : Nat) (t : Bz) : (splitL z g sr t).length = npar (z - 25) t.length := by simp [splitL]
theorem splitL_size {z : Nat} (hz : 64 ≤ z ∧ z ≤ 512) {g sr : Nat} {t : Bz} {x : Bz} (h : x ∈ splitL z g sr t) : x.length = z := by
  unfold splitL at h
  obtain ⟨k, _, rfl⟩ := List.mem_map.1 h
  exact secAt_len hz g sr t k
theorem flat_chunk {z : Nat} : ∀ {l : List Bz} (pre post : Bz) (u k : Nat) (x : Bz), pre.length = u * z → (∀ x ∈ l, x.length = z) → l[k]? = some x → chunk z (pre ++ (l.flatten ++ post)) (u + k) = x
  | [], _, _, _, _, _, _, _, h => by simp at h
  | a :: l, pre, post, u, 0, x, hp, hl, h => by
    have ha := hl a (List.mem_cons_self ..)
    obtain rfl : a = x := by simpa using h
    unfold chunk
    rw [Nat.add_zero, List.drop_left' hp, List.flatten_cons, List.append_assoc, List.take_left' ha]
  | a :: l, pre, post, u, k + 1, x, hp, hl, h => by
    have ha := hl a (List.mem_cons_self ..)
    have ih := flat_chunk (l := l) (pre ++ a) post (u + 1) k x (by rw [List.length_append, hp, ha, Nat.add_mul, Nat.one_mul]) (fun x hx => hl x (List.mem_cons_of_mem _ hx)) (by simpa using h)
    rw [show u + (k + 1) = u + 1 + k by omega, List.flatten_cons, ← ih]
    congr 1
    simp only [List.append_assoc]
end Go.LX
end
