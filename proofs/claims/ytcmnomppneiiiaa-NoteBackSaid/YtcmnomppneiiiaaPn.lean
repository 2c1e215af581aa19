import Derived.Test.YtcmnomppneiiiaaPb
import Derived.Test.YtcmnomppneiiiaaWireN
set_option maxRecDepth 100000
set_option maxHeartbeats 4000000
set_option autoImplicit false
set_option linter.unusedVariables false
set_option linter.unusedSimpArgs false
namespace Go.LX
open Go.Proofs

/-! ## What is got, by places -/
theorem nx_ok {t : List UInt8} {p : Nat} {n : Int} {m : Nat} (hn : n = m) (h : p + m ≤ t.length) : nx (0, t.drop p) n = (0, t.drop (p + m)) ∧ rdT 0 n (t.drop p) = (t.drop p).take m := by
  subst hn
  have hok : rdOk 0 (m : Int) (t.drop p) = true := decide_eq_true ⟨rfl, by omega, by rw [List.length_drop]; omega⟩
  refine ⟨?_, by rw [rdT, if_pos hok, Int.toNat_natCast]⟩
  unfold nx
  rw [rdS, if_pos hok, Int.toNat_natCast, List.drop_drop]
  congr 1
  unfold rdE
  rw [if_pos rfl, if_pos (by rw [List.length_drop]; omega)]
theorem nx_bad {t : List UInt8} {p : Nat} {n : Int} (h : (t.length : Int) < p + n) (h2 : p ≤ t.length) : (nx (0, t.drop p) n).1 = 6 := by
  unfold nx rdE
  rw [if_pos rfl, if_neg (by rw [List.length_drop]; omega)]
theorem nx_err {q : Int × List UInt8} {n : Int} (h : q.1 ≠ 0) : nx q n = q := by
  obtain ⟨e, s⟩ := q
  have h0 : rdOk e n s = false := decide_eq_false (fun h1 => h h1.1)
  unfold nx
  have h1 : rdE e n s = e := by unfold rdE; rw [if_neg h]
  have h2 : rdS e n s = s := by unfold rdS; rw [h0]; rfl
  rw [h1, h2]
theorem drop0 (t : List UInt8) : ((0, t) : Int × List UInt8) = (0, t.drop 0) := by rw [List.drop_zero]
theorem pg_short {t : List UInt8} (h : t.length < 19) : (pg5 (0, t)).1 = 6 := by
  have key : (pg4 (0, t)).1 = 6 → (pg5 (0, t)).1 = 6 := fun h1 => by
    unfold pg5
    rw [nx_err (by rw [h1]; decide), h1]
  refine key ?_
  unfold pg4 pg3
  rw [drop0 t]
  by_cases h1 : t.length < 1
  · have e1 := nx_bad (t := t) (p := 0) (n := 1) (by omega) (by omega)
    rw [nx_err (q := nx (0, t.drop 0) 1) (by rw [e1]; decide), nx_err (q := nx (0, t.drop 0) 1) (by rw [e1]; decide), nx_err (q := nx (0, t.drop 0) 1) (by rw [e1]; decide), e1]
  rw [(nx_ok (t := t) (p := 0) (n := 1) (m := 1) rfl (by omega)).1]
  by_cases h2 : t.length < 9
  · have e1 := nx_bad (t := t) (p := 0 + 1) (n := 8) (by omega) (by omega)
    rw [nx_err (q := nx (0, t.drop (0 + 1)) 8) (by rw [e1]; decide), nx_err (q := nx (0, t.drop (0 + 1)) 8) (by rw [e1]; decide), e1]
  rw [(nx_ok (t := t) (p := 0 + 1) (n := 8) (m := 8) rfl (by omega)).1]
  by_cases h3 : t.length < 17
  · have e1 := nx_bad (t := t) (p := 0 + 1 + 8) (n := 8) (by omega) (by omega)
    rw [nx_err (q := nx (0, t.drop (0 + 1 + 8)) 8) (by rw [e1]; decide), e1]
  rw [(nx_ok (t := t) (p := 0 + 1 + 8) (n := 8) (m := 8) rfl (by omega)).1]
  exact nx_bad (by omega) (by omega)
/-- How long the text is. -/
def pnum (t : List UInt8) : Nat := bev ((t.drop 17).take 2)
theorem pg_long {t : List UInt8} (h : 19 ≤ t.length) : pgF (0, t) = (bev ((t.drop 0).take 1) : Int) ∧ pgQ (0, t) = (bev ((t.drop 1).take 8) : Int) ∧ pgT (0, t) = (bev ((t.drop 9).take 8) : Int) ∧ pgN (0, t) = (pnum t : Int) ∧ pg4 (0, t) = (0, t.drop 19) := by
  have a1 := nx_ok (t := t) (p := 0) (n := 1) (m := 1) rfl (by omega)
  have a2 := nx_ok (t := t) (p := 1) (n := 8) (m := 8) rfl (by omega)
  have a3 := nx_ok (t := t) (p := 9) (n := 8) (m := 8) rfl (by omega)
  have a4 := nx_ok (t := t) (p := 17) (n := 2) (m := 2) rfl (by omega)
  have b1 : nx (0, t) 1 = (0, t.drop 1) := by rw [drop0 t, a1.1]
  have b2 : nx (nx (0, t) 1) 8 = (0, t.drop 9) := by rw [b1, a2.1]
  have b3 : pg3 (0, t) = (0, t.drop 17) := by rw [pg3, b2, a3.1]
  have b4 : pg4 (0, t) = (0, t.drop 19) := by rw [pg4, b3, a4.1]
  refine ⟨?_, ?_, ?_, ?_, b4⟩
  · unfold pgF rdV
    have : rdT 0 1 t = (t.drop 0).take 1 := by have := a1.2; rw [List.drop_zero] at this; exact this
    show ((bev (rdT 0 1 t) : Nat) : Int) = _
    rw [this]
  · unfold pgQ rdV
    rw [b1]
    show ((bev (rdT 0 8 (t.drop 1)) : Nat) : Int) = _
    rw [a2.2]
  · unfold pgT rdV
    rw [b2]
    show ((bev (rdT 0 8 (t.drop 9)) : Nat) : Int) = _
    rw [a3.2]
  · unfold pgN rdV
    rw [b3]
    show ((bev (rdT 0 2 (t.drop 17)) : Nat) : Int) = _
    rw [a4.2]
    rfl
theorem pg_long2 {t : List UInt8} (h : 19 + pnum t ≤ t.length) : pgD (0, t) = (t.drop 19).take (pnum t) ∧ pg5 (0, t) = (0, t.drop (19 + pnum t)) := by
  obtain ⟨_, _, _, h4, h5⟩ := pg_long (t := t) (by omega)
  have a := nx_ok (t := t) (p := 19) (n := (pnum t : Int)) (m := pnum t) rfl h
  refine ⟨?_, ?_⟩
  · unfold pgD
    rw [h4, h5]
    exact a.2
  · unfold pg5
    rw [h4, h5]
    exact a.1
theorem pg_short2 {t : List UInt8} (h : 19 ≤ t.length) (h2 : t.length < 19 + pnum t) : (pg5 (0, t)).1 = 6 := by
  obtain ⟨_, _, _, h4, h5⟩ := pg_long h
  unfold pg5
  rw [h4, h5]
  exact nx_bad (by omega) h
theorem pgE_short {t : List UInt8} (h : (pg5 (0, t)).1 = 6) : pgE (0, t) = 6 := by
  unfold pgE
  rw [h]
  split <;> rfl
/-! ## A packet's bytes are got -/
theorem pb_parts (f s t : Int) (d m : List UInt8) : let T := pbytes f s t d ++ m
    (T.drop 0).take 1 = beb f.toNat 1 ∧ (T.drop 1).take 8 = beb s.toNat 8 ∧ (T.drop 9).take 8 = beb t.toNat 8 ∧ (T.drop 17).take 2 = beb d.length 2 ∧ (T.drop 19).take d.length = d ∧ T.drop (19 + d.length) = m := by
  intro T
  have hT : T = beb f.toNat 1 ++ (beb s.toNat 8 ++ (beb t.toNat 8 ++ (beb d.length 2 ++ (d ++ m)))) := by
    show pbytes f s t d ++ m = _
    unfold pbytes
    simp only [List.append_assoc]
  have d1 : T.drop 1 = beb s.toNat 8 ++ (beb t.toNat 8 ++ (beb d.length 2 ++ (d ++ m))) := by rw [hT]; exact List.drop_left' (beb_length _ _)
  have d9 : T.drop 9 = beb t.toNat 8 ++ (beb d.length 2 ++ (d ++ m)) := by
    rw [show (9 : Nat) = 1 + 8 from rfl, ← List.drop_drop, d1]
    exact List.drop_left' (beb_length _ _)
  have d17 : T.drop 17 = beb d.length 2 ++ (d ++ m) := by
    rw [show (17 : Nat) = 9 + 8 from rfl, ← List.drop_drop, d9]
    exact List.drop_left' (beb_length _ _)
  have d19 : T.drop 19 = d ++ m := by
    rw [show (19 : Nat) = 17 + 2 from rfl, ← List.drop_drop, d17]
    exact List.drop_left' (beb_length _ _)
  refine ⟨?_, ?_, ?_, ?_, ?_, ?_⟩
  · rw [List.drop_zero, hT]; exact List.take_left' (beb_length _ _)
  · rw [d1]; exact List.take_left' (beb_length _ _)
  · rw [d9]; exact List.take_left' (beb_length _ _)
  · rw [d17]; exact List.take_left' (beb_length _ _)
  · rw [d19, List.take_left]
  · rw [← List.drop_drop, d19, List.drop_left]
/-- A whole packet, and more. -/
theorem pb_get {f s t : Int} {d : List UInt8} (m : List UInt8) (hp : pok f s t d = true) (hs : 0 ≤ s ∧ s < 18446744073709551616) (ht : 0 ≤ t ∧ t < 18446744073709551616) :
    pgE (0, pbytes f s t d ++ m) = 0 ∧ pgF (0, pbytes f s t d ++ m) = f ∧ pgQ (0, pbytes f s t d ++ m) = s ∧ pgT (0, pbytes f s t d ++ m) = t ∧ pgD (0, pbytes f s t d ++ m) = d ∧ (pg5 (0, pbytes f s t d ++ m)).2 = m := by
  have hp2 : (0 ≤ f ∧ f ≤ 1) ∧ d.length ≤ 64 := by
    simp [pok] at hp
    omega
  obtain ⟨p1, p2, p3, p4, p5, p6⟩ := pb_parts f s t d m
  have hlen : (pbytes f s t d ++ m).length = 19 + d.length + m.length := by rw [List.length_append, pbytes_len]
  obtain ⟨g1, g2, g3, g4, g5⟩ := pg_long (t := pbytes f s t d ++ m) (by omega)
  have hpn : pnum (pbytes f s t d ++ m) = d.length := by
    rw [pnum, p4, bev_beb 2 _ (by omega)]
  obtain ⟨g6, g7⟩ := pg_long2 (t := pbytes f s t d ++ m) (by rw [hpn]; omega)
  rw [p1, bev_beb 1 _ (by omega)] at g1
  rw [p2, bev_beb 8 _ (by omega)] at g2
  rw [p3, bev_beb 8 _ (by omega)] at g3
  rw [hpn, p5] at g6
  rw [hpn, p6] at g7
  have f1 : pgF (0, pbytes f s t d ++ m) = f := by rw [g1]; omega
  have f2 : pgQ (0, pbytes f s t d ++ m) = s := by rw [g2]; omega
  have f3 : pgT (0, pbytes f s t d ++ m) = t := by rw [g3]; omega
  refine ⟨?_, f1, f2, f3, g6, by rw [g7]⟩
  unfold pgE
  rw [f1, f2, f3, g6, hp, g7]
  rfl
/-- A packet, cut short. -/
theorem pb_cut {f s t : Int} {d : List UInt8} {c : Nat} (hc : c < (pbytes f s t d).length) (hd : d.length ≤ 64) : pgE (0, (pbytes f s t d).take c) = 6 := by
  refine pgE_short ?_
  have hl : ((pbytes f s t d).take c).length = c := by rw [List.length_take]; omega
  rw [pbytes_len] at hc
  rcases Nat.lt_or_ge c 19 with h | h
  · exact pg_short (by omega)
  · refine pg_short2 (by omega) ?_
    obtain ⟨_, _, _, p4, _, _⟩ := pb_parts f s t d []
    rw [List.append_nil] at p4
    have : pnum ((pbytes f s t d).take c) = d.length := by
      rw [pnum, List.drop_take, List.take_take, Nat.min_eq_left (by omega), p4, bev_beb 2 _ (by omega)]
    omega
end Go.LX
