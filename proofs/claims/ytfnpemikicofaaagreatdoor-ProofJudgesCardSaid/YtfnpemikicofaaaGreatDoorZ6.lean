/- Own texts of this claim, in build order: Qm, Qn, Po, Qo, Qp, Qq, Qs, Qt, Qu, Rk. -/
import Derived.Test.YtfnpemikicofaaaGreatDoorZ5
import Derived.Test.YtfnpemikicofaaaGreatDoorRows
import Derived.Lib.LaidTab
import Derived.MakeChecks
import Derived.LaidMore
section
set_option maxRecDepth 100000
set_option maxHeartbeats 2000000
set_option autoImplicit false
set_option linter.unusedVariables false
set_option linter.unusedSimpArgs false
namespace Go.LX
open Go.Proofs

def mdoKS : Spec := fun args H Q => match args, H with
  | [.ptr 0 0, .agg [.int .i64 kind, .int .i64 k, .int .u64 n, .str t]], [.cells [.str S, .int .i64 p, .int .i64 e] 93] => ∃ a : Nat, p = a ∧ a ≤ S.length ∧ S.length < 1000000 ∧
    ((kind = 0 ∧ ∀ a' : Nat, a' ≤ S.length → S.drop a' = (byteF e (S.drop a)).2.2 → Q (.tuple [.int .u64 ((byteF e (S.drop a)).1 : Int), .str []]) (mrd S a' (byteF e (S.drop a)).2.1)) ∨
     (kind = 1 ∧ ∀ a' : Nat, a' ≤ S.length → S.drop a' = rdS e 8 (S.drop a) → Q (.tuple [.int .u64 (rdV e 8 (S.drop a) : Int), .str []]) (mrd S a' (rdE e 8 (S.drop a)))) ∨
     (kind = 2 ∧ ∀ a' : Nat, a' ≤ S.length → S.drop a' = (textF e (S.drop a)).2.2 → Q (.tuple [.int .u64 0, .str (textF e (S.drop a)).1]) (mrd S a' (textF e (S.drop a)).2.1)) ∨
     (kind = 3 ∧ k = 32 ∧ ∀ a' : Nat, a' ≤ S.length → S.drop a' = rdS e 32 (S.drop a) → Q (.tuple [.int .u64 0, .str (rdT e 32 (S.drop a))]) (mrd S a' (rdE e 32 (S.drop a)))))
  | _, _ => False
theorem mdoK_k : Contract Tryz.prog [] 49 mdoKS := mdo_k.imp fun args H Q h => by
  unfold mdoKS at h
  split at h
  case h_2 => exact h.elim
  rename_i kind k n t S p e
  obtain ⟨a, rfl, ha, hS, h⟩ := h
  rcases h with ⟨rfl, h⟩ | ⟨rfl, h⟩ | ⟨rfl, h⟩ | ⟨rfl, rfl, h⟩
  · exact ⟨a, ⟨0, k, 0#64, []⟩, rfl, rfl, rfl, ha, hS, h⟩
  · exact ⟨a, ⟨1, k, 0#64, []⟩, rfl, rfl, rfl, ha, hS, h⟩
  · exact ⟨a, ⟨2, k, 0#64, []⟩, rfl, rfl, rfl, ha, hS, h⟩
  · exact ⟨a, ⟨3, 32, 0#64, []⟩, rfl, rfl, rfl, ha, hS, h⟩
def numF (e : Int) (s : Bs) : Nat × Int × Bs := (rdV e 8 s % 1000000, rdE e 8 s, rdS e 8 s)
def dbyteS : Spec := fun args H Q => match args, H with
  | [.ptr 0 0], [.cells [.str S, .int .i64 p, .int .i64 e] 93] => ∃ a : Nat, p = a ∧ a ≤ S.length ∧ S.length < 1000000 ∧
    ∀ a' : Nat, a' ≤ S.length → S.drop a' = (byteF e (S.drop a)).2.2 → Q (.int .i64 ((byteF e (S.drop a)).1 : Int)) (mrd S a' (byteF e (S.drop a)).2.1)
  | _, _ => False
theorem dbyte_c : Meets Tryz.prog [] 46 dbyteS := by
  refine meets_of Γok Tryz.func46 rfl ?_
  intro args H Q h
  unfold dbyteS at h
  split at h
  case h_2 => exact h.elim
  rename_i S p e
  obtain ⟨a, rfl, ha, hS, h⟩ := h
  have hv := rdV_lt1 e (S.drop a)
  have hw : IntKind.i64.wrap (((byteF e (S.drop a)).1 : Nat) : Int) = (((byteF e (S.drop a)).1 : Nat) : Int) := wrap_i64 (by omega) (by have : (byteF e (S.drop a)).1 = rdV e 1 (S.drop a) := rfl; omega)
  (refine sx_sound Γok _ ?_; conv => whnf)
  (repeat (first | (exact Out.same; conv => whnf) | (exact Out1.same; conv => whnf) | (refine QAnd.mk ?_ ?_; conv => whnf) | (apply QStepH.go; conv => whnf) | (refine Both.lit_true ?_; conv => whnf) | (refine Both.lit_false ?_; conv => whnf) | (apply QStep.go; conv => whnf) | (refine Need.au ?_; conv => whnf) | (refine ⟨_, rfl, ?_⟩; conv => whnf)))
  refine CallVC.auto mdoK_k ⟨a, rfl, ha, hS, .inl ⟨rfl, fun a' ha' hd => ?_⟩⟩
  have h := h a' ha' hd
  (conv => whnf)
  (repeat (first | (exact Out.same; conv => whnf) | (exact Out1.same; conv => whnf) | (refine QAnd.mk ?_ ?_; conv => whnf) | (apply QStepH.go; conv => whnf) | (refine Both.lit_true ?_; conv => whnf) | (refine Both.lit_false ?_; conv => whnf) | (apply QStep.go; conv => whnf) | (refine Need.au ?_; conv => whnf) | (refine ⟨_, rfl, ?_⟩; conv => whnf)))
  refine ⟨_, _, WeakV.auto ?_, h⟩
  (repeat' ((conv => whnf); first | exact True.intro | (refine And.intro ?_ ?_)))
  all_goals first | rfl | exact .eq rfl | exact congrArg (SV.int .i64) hw
theorem dbyte_k : Contract Tryz.prog [] 46 dbyteS := ⟨⟨⟨_, rfl, rfl, rfl⟩⟩, dbyte_c⟩
def dnumS : Spec := fun args H Q => match args, H with
  | [.ptr 0 0], [.cells [.str S, .int .i64 p, .int .i64 e] 93] => ∃ a : Nat, p = a ∧ a ≤ S.length ∧ S.length < 1000000 ∧
    ∀ a' : Nat, a' ≤ S.length → S.drop a' = (numF e (S.drop a)).2.2 → Q (.int .i64 ((numF e (S.drop a)).1 : Int)) (mrd S a' (numF e (S.drop a)).2.1)
  | _, _ => False
theorem dnum_c : Meets Tryz.prog [] 47 dnumS := by
  refine meets_of Γok Tryz.func47 rfl ?_
  intro args H Q h
  unfold dnumS at h
  split at h
  case h_2 => exact h.elim
  rename_i S p e
  obtain ⟨a, rfl, ha, hS, h⟩ := h
  have hw : IntKind.i64.wrap (((rdV e 8 (S.drop a) : Nat) : Int).tmod 1000000) = (((numF e (S.drop a)).1 : Nat) : Int) := by
    have e1 : ((rdV e 8 (S.drop a) : Nat) : Int).tmod 1000000 = (((numF e (S.drop a)).1 : Nat) : Int) := rfl
    have e2 : (numF e (S.drop a)).1 < 1000000 := Nat.mod_lt _ (by decide)
    rw [e1, wrap_i64 (by omega) (by omega)]
  (refine sx_sound Γok _ ?_; conv => whnf)
  (repeat (first | (exact Out.same; conv => whnf) | (exact Out1.same; conv => whnf) | (refine QAnd.mk ?_ ?_; conv => whnf) | (apply QStepH.go; conv => whnf) | (refine Both.lit_true ?_; conv => whnf) | (refine Both.lit_false ?_; conv => whnf) | (apply QStep.go; conv => whnf) | (refine Need.au ?_; conv => whnf) | (refine ⟨_, rfl, ?_⟩; conv => whnf)))
  refine CallVC.auto mdoK_k ⟨a, rfl, ha, hS, .inr (.inl ⟨rfl, fun a' ha' hd => ?_⟩)⟩
  have h := h a' ha' hd
  (conv => whnf)
  (repeat (first | (exact Out.same; conv => whnf) | (exact Out1.same; conv => whnf) | (refine QAnd.mk ?_ ?_; conv => whnf) | (apply QStepH.go; conv => whnf) | (refine Both.lit_true ?_; conv => whnf) | (refine Both.lit_false ?_; conv => whnf) | (apply QStep.go; conv => whnf) | (refine Need.au ?_; conv => whnf) | (refine ⟨_, rfl, ?_⟩; conv => whnf)))
  refine ⟨_, _, WeakV.auto ?_, h⟩
  (repeat' ((conv => whnf); first | exact True.intro | (refine And.intro ?_ ?_)))
  all_goals first | rfl | exact .eq rfl | exact congrArg (SV.int .i64) hw
theorem dnum_k : Contract Tryz.prog [] 47 dnumS := ⟨⟨⟨_, rfl, rfl, rfl⟩⟩, dnum_c⟩
def dtextS : Spec := fun args H Q => match args, H with
  | [.ptr 0 0], [.cells [.str S, .int .i64 p, .int .i64 e] 93] => ∃ a : Nat, p = a ∧ a ≤ S.length ∧ S.length < 1000000 ∧
    ∀ a' : Nat, a' ≤ S.length → S.drop a' = (textF e (S.drop a)).2.2 → Q (.str (textF e (S.drop a)).1) (mrd S a' (textF e (S.drop a)).2.1)
  | _, _ => False
theorem dtext_c : Meets Tryz.prog [] 48 dtextS := by
  refine meets_of Γok Tryz.func48 rfl ?_
  intro args H Q h
  unfold dtextS at h
  split at h
  case h_2 => exact h.elim
  rename_i S p e
  obtain ⟨a, rfl, ha, hS, h⟩ := h
  (refine sx_sound Γok _ ?_; conv => whnf)
  (repeat (first | (exact Out.same; conv => whnf) | (exact Out1.same; conv => whnf) | (refine QAnd.mk ?_ ?_; conv => whnf) | (apply QStepH.go; conv => whnf) | (refine Both.lit_true ?_; conv => whnf) | (refine Both.lit_false ?_; conv => whnf) | (apply QStep.go; conv => whnf) | (refine Need.au ?_; conv => whnf) | (refine ⟨_, rfl, ?_⟩; conv => whnf)))
  refine CallVC.auto mdoK_k ⟨a, rfl, ha, hS, .inr (.inr (.inl ⟨rfl, fun a' ha' hd => ?_⟩))⟩
  have h := h a' ha' hd
  (conv => whnf)
  (repeat (first | (exact Out.same; conv => whnf) | (exact Out1.same; conv => whnf) | (refine QAnd.mk ?_ ?_; conv => whnf) | (apply QStepH.go; conv => whnf) | (refine Both.lit_true ?_; conv => whnf) | (refine Both.lit_false ?_; conv => whnf) | (apply QStep.go; conv => whnf) | (refine Need.au ?_; conv => whnf) | (refine ⟨_, rfl, ?_⟩; conv => whnf)))
  refine ⟨_, _, WeakV.auto ?_, h⟩
  (repeat' ((conv => whnf); first | exact True.intro | (refine And.intro ?_ ?_)))
  all_goals first | rfl | exact .eq rfl
theorem dtext_k : Contract Tryz.prog [] 48 dtextS := ⟨⟨⟨_, rfl, rfl, rfl⟩⟩, dtext_c⟩
def dpathF : Nat → Int → Bs → List Bs → List Bs × Int × Bs
  | 0, e, s, acc => (acc, e, s)
  | n + 1, e, s, acc => dpathF n (rdE e 32 s) (rdS e 32 s) (acc ++ [rdT e 32 s])
def dleafF (e : Int) (s : Bs) : Lf × Int × Bs :=
  let A := numF e s
  let B := numF A.2.1 A.2.2
  let K := textF B.2.1 B.2.2
  let V := textF K.2.1 K.2.2
  let N := byteF V.2.1 V.2.2
  let P := dpathF (min N.1 17) N.2.1 N.2.2 []
  (⟨(A.1 : Int), (B.1 : Int), K.1, V.1, P.1⟩, P.2.1, P.2.2)
def dleavesF : Nat → Int → Bs → List Lf → List Lf × Int × Bs
  | 0, e, s, acc => (acc, e, s)
  | n + 1, e, s, acc => dleavesF n (dleafF e s).2.1 (dleafF e s).2.2 (acc ++ [(dleafF e s).1])
theorem dpath_back : ∀ (p : List Bs) (acc : List Bs) (s1 : Bs), (∀ d ∈ p, d.length = 32) → dpathF p.length 0 (p.flatten ++ s1) acc = (acc ++ p, 0, s1)
  | [], acc, s1, _ => by rw [List.append_nil]; rfl
  | d :: p, acc, s1, hd => by
    have h := (raw_iff9 (e := 0) (n := 32) (s := (d :: p).flatten ++ s1) (t := d) (s1 := p.flatten ++ s1)).2 ⟨rfl, hd d (List.mem_cons_self ..), by rw [List.flatten_cons, List.append_assoc]⟩
    obtain ⟨a, b⟩ := Prod.mk.inj h
    obtain ⟨b, c⟩ := Prod.mk.inj b
    have a : rdT 0 32 ((d :: p).flatten ++ s1) = d := a
    have b : rdE 0 32 ((d :: p).flatten ++ s1) = 0 := b
    have c : rdS 0 32 ((d :: p).flatten ++ s1) = p.flatten ++ s1 := c
    rw [List.length_cons, dpathF, a, b, c, dpath_back p _ s1 (fun x hx => hd x (List.mem_cons_of_mem _ hx)), List.append_assoc]
    rfl
theorem dnum_back {v : Nat} {s1 : Bs} (h : v ≤ 4096) : numF 0 (beb v 8 ++ s1) = (v, 0, s1) := by
  have := (num_iff (k := 8) (e := 0) (s := beb v 8 ++ s1) (s1 := s1) (v := v) (by omega)).2 ⟨rfl, Nat.lt_of_le_of_lt h (by decide), rfl⟩
  obtain ⟨a, b⟩ := Prod.mk.inj this
  obtain ⟨b, c⟩ := Prod.mk.inj b
  have a : rdV 0 8 (beb v 8 ++ s1) = v := a
  have b : rdE 0 8 (beb v 8 ++ s1) = 0 := b
  have c : rdS 0 8 (beb v 8 ++ s1) = s1 := c
  unfold numF
  rw [a, b, c, Nat.mod_eq_of_lt (by omega)]
theorem dleaf_back {x : Lf} {s1 : Bs} (hx : okLf x) : dleafF 0 (putL x ++ s1) = (x, 0, s1) := by
  have hi := hx.i
  have hc := hx.c
  have ek := hx.k
  have ev := hx.v
  have ep := hx.p
  have h0 : putL x ++ s1 = beb x.i.toNat 8 ++ (beb x.c.toNat 8 ++ (beb x.k.length 2 ++ x.k ++ (beb x.v.length 2 ++ x.v ++ (beb x.p.length 1 ++ (x.p.flatten ++ s1))))) := by unfold putL headL; simp only [List.append_assoc]
  unfold dleafF
  rw [h0, dnum_back (by omega)]
  dsimp only
  rw [dnum_back (by omega)]
  dsimp only
  rw [(text_iff (t := x.k) (s1 := beb x.v.length 2 ++ x.v ++ (beb x.p.length 1 ++ (x.p.flatten ++ s1)))).2 ⟨rfl, by omega, rfl⟩]
  dsimp only
  rw [(text_iff (t := x.v) (s1 := beb x.p.length 1 ++ (x.p.flatten ++ s1))).2 ⟨rfl, by omega, rfl⟩]
  dsimp only
  rw [(byte_iff (v := x.p.length) (s1 := x.p.flatten ++ s1)).2 ⟨rfl, by omega, rfl⟩]
  dsimp only
  rw [Nat.min_eq_left (by omega), dpath_back x.p [] s1 hx.d, List.nil_append]
  have h1 : ((x.i.toNat : Nat) : Int) = x.i := Int.toNat_of_nonneg hi.1
  have h2 : ((x.c.toNat : Nat) : Int) = x.c := Int.toNat_of_nonneg hc.1
  rw [h1, h2]
theorem dleaves_back : ∀ (L : List Lf) (acc : List Lf) (s1 : Bs), (∀ x ∈ L, okLf x) → dleavesF L.length 0 ((L.map putL).flatten ++ s1) acc = (acc ++ L, 0, s1)
  | [], acc, s1, _ => by rw [List.append_nil]; rfl
  | x :: L, acc, s1, h => by
    rw [List.length_cons, dleavesF, List.map_cons, List.flatten_cons, List.append_assoc, dleaf_back (h x (List.mem_cons_self ..))]
    rw [dleaves_back L _ s1 (fun y hy => h y (List.mem_cons_of_mem _ hy)), List.append_assoc]
    rfl
open Classical in
theorem dparse_law {s : Bs} {A B : Nat × Int × Bs} {R : List Lf × Int × Bs} (hA : byteF 0 s = A) (hB : byteF A.2.1 A.2.2 = B) (hR : dleavesF (min B.1 3) B.2.1 B.2.2 [] = R) :
    parseV s = if bytesV (decide ((A.1 : Int) = 2)) R.1 = (s, 0) then ((decide ((A.1 : Int) = 2), R.1), 0) else ((false, []), 5) := by
  by_cases h : ∃ r : Bool × List Lf, fitsX r.2 ∧ bytesX r.1 r.2 = s
  · obtain ⟨⟨a, L⟩, hf, hr⟩ := h
    obtain ⟨q1, q2⟩ := parse_parts hA hB hf hr
    have l1 := hf.1
    have l1 : L.length ≤ 2 := l1
    subst q2
    have hback := dleaves_back L [] [] hf.2
    rw [List.append_nil, List.nil_append] at hback
    have hR2 : dleavesF (min L.length 3) 0 ((L.map putL).flatten) [] = R := hR
    rw [Nat.min_eq_left (by omega), hback] at hR2
    subst hR2
    have hd : decide ((A.1 : Int) = 2) = a := by
      have q1 : A.1 = if a then 2 else 1 := q1
      rw [q1]
      cases a <;> rfl
    rw [hd, if_pos (by unfold bytesV; rw [if_pos hf, hr]), parseV_yes hf hr]
  · rw [parseV_no h, if_neg ?_]
    intro q
    unfold bytesV at q
    split at q
    · rename_i hf
      exact h ⟨(_, _), hf, (Prod.mk.inj q).1⟩
    · cases (Prod.mk.inj q).2
end Go.LX
end
section
set_option maxRecDepth 100000
set_option maxHeartbeats 2000000
set_option autoImplicit false
set_option linter.unusedVariables false
set_option linter.unusedSimpArgs false
namespace Go.LX
open Go.Proofs

open Classical in
theorem rparse_c : Meets Tryz.prog [] 21 pparseS := by
  refine meets_of Γok Tryz.func21 rfl ?_
  intro args H Q h
  unfold pparseS at h
  split at h
  case h_2 => exact h.elim
  rename_i S
  obtain ⟨hS, h⟩ := h
  have hd0 : S.drop 0 = S := List.drop_zero
  have hA0 := rdV_lt1 0 S
  obtain ⟨A, hA⟩ : ∃ A, byteF 0 S = A := ⟨_, rfl⟩
  have hA1 : A.1 < 256 := by rw [← hA]; exact hA0
  have hB0 := rdV_lt1 A.2.1 A.2.2
  obtain ⟨B, hB⟩ : ∃ B, byteF A.2.1 A.2.2 = B := ⟨_, rfl⟩
  have hB1 : B.1 < 256 := by rw [← hB]; exact hB0
  obtain ⟨R, hR⟩ : ∃ R, dleavesF (min B.1 3) B.2.1 B.2.2 [] = R := ⟨_, rfl⟩
  have hlaw := dparse_law hA hB hR
  (refine sx_sound Γok _ ?_; conv => whnf)
  (repeat (first | (exact Out.same; conv => whnf) | (exact Out1.same; conv => whnf) | (refine QAnd.mk ?_ ?_; conv => whnf) | (apply QStepH.go; conv => whnf) | (refine Both.lit_true ?_; conv => whnf) | (refine Both.lit_false ?_; conv => whnf) | (apply QStep.go; conv => whnf) | (refine Need.au ?_; conv => whnf) | (refine ⟨_, rfl, ?_⟩; conv => whnf)))
  refine CallVC.auto dbyte_k ⟨0, rfl, Nat.zero_le _, hS, fun a1 ha1 hd1 => ?_⟩
  rw [hd0, hA] at hd1 ⊢
  (conv => whnf)
  (repeat (first | (exact Out.same; conv => whnf) | (exact Out1.same; conv => whnf) | (refine QAnd.mk ?_ ?_; conv => whnf) | (apply QStepH.go; conv => whnf) | (refine Both.lit_true ?_; conv => whnf) | (refine Both.lit_false ?_; conv => whnf) | (apply QStep.go; conv => whnf) | (refine Need.au ?_; conv => whnf) | (refine ⟨_, rfl, ?_⟩; conv => whnf)))
  refine CallVC.auto dbyte_k ⟨a1, rfl, ha1, hS, fun a2 ha2 hd2 => ?_⟩
  rw [hd1, hB] at hd2 ⊢
  (conv => whnf)
  (repeat (first | (exact Out.same; conv => whnf) | (exact Out1.same; conv => whnf) | (refine QAnd.mk ?_ ?_; conv => whnf) | (apply QStepH.go; conv => whnf) | (refine Both.lit_true ?_; conv => whnf) | (refine Both.lit_false ?_; conv => whnf) | (apply QStep.go; conv => whnf) | (refine Need.au ?_; conv => whnf) | (refine ⟨_, rfl, ?_⟩; conv => whnf)))
  refine LoopVC.postWeak ?_
  refine loop_rule (fun x : Nat × Int × Nat × List Lf => match x with | (i, e, a, acc) => ⟨[.str S, .any, .ptr 0 0, .any, .ptr 1 0, .ptr 2 0, .int .i64 (B.1 : Int), .int .i64 (i : Int), .any, .any, .any, .any, .any, .any, .any, .any, .any, .any, .any, .any, .any, .any, .any, .any, .any, .any, .any, .any, .any, .any, .any, .any, .any, .any, .any, .any, .any, .any, .any, .any, .any, .any, .any, .any, .any, .any, .any, .any, .any, .any, .any, .any, .any, .any, .any, .any, .any, .any, .any, .any, .any, .any, .any, .any, .any, .any, .any, .any, .any, .any, .any, .any, .any, .any, .any, .any, .any, .any, .any, .any, .any, .any, .any, .any, .any, .any, .any, .any, .any], [.cells [.bool false, .nilsl] 42, .cells [.str S, .int .i64 (a : Int), .int .i64 e] 93, .cells [.bool (decide ((A.1 : Int) = 2)), .own 3] 42, .own 50 5 acc.length (flL acc) true]⟩) (fun x => match x with | (i, e, a, acc) => dleavesF (min B.1 3 - i) e (S.drop a) acc = R ∧ a ≤ S.length ∧ acc.length = i ∧ i ≤ min B.1 3 ∧ ∀ x ∈ acc, x.p.length ≤ 17) (fun x => match x with | (i, e, a, acc) => 3 - i) (0, B.2.1, a2, []) ⟨by rw [hd2]; exact hR, ha2, rfl, Nat.zero_le _, fun x hx => by cases hx⟩ ((Weak.ownNil 2 1 50 5 rfl rfl).trans (Weak.auto ?_)) ?_
  · (repeat' ((conv => whnf); first | exact True.intro | (refine And.intro ?_ ?_)))
    all_goals first | rfl | exact .eq rfl
  rintro ⟨i, e, a, acc⟩ ⟨hI, ha, hai, hiB, hp⟩
  have e0e : True := trivial
  (refine sx_sound Γok _ ?_; conv => whnf)
  (repeat (first | (exact Out.same; conv => whnf) | (exact Out1.same; conv => whnf) | (refine QAnd.mk ?_ ?_; conv => whnf) | (apply QStepH.go; conv => whnf) | (refine Both.lit_true ?_; conv => whnf) | (refine Both.lit_false ?_; conv => whnf) | (apply QStep.go; conv => whnf) | (refine Need.au ?_; conv => whnf) | (refine ⟨_, rfl, ?_⟩; conv => whnf)))
  refine Both.dec (fun h1 => ?_) (fun h1 => ?_)
  case refine_2 =>
    have hend : min B.1 3 - i = 0 := by omega
    rw [hend, dleavesF] at hI
    subst hI
    have hL6 : acc.length ≤ 1000000 := by omega
    have hpm : ∀ x ∈ acc, x.p.length ≤ 9223372036854775807 := fun x hx => Nat.le_trans (hp x hx) (by decide)
    (conv => whnf)
    (repeat (first | (exact Out.same; conv => whnf) | (exact Out1.same; conv => whnf) | (refine QAnd.mk ?_ ?_; conv => whnf) | (apply QStepH.go; conv => whnf) | (refine Both.lit_true ?_; conv => whnf) | (refine Both.lit_false ?_; conv => whnf) | (apply QStep.go; conv => whnf) | (refine Need.au ?_; conv => whnf) | (refine ⟨_, rfl, ?_⟩; conv => whnf)))
    refine ⟨_, Weak.pub 3 2 rfl rfl, ?_⟩
    (conv => whnf)
    (repeat (first | (exact Out.same; conv => whnf) | (exact Out1.same; conv => whnf) | (refine QAnd.mk ?_ ?_; conv => whnf) | (apply QStepH.go; conv => whnf) | (refine Both.lit_true ?_; conv => whnf) | (refine Both.lit_false ?_; conv => whnf) | (apply QStep.go; conv => whnf) | (refine Need.au ?_; conv => whnf) | (refine ⟨_, rfl, ?_⟩; conv => whnf)))
    refine CallVC.auto rbytes9_k ⟨acc, rfl, rfl, hL6, hpm, fun t f htf => ?_⟩
    have htf : (t, f) = bytesV (decide ((A.1 : Int) = 2)) acc := htf
    have hlaw : parseV S = if (t, f) = (S, (0 : Int)) then ((decide ((A.1 : Int) = 2), acc), 0) else ((false, []), 5) := by rw [htf]; exact hlaw
    by_cases hf0 : f = 0
    · by_cases hts : t = S
      · rw [if_pos (by rw [hf0, hts])] at hlaw
        have h := h _ _ _ hlaw
        have c1 : (!decide (f = 0)) = false := by rw [decide_eq_true hf0]; rfl
        have c2 : (!decide (t = S)) = false := by rw [decide_eq_true hts]; rfl
        (conv => whnf)
        (repeat (first | (refine Both.of_false c1 ?_; conv => whnf) | (refine Both.of_false c2 ?_; conv => whnf) | (refine Need.mk ⟨rfl, rfl, far2⟩ ?_; conv => whnf) | (exact Out.same; conv => whnf) | (exact Out1.same; conv => whnf) | (refine QAnd.mk ?_ ?_; conv => whnf) | (apply QStepH.go; conv => whnf) | (refine Both.lit_true ?_; conv => whnf) | (refine Both.lit_false ?_; conv => whnf) | (apply QStep.go; conv => whnf) | (refine Need.au ?_; conv => whnf) | (refine ⟨_, rfl, ?_⟩; conv => whnf)))
        exact ⟨_, _, WeakV.drop rfl, h⟩
      · rw [if_neg (fun q => hts (Prod.mk.inj q).1)] at hlaw
        have h := h _ _ _ hlaw
        have c1 : (!decide (f = 0)) = false := by rw [decide_eq_true hf0]; rfl
        have c2 : (!decide (t = S)) = true := by rw [decide_eq_false hts]; rfl
        (conv => whnf)
        (repeat (first | (refine Both.of_false c1 ?_; conv => whnf) | (refine Both.of_true c2 ?_; conv => whnf) | (exact Out.same; conv => whnf) | (exact Out1.same; conv => whnf) | (refine QAnd.mk ?_ ?_; conv => whnf) | (apply QStepH.go; conv => whnf) | (refine Both.lit_true ?_; conv => whnf) | (refine Both.lit_false ?_; conv => whnf) | (apply QStep.go; conv => whnf) | (refine Need.au ?_; conv => whnf) | (refine ⟨_, rfl, ?_⟩; conv => whnf)))
        exact ⟨_, _, (WeakV.drop rfl).trans (WeakV.val fun E w v => vr_nil2 5), h⟩
    · rw [if_neg (fun q => hf0 (Prod.mk.inj q).2)] at hlaw
      have h := h _ _ _ hlaw
      have c1 : (!decide (f = 0)) = true := by rw [decide_eq_false hf0]; rfl
      (conv => whnf)
      (repeat (first | (refine Both.of_true c1 ?_; conv => whnf) | (exact Out.same; conv => whnf) | (exact Out1.same; conv => whnf) | (refine QAnd.mk ?_ ?_; conv => whnf) | (apply QStepH.go; conv => whnf) | (refine Both.lit_true ?_; conv => whnf) | (refine Both.lit_false ?_; conv => whnf) | (apply QStep.go; conv => whnf) | (refine Need.au ?_; conv => whnf) | (refine ⟨_, rfl, ?_⟩; conv => whnf)))
      exact ⟨_, _, (WeakV.drop rfl).trans (WeakV.val fun E w v => vr_nil2 5), h⟩
  (conv => whnf)
  (repeat (first | (exact Out.same; conv => whnf) | (exact Out1.same; conv => whnf) | (refine QAnd.mk ?_ ?_; conv => whnf) | (apply QStepH.go; conv => whnf) | (refine Both.lit_true ?_; conv => whnf) | (refine Both.lit_false ?_; conv => whnf) | (apply QStep.go; conv => whnf) | (refine Need.au ?_; conv => whnf) | (refine ⟨_, rfl, ?_⟩; conv => whnf)))
  refine Both.dec (fun h2 => ?_) (fun h2 => ?_)
  case refine_2 =>
    have hend : min B.1 3 - i = 0 := by omega
    rw [hend, dleavesF] at hI
    subst hI
    have hL6 : acc.length ≤ 1000000 := by omega
    have hpm : ∀ x ∈ acc, x.p.length ≤ 9223372036854775807 := fun x hx => Nat.le_trans (hp x hx) (by decide)
    (conv => whnf)
    (repeat (first | (exact Out.same; conv => whnf) | (exact Out1.same; conv => whnf) | (refine QAnd.mk ?_ ?_; conv => whnf) | (apply QStepH.go; conv => whnf) | (refine Both.lit_true ?_; conv => whnf) | (refine Both.lit_false ?_; conv => whnf) | (apply QStep.go; conv => whnf) | (refine Need.au ?_; conv => whnf) | (refine ⟨_, rfl, ?_⟩; conv => whnf)))
    refine ⟨_, Weak.pub 3 2 rfl rfl, ?_⟩
    (conv => whnf)
    (repeat (first | (exact Out.same; conv => whnf) | (exact Out1.same; conv => whnf) | (refine QAnd.mk ?_ ?_; conv => whnf) | (apply QStepH.go; conv => whnf) | (refine Both.lit_true ?_; conv => whnf) | (refine Both.lit_false ?_; conv => whnf) | (apply QStep.go; conv => whnf) | (refine Need.au ?_; conv => whnf) | (refine ⟨_, rfl, ?_⟩; conv => whnf)))
    refine CallVC.auto rbytes9_k ⟨acc, rfl, rfl, hL6, hpm, fun t f htf => ?_⟩
    have htf : (t, f) = bytesV (decide ((A.1 : Int) = 2)) acc := htf
    have hlaw : parseV S = if (t, f) = (S, (0 : Int)) then ((decide ((A.1 : Int) = 2), acc), 0) else ((false, []), 5) := by rw [htf]; exact hlaw
    by_cases hf0 : f = 0
    · by_cases hts : t = S
      · rw [if_pos (by rw [hf0, hts])] at hlaw
        have h := h _ _ _ hlaw
        have c1 : (!decide (f = 0)) = false := by rw [decide_eq_true hf0]; rfl
        have c2 : (!decide (t = S)) = false := by rw [decide_eq_true hts]; rfl
        (conv => whnf)
        (repeat (first | (refine Both.of_false c1 ?_; conv => whnf) | (refine Both.of_false c2 ?_; conv => whnf) | (refine Need.mk ⟨rfl, rfl, far2⟩ ?_; conv => whnf) | (exact Out.same; conv => whnf) | (exact Out1.same; conv => whnf) | (refine QAnd.mk ?_ ?_; conv => whnf) | (apply QStepH.go; conv => whnf) | (refine Both.lit_true ?_; conv => whnf) | (refine Both.lit_false ?_; conv => whnf) | (apply QStep.go; conv => whnf) | (refine Need.au ?_; conv => whnf) | (refine ⟨_, rfl, ?_⟩; conv => whnf)))
        exact ⟨_, _, WeakV.drop rfl, h⟩
      · rw [if_neg (fun q => hts (Prod.mk.inj q).1)] at hlaw
        have h := h _ _ _ hlaw
        have c1 : (!decide (f = 0)) = false := by rw [decide_eq_true hf0]; rfl
        have c2 : (!decide (t = S)) = true := by rw [decide_eq_false hts]; rfl
        (conv => whnf)
        (repeat (first | (refine Both.of_false c1 ?_; conv => whnf) | (refine Both.of_true c2 ?_; conv => whnf) | (exact Out.same; conv => whnf) | (exact Out1.same; conv => whnf) | (refine QAnd.mk ?_ ?_; conv => whnf) | (apply QStepH.go; conv => whnf) | (refine Both.lit_true ?_; conv => whnf) | (refine Both.lit_false ?_; conv => whnf) | (apply QStep.go; conv => whnf) | (refine Need.au ?_; conv => whnf) | (refine ⟨_, rfl, ?_⟩; conv => whnf)))
        exact ⟨_, _, (WeakV.drop rfl).trans (WeakV.val fun E w v => vr_nil2 5), h⟩
    · rw [if_neg (fun q => hf0 (Prod.mk.inj q).2)] at hlaw
      have h := h _ _ _ hlaw
      have c1 : (!decide (f = 0)) = true := by rw [decide_eq_false hf0]; rfl
      (conv => whnf)
      (repeat (first | (refine Both.of_true c1 ?_; conv => whnf) | (exact Out.same; conv => whnf) | (exact Out1.same; conv => whnf) | (refine QAnd.mk ?_ ?_; conv => whnf) | (apply QStepH.go; conv => whnf) | (refine Both.lit_true ?_; conv => whnf) | (refine Both.lit_false ?_; conv => whnf) | (apply QStep.go; conv => whnf) | (refine Need.au ?_; conv => whnf) | (refine ⟨_, rfl, ?_⟩; conv => whnf)))
      exact ⟨_, _, (WeakV.drop rfl).trans (WeakV.val fun E w v => vr_nil2 5), h⟩
  have hi1 : IntKind.i64.wrap ((i : Int) + 1) = ((i + 1 : Nat) : Int) := by rw [wrap_i64 (by omega) (by omega)]; rfl
  have hcap : (acc.length + 1) * ti50.bytes ≤ 140737488355328 := by
    show (acc.length + 1) * 72 ≤ _
    omega
  rw [show min B.1 3 - i = (min B.1 3 - (i + 1)) + 1 by omega, dleavesF] at hI
  have hD0 : dleafF e (S.drop a) = dleafF e (S.drop a) := rfl
  obtain ⟨e0, he0⟩ : ∃ e0, e = e0 := ⟨_, rfl⟩
  subst he0
  have hD : dleafF e (S.drop a) = dleafF e (S.drop a) := rfl
  conv at hD => rhs; unfold dleafF
  obtain ⟨X1, hX1⟩ : ∃ X, numF e (S.drop a) = X := ⟨_, rfl⟩
  rw [hX1] at hD
  dsimp only at hD
  obtain ⟨X2, hX2⟩ : ∃ X, numF X1.2.1 X1.2.2 = X := ⟨_, rfl⟩
  rw [hX2] at hD
  obtain ⟨X3, hX3⟩ : ∃ X, textF X2.2.1 X2.2.2 = X := ⟨_, rfl⟩
  rw [hX3] at hD
  obtain ⟨X4, hX4⟩ : ∃ X, textF X3.2.1 X3.2.2 = X := ⟨_, rfl⟩
  rw [hX4] at hD
  have hN0 := rdV_lt1 X4.2.1 X4.2.2
  obtain ⟨N, hN⟩ : ∃ N, byteF X4.2.1 X4.2.2 = N := ⟨_, rfl⟩
  have hN1 : N.1 < 256 := by rw [← hN]; exact hN0
  rw [hN] at hD
  obtain ⟨P, hP⟩ : ∃ P, dpathF (min N.1 17) N.2.1 N.2.2 [] = P := ⟨_, rfl⟩
  rw [hP] at hD
  (conv => whnf)
  (repeat (first | (exact Out.same; conv => whnf) | (exact Out1.same; conv => whnf) | (refine QAnd.mk ?_ ?_; conv => whnf) | (apply QStepH.go; conv => whnf) | (refine Both.lit_true ?_; conv => whnf) | (refine Both.lit_false ?_; conv => whnf) | (apply QStep.go; conv => whnf) | (refine Need.au ?_; conv => whnf) | (refine ⟨_, rfl, ?_⟩; conv => whnf)))
  refine CallVC.auto dnum_k ⟨a, rfl, ha, hS, fun b1 hb1 hr1 => ?_⟩
  rw [hX1] at hr1 ⊢
  (conv => whnf)
  (repeat (first | (exact Out.same; conv => whnf) | (exact Out1.same; conv => whnf) | (refine QAnd.mk ?_ ?_; conv => whnf) | (apply QStepH.go; conv => whnf) | (refine Both.lit_true ?_; conv => whnf) | (refine Both.lit_false ?_; conv => whnf) | (apply QStep.go; conv => whnf) | (refine Need.au ?_; conv => whnf) | (refine ⟨_, rfl, ?_⟩; conv => whnf)))
  refine CallVC.auto dnum_k ⟨b1, rfl, hb1, hS, fun b2 hb2 hr2 => ?_⟩
  rw [hr1, hX2] at hr2 ⊢
  (conv => whnf)
  (repeat (first | (exact Out.same; conv => whnf) | (exact Out1.same; conv => whnf) | (refine QAnd.mk ?_ ?_; conv => whnf) | (apply QStepH.go; conv => whnf) | (refine Both.lit_true ?_; conv => whnf) | (refine Both.lit_false ?_; conv => whnf) | (apply QStep.go; conv => whnf) | (refine Need.au ?_; conv => whnf) | (refine ⟨_, rfl, ?_⟩; conv => whnf)))
  refine CallVC.auto dtext_k ⟨b2, rfl, hb2, hS, fun b3 hb3 hr3 => ?_⟩
  rw [hr2, hX3] at hr3 ⊢
  (conv => whnf)
  (repeat (first | (exact Out.same; conv => whnf) | (exact Out1.same; conv => whnf) | (refine QAnd.mk ?_ ?_; conv => whnf) | (apply QStepH.go; conv => whnf) | (refine Both.lit_true ?_; conv => whnf) | (refine Both.lit_false ?_; conv => whnf) | (apply QStep.go; conv => whnf) | (refine Need.au ?_; conv => whnf) | (refine ⟨_, rfl, ?_⟩; conv => whnf)))
  refine CallVC.auto dtext_k ⟨b3, rfl, hb3, hS, fun b4 hb4 hr4 => ?_⟩
  rw [hr3, hX4] at hr4 ⊢
  (conv => whnf)
  (repeat (first | (exact Out.same; conv => whnf) | (exact Out1.same; conv => whnf) | (refine QAnd.mk ?_ ?_; conv => whnf) | (apply QStepH.go; conv => whnf) | (refine Both.lit_true ?_; conv => whnf) | (refine Both.lit_false ?_; conv => whnf) | (apply QStep.go; conv => whnf) | (refine Need.au ?_; conv => whnf) | (refine ⟨_, rfl, ?_⟩; conv => whnf)))
  refine CallVC.auto dbyte_k ⟨b4, rfl, hb4, hS, fun b5 hb5 hr5 => ?_⟩
  rw [hr4, hN] at hr5 ⊢
  (conv => whnf)
  (repeat (first | (exact Out.same; conv => whnf) | (exact Out1.same; conv => whnf) | (refine QAnd.mk ?_ ?_; conv => whnf) | (apply QStepH.go; conv => whnf) | (refine Both.lit_true ?_; conv => whnf) | (refine Both.lit_false ?_; conv => whnf) | (apply QStep.go; conv => whnf) | (refine Need.au ?_; conv => whnf) | (refine ⟨_, rfl, ?_⟩; conv => whnf)))
  have ha0 := ha
  obtain ⟨e0, he0⟩ : ∃ e0, e = e0 := ⟨_, rfl⟩
  refine LoopVC.postWeak ?_
  refine loop_rule (fun x : Nat × Int × Nat × List Bs => match x with | (m, e, b, q) => ⟨[.str S, .any, .ptr 0 0, .any, .ptr 1 0, .ptr 2 0, .int .i64 (B.1 : Int), .int .i64 (i : Int), .ptr 4 0, .int .i64 (N.1 : Int), .int .i64 (m : Int), .any, .any, .any, .any, .any, .any, .any, .any, .any, .any, .any, .any, .any, .any, .any, .any, .any, .any, .any, .any, .any, .any, .any, .any, .any, .any, .any, .any, .any, .any, .any, .any, .any, .any, .any, .any, .any, .any, .any, .any, .any, .any, .any, .any, .any, .any, .any, .any, .any, .any, .any, .any, .any, .any, .any, .any, .any, .any, .any, .any, .any, .any, .any, .any, .any, .any, .any, .any, .any, .any, .any, .any, .any, .any, .any, .any, .any, .any], [.cells [.bool false, .nilsl] 42, .cells [.str S, .int .i64 (b : Int), .int .i64 e] 93, .cells [.bool (decide ((A.1 : Int) = 2)), .own 3] 42, .own 50 5 acc.length (flL acc) true, .cells [.int .i64 (X1.1 : Int), .int .i64 (X2.1 : Int), .str X3.1, .str X4.1, .own 5] 50, .own 9 1 q.length (strs q) true]⟩) (fun x => match x with | (m, e, b, q) => dpathF (min N.1 17 - m) e (S.drop b) q = P ∧ b ≤ S.length ∧ q.length = m ∧ m ≤ min N.1 17) (fun x => match x with | (m, e, b, q) => 17 - m) (0, N.2.1, b5, []) ⟨by rw [hr5]; exact hP, hb5, rfl, Nat.zero_le _⟩ ((Weak.ownNil 4 4 9 1 rfl rfl).trans (Weak.auto ?_)) ?_
  · (repeat' ((conv => whnf); first | exact True.intro | (refine And.intro ?_ ?_)))
    all_goals first | rfl | exact .eq rfl
  subst he0
  obtain ⟨e0, he0⟩ : ∃ e0, e = e0 := ⟨_, rfl⟩
  rw [he0] at hI hD
  rintro ⟨m, e, b, q⟩ ⟨hJ, hb, hqm, hmN⟩
  (refine sx_sound Γok _ ?_; conv => whnf)
  (repeat (first | (exact Out.same; conv => whnf) | (exact Out1.same; conv => whnf) | (refine QAnd.mk ?_ ?_; conv => whnf) | (apply QStepH.go; conv => whnf) | (refine Both.lit_true ?_; conv => whnf) | (refine Both.lit_false ?_; conv => whnf) | (apply QStep.go; conv => whnf) | (refine Need.au ?_; conv => whnf) | (refine ⟨_, rfl, ?_⟩; conv => whnf)))
  refine Both.dec (fun g1 => ?_) (fun g1 => ?_)
  case refine_2 =>
    have hend2 : min N.1 17 - m = 0 := by omega
    rw [hend2, dpathF] at hJ
    subst hJ
    have hDe : dleafF e0 (S.drop a) = (⟨(X1.1 : Int), (X2.1 : Int), X3.1, X4.1, q⟩, e, S.drop b) := by rw [hD]
    rw [hDe] at hI
    dsimp only at hI
    have hB2 : (acc ++ [(⟨(X1.1 : Int), (X2.1 : Int), X3.1, X4.1, q⟩ : Lf)]).length = i + 1 := by rw [List.length_append, List.length_singleton, hai]
    have hC2 : i + 1 ≤ min B.1 3 := by omega
    have hD2 : 3 - (i + 1) < 3 - i := by omega
    have hp2 : ∀ x ∈ acc ++ [(⟨(X1.1 : Int), (X2.1 : Int), X3.1, X4.1, q⟩ : Lf)], x.p.length ≤ 17 := fun x hx => by
      rcases List.mem_append.1 hx with hx | hx
      · exact hp x hx
      · rw [List.mem_singleton.1 hx]
        show q.length ≤ 17
        omega
    have end1 : LObj.own 50 5 (acc.length + 1) (flL acc ++ [.int .i64 (X1.1 : Int), .int .i64 (X2.1 : Int), .str X3.1, .str X4.1, .sl 1 q.length (strs q) false]) true = .own 50 5 (acc ++ [(⟨(X1.1 : Int), (X2.1 : Int), X3.1, X4.1, q⟩ : Lf)]).length (flL (acc ++ [(⟨(X1.1 : Int), (X2.1 : Int), X3.1, X4.1, q⟩ : Lf)])) true := by
      rw [flL_app, flL_one, List.length_append]
      rfl
    (conv => whnf)
    (repeat (first | (exact Out.same; conv => whnf) | (exact Out1.same; conv => whnf) | (refine QAnd.mk ?_ ?_; conv => whnf) | (apply QStepH.go; conv => whnf) | (refine Both.lit_true ?_; conv => whnf) | (refine Both.lit_false ?_; conv => whnf) | (apply QStep.go; conv => whnf) | (refine Need.au ?_; conv => whnf) | (refine ⟨_, rfl, ?_⟩; conv => whnf)))
    refine ⟨_, Weak.pub 5 4 rfl rfl, ?_⟩
    (conv => whnf)
    (repeat (first | (refine Need.mk hcap ?_; conv => whnf) | (exact Out.same; conv => whnf) | (exact Out1.same; conv => whnf) | (refine QAnd.mk ?_ ?_; conv => whnf) | (apply QStepH.go; conv => whnf) | (refine Both.lit_true ?_; conv => whnf) | (refine Both.lit_false ?_; conv => whnf) | (apply QStep.go; conv => whnf) | (refine Need.au ?_; conv => whnf) | (refine ⟨_, rfl, ?_⟩; conv => whnf)))
    refine ⟨(i + 1, e, b, acc ++ [(⟨(X1.1 : Int), (X2.1 : Int), X3.1, X4.1, q⟩ : Lf)]), ⟨hI, hb, hB2, hC2, hp2⟩, hD2, Weak.auto ?_⟩
    (repeat' ((conv => whnf); first | exact True.intro | (refine And.intro ?_ ?_)))
    all_goals first | rfl | exact .eq rfl | exact congrArg (SV.int .i64) hi1 | exact end1 | exact .eq end1
  (conv => whnf)
  (repeat (first | (exact Out.same; conv => whnf) | (exact Out1.same; conv => whnf) | (refine QAnd.mk ?_ ?_; conv => whnf) | (apply QStepH.go; conv => whnf) | (refine Both.lit_true ?_; conv => whnf) | (refine Both.lit_false ?_; conv => whnf) | (apply QStep.go; conv => whnf) | (refine Need.au ?_; conv => whnf) | (refine ⟨_, rfl, ?_⟩; conv => whnf)))
  refine Both.dec (fun g2 => ?_) (fun g2 => ?_)
  case refine_2 =>
    have hend2 : min N.1 17 - m = 0 := by omega
    rw [hend2, dpathF] at hJ
    subst hJ
    have hDe : dleafF e0 (S.drop a) = (⟨(X1.1 : Int), (X2.1 : Int), X3.1, X4.1, q⟩, e, S.drop b) := by rw [hD]
    rw [hDe] at hI
    dsimp only at hI
    have hB2 : (acc ++ [(⟨(X1.1 : Int), (X2.1 : Int), X3.1, X4.1, q⟩ : Lf)]).length = i + 1 := by rw [List.length_append, List.length_singleton, hai]
    have hC2 : i + 1 ≤ min B.1 3 := by omega
    have hD2 : 3 - (i + 1) < 3 - i := by omega
    have hp2 : ∀ x ∈ acc ++ [(⟨(X1.1 : Int), (X2.1 : Int), X3.1, X4.1, q⟩ : Lf)], x.p.length ≤ 17 := fun x hx => by
      rcases List.mem_append.1 hx with hx | hx
      · exact hp x hx
      · rw [List.mem_singleton.1 hx]
        show q.length ≤ 17
        omega
    have end1 : LObj.own 50 5 (acc.length + 1) (flL acc ++ [.int .i64 (X1.1 : Int), .int .i64 (X2.1 : Int), .str X3.1, .str X4.1, .sl 1 q.length (strs q) false]) true = .own 50 5 (acc ++ [(⟨(X1.1 : Int), (X2.1 : Int), X3.1, X4.1, q⟩ : Lf)]).length (flL (acc ++ [(⟨(X1.1 : Int), (X2.1 : Int), X3.1, X4.1, q⟩ : Lf)])) true := by
      rw [flL_app, flL_one, List.length_append]
      rfl
    (conv => whnf)
    (repeat (first | (exact Out.same; conv => whnf) | (exact Out1.same; conv => whnf) | (refine QAnd.mk ?_ ?_; conv => whnf) | (apply QStepH.go; conv => whnf) | (refine Both.lit_true ?_; conv => whnf) | (refine Both.lit_false ?_; conv => whnf) | (apply QStep.go; conv => whnf) | (refine Need.au ?_; conv => whnf) | (refine ⟨_, rfl, ?_⟩; conv => whnf)))
    refine ⟨_, Weak.pub 5 4 rfl rfl, ?_⟩
    (conv => whnf)
    (repeat (first | (refine Need.mk hcap ?_; conv => whnf) | (exact Out.same; conv => whnf) | (exact Out1.same; conv => whnf) | (refine QAnd.mk ?_ ?_; conv => whnf) | (apply QStepH.go; conv => whnf) | (refine Both.lit_true ?_; conv => whnf) | (refine Both.lit_false ?_; conv => whnf) | (apply QStep.go; conv => whnf) | (refine Need.au ?_; conv => whnf) | (refine ⟨_, rfl, ?_⟩; conv => whnf)))
    refine ⟨(i + 1, e, b, acc ++ [(⟨(X1.1 : Int), (X2.1 : Int), X3.1, X4.1, q⟩ : Lf)]), ⟨hI, hb, hB2, hC2, hp2⟩, hD2, Weak.auto ?_⟩
    (repeat' ((conv => whnf); first | exact True.intro | (refine And.intro ?_ ?_)))
    all_goals first | rfl | exact .eq rfl | exact congrArg (SV.int .i64) hi1 | exact end1 | exact .eq end1
  have hm1 : IntKind.i64.wrap ((m : Int) + 1) = ((m + 1 : Nat) : Int) := by rw [wrap_i64 (by omega) (by omega)]; rfl
  have hcap2 : (q.length + 1) * ti9.bytes ≤ 140737488355328 := by
    show (q.length + 1) * 16 ≤ _
    omega
  rw [show min N.1 17 - m = (min N.1 17 - (m + 1)) + 1 by omega, dpathF] at hJ
  (conv => whnf)
  (repeat (first | (exact Out.same; conv => whnf) | (exact Out1.same; conv => whnf) | (refine QAnd.mk ?_ ?_; conv => whnf) | (apply QStepH.go; conv => whnf) | (refine Both.lit_true ?_; conv => whnf) | (refine Both.lit_false ?_; conv => whnf) | (apply QStep.go; conv => whnf) | (refine Need.au ?_; conv => whnf) | (refine ⟨_, rfl, ?_⟩; conv => whnf)))
  refine CallVC.auto mdoK_k ⟨b, rfl, hb, hS, .inr (.inr (.inr ⟨rfl, rfl, fun b' hb' hr' => ?_⟩))⟩
  rw [← hr'] at hJ
  have gA : (q ++ [rdT e 32 (S.drop b)]).length = m + 1 := by rw [List.length_append, List.length_singleton, hqm]
  have gB : m + 1 ≤ min N.1 17 := by omega
  have gC : 17 - (m + 1) < 17 - m := by omega
  have end3 : LObj.own 9 1 (q.length + 1) (strs q ++ [CV.str (rdT e 32 (S.drop b))]) true = .own 9 1 (q ++ [rdT e 32 (S.drop b)]).length (strs (q ++ [rdT e 32 (S.drop b)])) true := by
    rw [List.length_append, ← strs_app]
    rfl
  (conv => whnf)
  (repeat (first | (refine Need.mk hcap2 ?_; conv => whnf) | (exact Out.same; conv => whnf) | (exact Out1.same; conv => whnf) | (refine QAnd.mk ?_ ?_; conv => whnf) | (apply QStepH.go; conv => whnf) | (refine Both.lit_true ?_; conv => whnf) | (refine Both.lit_false ?_; conv => whnf) | (apply QStep.go; conv => whnf) | (refine Need.au ?_; conv => whnf) | (refine ⟨_, rfl, ?_⟩; conv => whnf)))
  refine ⟨(m + 1, rdE e 32 (S.drop b), b', q ++ [rdT e 32 (S.drop b)]), ⟨hJ, hb', gA, gB⟩, gC, Weak.auto ?_⟩
  (repeat' ((conv => whnf); first | exact True.intro | (refine And.intro ?_ ?_)))
  all_goals first | rfl | exact .eq rfl | exact congrArg (SV.int .i64) hm1 | exact end3 | exact .eq end3
theorem rparse_k : Contract Tryz.prog [] 21 pparseS := ⟨⟨⟨_, rfl, rfl, rfl⟩⟩, rparse_c⟩
end Go.LX
end
section
set_option maxRecDepth 100000
set_option maxHeartbeats 1000000
set_option autoImplicit false
set_option linter.unusedVariables false
set_option linter.unusedSimpArgs false
namespace Go.LX
open Go.Proofs Go.RowKit Go.ChangeShapes Go.WideShapes Go.ChangeAt
section
variable {H : Type} {enc : TypeId × Value → H} {W : World}
structure Lf.inR (x : Lf) : Prop where
  i : -9223372036854775808 ≤ x.i ∧ x.i ≤ 9223372036854775807
  c : -9223372036854775808 ≤ x.c ∧ x.c ≤ 9223372036854775807
  p : x.p.length ≤ 9223372036854775807
structure PrA where
  a : Bool
  L : List Lf
structure PrA.ok (r : PrA) : Prop where
  L : r.L.length ≤ 9223372036854775807
  p : ∀ x ∈ r.L, x.inR
end
end Go.LX
end
section
set_option maxRecDepth 100000
set_option maxHeartbeats 2000000
set_option autoImplicit false
set_option linter.unusedVariables false
set_option linter.unusedSimpArgs false
namespace Go.LX
open Go.Proofs

theorem parseV_cases (s : Bs) : (∃ a L, fitsX L ∧ bytesX a L = s ∧ parseV s = ((a, L), 0)) ∨ parseV s = ((false, []), 5) := by
  by_cases h : ∃ r : Bool × List Lf, fitsX r.2 ∧ bytesX r.1 r.2 = s
  · obtain ⟨⟨a, L⟩, hf, hr⟩ := h
    exact .inl ⟨a, L, hf, hr, parseV_yes hf hr⟩
  · exact .inr (parseV_no h)
theorem fits_sm {L : List Lf} (h : fitsX L) : L.length ≤ 1000000 ∧ L.length < 1000000 ∧ ∀ x ∈ L, x.p.length ≤ 9223372036854775807 := by
  have := h.1
  exact ⟨by omega, by omega, fun x hx => Nat.le_trans (h.2 x hx).p (by decide)⟩
end Go.LX
end
section
set_option maxRecDepth 100000
set_option maxHeartbeats 2000000
set_option autoImplicit false
set_option linter.unusedVariables false
set_option linter.unusedSimpArgs false
namespace Go.LX
open Go.Proofs

def goodC (root : Bs) (x : Lf) : Bool := (climbP (txLeaf (x.k, x.v)) x.i x.c x.p).2 && decide ((climbP (txLeaf (x.k, x.v)) x.i x.c x.p).1 = root)
def clb1S : Spec := fun args H Q => match args, H with
  | [.agg [.int .i64 i, .int .i64 c, .str k, .str v, .sl 1 n cs false], .ptr 0 0], [.cells [.str root] 9] => ∃ p : List Bs, cs = strs p ∧ n = p.length ∧ p.length < 1000000 ∧ k.length < 50000 ∧ v.length < 50000 ∧
      Q (.bool (!goodC root ⟨i, c, k, v, p⟩)) [.cells [.str root] 9]
  | _, _ => False
theorem clb1_c {y0 : CV} {cs0 : List CV} (hK : KAt y0 cs0) : Meets Tryz.prog [(0, y0 :: cs0)] 44 clb1S := by
  refine meets_of Γok Tryz.func44 rfl ?_
  intro args H Q h
  unfold clb1S at h
  split at h
  case h_2 => exact h.elim
  rename_i i c k v n cs root
  obtain ⟨p, rfl, rfl, hp, hk, hv, h⟩ := h
  unfold goodC at h
  dsimp only at h
  obtain ⟨X, hX⟩ : ∃ X, climbP (txLeaf (k, v)) i c p = X := ⟨_, rfl⟩
  rw [hX] at h
  (refine sx_sound Γok _ ?_; conv => whnf)
  (repeat (first | (exact Out.same; conv => whnf) | (exact Out1.same; conv => whnf) | (refine QAnd.mk ?_ ?_; conv => whnf) | (apply QStepH.go; conv => whnf) | (refine Both.lit_true ?_; conv => whnf) | (refine Both.lit_false ?_; conv => whnf) | (apply QStep.go; conv => whnf) | (refine Need.au ?_; conv => whnf) | (refine ⟨_, rfl, ?_⟩; conv => whnf)))
  refine CallVC.auto (climb_k hK) ⟨p, rfl, rfl, hp, hk, hv, ?_⟩
  rw [hX]
  cases hx2 : X.2 with
  | false =>
    rw [hx2] at h
    (conv => whnf)
    (repeat (first | (exact Out.same; conv => whnf) | (exact Out1.same; conv => whnf) | (refine QAnd.mk ?_ ?_; conv => whnf) | (apply QStepH.go; conv => whnf) | (refine Both.lit_true ?_; conv => whnf) | (refine Both.lit_false ?_; conv => whnf) | (apply QStep.go; conv => whnf) | (refine Need.au ?_; conv => whnf) | (refine ⟨_, rfl, ?_⟩; conv => whnf)))
    refine ⟨_, _, WeakV.auto ?_, h⟩
    (repeat' ((conv => whnf); first | exact True.intro | (refine And.intro ?_ ?_)))
    all_goals first | rfl | exact .eq rfl
  | true =>
    rw [hx2] at h
    have h : Q (.bool (!decide (X.1 = root))) [.cells [.str root] 9] := h
    (conv => whnf)
    (repeat (first | (exact Out.same; conv => whnf) | (exact Out1.same; conv => whnf) | (refine QAnd.mk ?_ ?_; conv => whnf) | (apply QStepH.go; conv => whnf) | (refine Both.lit_true ?_; conv => whnf) | (refine Both.lit_false ?_; conv => whnf) | (apply QStep.go; conv => whnf) | (refine Need.au ?_; conv => whnf) | (refine ⟨_, rfl, ?_⟩; conv => whnf)))
    refine ⟨_, _, WeakV.auto ?_, h⟩
    (repeat' ((conv => whnf); first | exact True.intro | (refine And.intro ?_ ?_)))
    all_goals first | rfl | exact .eq rfl
theorem clb1_k {y0 : CV} {cs0 : List CV} (hK : KAt y0 cs0) : Contract Tryz.prog [(0, y0 :: cs0)] 44 clb1S := ⟨⟨⟨_, rfl, rfl, rfl⟩⟩, clb1_c hK⟩
def idx3S : Spec := fun args H Q => match args, H with
  | [.sl 5 n cs f, .func (.func 44) [.ptr 0 0]], [.cells [.str root] 9] => ∃ L : List Lf, cs = flL L ∧ n = L.length ∧ L.length ≤ 1000000 ∧ (∀ x ∈ L, okLf x) ∧ ∀ r : Int, (0 ≤ r ↔ ¬ ∀ x ∈ L, goodC root x = true) → Q (.int .i64 r) [.cells [.str root] 9]
  | _, _ => False
theorem idx3_c {y0 : CV} {cs0 : List CV} (hK : KAt y0 cs0) : Meets Tryz.prog [(0, y0 :: cs0)] 65 idx3S := by
  refine meets_of Γok Tryz.func65 rfl ?_
  intro args H Q h
  unfold idx3S at h
  split at h
  case h_2 => exact h.elim
  rename_i n cs f root
  obtain ⟨L, rfl, rfl, hL, hok, h⟩ := h
  (refine sx_sound Γok _ ?_; conv => whnf)
  (repeat (first | (exact Out.same; conv => whnf) | (exact Out1.same; conv => whnf) | (refine QAnd.mk ?_ ?_; conv => whnf) | (apply QStepH.go; conv => whnf) | (refine Both.lit_true ?_; conv => whnf) | (refine Both.lit_false ?_; conv => whnf) | (apply QStep.go; conv => whnf) | (refine Need.au ?_; conv => whnf) | (refine ⟨_, rfl, ?_⟩; conv => whnf)))
  refine loop_rule (fun k : Nat => ⟨[.sl 5 L.length (flL L) f, .func (.func 44) [.ptr 0 0], .any, .any, .any, .any, .any, .int .i64 ((L.length : Nat) : Int), .int .i64 (k : Int), .any, .any, .any, .any, .any, .any, .any, .any, .any, .any], [.cells [.str root] 9]⟩) (fun k => k ≤ L.length ∧ ∀ j, j < k → goodC root (L.getD j lf0) = true) (fun k => L.length - k) 0 ⟨Nat.zero_le _, fun j hj => absurd hj (by omega)⟩ (Weak.auto ?_) ?_
  · (repeat' ((conv => whnf); first | exact True.intro | (refine And.intro ?_ ?_)))
    all_goals first | rfl | exact .eq rfl
  rintro k ⟨hk, hall⟩
  (refine sx_sound Γok _ ?_; conv => whnf)
  (repeat (first | (exact Out.same; conv => whnf) | (exact Out1.same; conv => whnf) | (refine QAnd.mk ?_ ?_; conv => whnf) | (apply QStepH.go; conv => whnf) | (refine Both.lit_true ?_; conv => whnf) | (refine Both.lit_false ?_; conv => whnf) | (apply QStep.go; conv => whnf) | (refine Need.au ?_; conv => whnf) | (refine ⟨_, rfl, ?_⟩; conv => whnf)))
  refine Both.dec (fun hlt => ?_) (fun hge => ?_)
  · have hkl : k < L.length := by omega
    have hat := flL_at L hkl lf0
    obtain ⟨x, hx⟩ : ∃ x, L.getD k lf0 = x := ⟨_, rfl⟩
    have hxg : L[k] = x := by rw [← hx, List.getD_eq_getElem?_getD, List.getElem?_eq_getElem hkl]; rfl
    have hxm : x ∈ L := by rw [← hxg]; exact List.getElem_mem hkl
    have hxo := hok x hxm
    have e1 := hxo.k
    have e2 := hxo.v
    have e3 := hxo.p
    have m1 : x.p.length < 1000000 := by omega
    have m2 : x.k.length < 50000 := by omega
    have m3 : x.v.length < 50000 := by omega
    rw [hx] at hat
    have hat : ((flL L).drop (((k : Nat) : Int).toNat * 5)).take 5 = [CV.int .i64 x.i, .int .i64 x.c, .str x.k, .str x.v, .sl 1 x.p.length (strs x.p) false] := hat
    have hix : ti50.size = 5 ∧ (0 : Int) ≤ (k : Int) ∧ (k : Int) < ((L.length : Nat) : Int) := ⟨rfl, by omega, by omega⟩
    have hk1 : IntKind.i64.wrap ((k : Int) + 1) = ((k + 1 : Nat) : Int) := by rw [wrap_i64 (by omega) (by omega)]; rfl
    cases hg : goodC root x with
    | true =>
      have c1 : (!goodC root ⟨x.i, x.c, x.k, x.v, x.p⟩) = false := by rw [show goodC root ⟨x.i, x.c, x.k, x.v, x.p⟩ = true from hg]; rfl
      have hnext : ∀ j, j < k + 1 → goodC root (L.getD j lf0) = true := fun j hj => by
        rcases Nat.lt_or_ge j k with q | q
        · exact hall j q
        · rw [show j = k by omega, hx]
          exact hg
      (conv => whnf)
      (repeat (first | (refine Need.mk hix ?_; conv => whnf) | (refine ⟨_, hat, ?_⟩; conv => whnf) | (refine CallClo.auto (clb1_k hK) ⟨x.p, rfl, rfl, m1, m2, m3, ?_⟩; conv => whnf) | (refine Both.of_false c1 ?_; conv => whnf) | (exact Out.same; conv => whnf) | (exact Out1.same; conv => whnf) | (refine QAnd.mk ?_ ?_; conv => whnf) | (apply QStepH.go; conv => whnf) | (refine Both.lit_true ?_; conv => whnf) | (refine Both.lit_false ?_; conv => whnf) | (apply QStep.go; conv => whnf) | (refine Need.au ?_; conv => whnf) | (refine ⟨_, rfl, ?_⟩; conv => whnf)))
      refine ⟨k + 1, ⟨hkl, hnext⟩, by omega, Weak.auto ?_⟩
      (repeat' ((conv => whnf); first | exact True.intro | (refine And.intro ?_ ?_)))
      all_goals first | rfl | exact .eq rfl | exact congrArg (SV.int .i64) hk1
    | false =>
      have c1 : (!goodC root ⟨x.i, x.c, x.k, x.v, x.p⟩) = true := by rw [show goodC root ⟨x.i, x.c, x.k, x.v, x.p⟩ = false from hg]; rfl
      have h := h (k : Int) ⟨fun _ q => (by rw [q x hxm] at hg; cases hg), fun _ => by omega⟩
      (conv => whnf)
      (repeat (first | (refine Need.mk hix ?_; conv => whnf) | (refine ⟨_, hat, ?_⟩; conv => whnf) | (refine CallClo.auto (clb1_k hK) ⟨x.p, rfl, rfl, m1, m2, m3, ?_⟩; conv => whnf) | (refine Both.of_true c1 ?_; conv => whnf) | (exact Out.same; conv => whnf) | (exact Out1.same; conv => whnf) | (refine QAnd.mk ?_ ?_; conv => whnf) | (apply QStepH.go; conv => whnf) | (refine Both.lit_true ?_; conv => whnf) | (refine Both.lit_false ?_; conv => whnf) | (apply QStep.go; conv => whnf) | (refine Need.au ?_; conv => whnf) | (refine ⟨_, rfl, ?_⟩; conv => whnf)))
      refine ⟨_, _, WeakV.auto ?_, h⟩
      (repeat' ((conv => whnf); first | exact True.intro | (refine And.intro ?_ ?_)))
      all_goals first | rfl | exact .eq rfl
  · have h := h (-1) ⟨fun q => absurd q (by decide), fun q => absurd (fun x hx => by
      obtain ⟨j, hj, rfl⟩ := List.mem_iff_getElem.1 hx
      have := hall j (by omega)
      rw [List.getD_eq_getElem?_getD, List.getElem?_eq_getElem hj] at this
      exact this) q⟩
    (conv => whnf)
    (repeat (first | (exact Out.same; conv => whnf) | (exact Out1.same; conv => whnf) | (refine QAnd.mk ?_ ?_; conv => whnf) | (apply QStepH.go; conv => whnf) | (refine Both.lit_true ?_; conv => whnf) | (refine Both.lit_false ?_; conv => whnf) | (apply QStep.go; conv => whnf) | (refine Need.au ?_; conv => whnf) | (refine ⟨_, rfl, ?_⟩; conv => whnf)))
    refine ⟨_, _, WeakV.auto ?_, h⟩
    (repeat' ((conv => whnf); first | exact True.intro | (refine And.intro ?_ ?_)))
    all_goals first | rfl | exact .eq rfl
theorem idx3_k {y0 : CV} {cs0 : List CV} (hK : KAt y0 cs0) : Contract Tryz.prog [(0, y0 :: cs0)] 65 idx3S := ⟨⟨⟨_, rfl, rfl, rfl⟩⟩, idx3_c hK⟩
def con3S : Spec := fun args H Q => match args, H with
  | [.sl 5 n cs f, .func (.func 44) [.ptr 0 0]], [.cells [.str root] 9] => ∃ L : List Lf, cs = flL L ∧ n = L.length ∧ L.length ≤ 1000000 ∧ (∀ x ∈ L, okLf x) ∧ Q (.bool (decide (¬ ∀ x ∈ L, goodC root x = true))) [.cells [.str root] 9]
  | _, _ => False
theorem con3_c {y0 : CV} {cs0 : List CV} (hK : KAt y0 cs0) : Meets Tryz.prog [(0, y0 :: cs0)] 30 con3S := by
  refine meets_of Γok Tryz.func30 rfl ?_
  intro args H Q h
  unfold con3S at h
  split at h
  case h_2 => exact h.elim
  rename_i n cs f root
  obtain ⟨L, rfl, rfl, hL, hok, h⟩ := h
  (refine sx_sound Γok _ ?_; conv => whnf)
  (repeat (first | (exact Out.same; conv => whnf) | (exact Out1.same; conv => whnf) | (refine QAnd.mk ?_ ?_; conv => whnf) | (apply QStepH.go; conv => whnf) | (refine Both.lit_true ?_; conv => whnf) | (refine Both.lit_false ?_; conv => whnf) | (apply QStep.go; conv => whnf) | (refine Need.au ?_; conv => whnf) | (refine ⟨_, rfl, ?_⟩; conv => whnf)))
  refine CallVC.auto (idx3_k hK) ⟨L, rfl, rfl, hL, hok, fun r hr => ?_⟩
  have e : decide (0 ≤ r) = decide (¬ ∀ x ∈ L, goodC root x = true) := decide_eq_decide.2 hr
  rw [← e] at h
  (conv => whnf)
  (repeat (first | (exact Out.same; conv => whnf) | (exact Out1.same; conv => whnf) | (refine QAnd.mk ?_ ?_; conv => whnf) | (apply QStepH.go; conv => whnf) | (refine Both.lit_true ?_; conv => whnf) | (refine Both.lit_false ?_; conv => whnf) | (apply QStep.go; conv => whnf) | (refine Need.au ?_; conv => whnf) | (refine ⟨_, rfl, ?_⟩; conv => whnf)))
  refine ⟨_, _, WeakV.auto ?_, h⟩
  (repeat' ((conv => whnf); first | exact True.intro | (refine And.intro ?_ ?_)))
  all_goals first | rfl | exact .eq rfl
theorem con3_k {y0 : CV} {cs0 : List CV} (hK : KAt y0 cs0) : Contract Tryz.prog [(0, y0 :: cs0)] 30 con3S := ⟨⟨⟨_, rfl, rfl, rfl⟩⟩, con3_c hK⟩
def climb9S : Spec := fun args H Q => match args, H with
  | [.str root, .sl 5 n cs f], [] => ∃ L : List Lf, cs = flL L ∧ n = L.length ∧ L.length ≤ 1000000 ∧ (∀ x ∈ L, okLf x) ∧ Q (.bool (decide (∀ x ∈ L, goodC root x = true))) []
  | _, _ => False
theorem climb9_c {y0 : CV} {cs0 : List CV} (hK : KAt y0 cs0) : Meets Tryz.prog [(0, y0 :: cs0)] 20 climb9S := by
  refine meets_of Γok Tryz.func20 rfl ?_
  intro args H Q h
  unfold climb9S at h
  split at h
  case h_2 => exact h.elim
  rename_i root n cs f
  obtain ⟨L, rfl, rfl, hL, hok, h⟩ := h
  have e : (!decide (¬ ∀ x ∈ L, goodC root x = true)) = decide (∀ x ∈ L, goodC root x = true) := by
    by_cases q : ∀ x ∈ L, goodC root x = true
    · rw [decide_eq_false (fun u => u q), decide_eq_true q]
      rfl
    · rw [decide_eq_true q, decide_eq_false q]
      rfl
  rw [← e] at h
  (refine sx_sound Γok _ ?_; conv => whnf)
  (repeat (first | (refine CallVC.auto (con3_k hK) ⟨L, rfl, rfl, hL, hok, ?_⟩; conv => whnf) | (exact Out.same; conv => whnf) | (exact Out1.same; conv => whnf) | (refine QAnd.mk ?_ ?_; conv => whnf) | (apply QStepH.go; conv => whnf) | (refine Both.lit_true ?_; conv => whnf) | (refine Both.lit_false ?_; conv => whnf) | (apply QStep.go; conv => whnf) | (refine Need.au ?_; conv => whnf) | (refine ⟨_, rfl, ?_⟩; conv => whnf)))
  exact ⟨_, _, WeakV.drop rfl, h⟩
theorem climb9_k {y0 : CV} {cs0 : List CV} (hK : KAt y0 cs0) : Contract Tryz.prog [(0, y0 :: cs0)] 20 climb9S := ⟨⟨⟨_, rfl, rfl, rfl⟩⟩, climb9_c hK⟩
end Go.LX
end
section
set_option maxRecDepth 100000
set_option maxHeartbeats 2000000
set_option autoImplicit false
set_option linter.unusedVariables false
set_option linter.unusedSimpArgs false
namespace Go.LX
open Go.Proofs

def hasP (root s key value : Bs) : Prop := ∃ x : Lf, parseV s = ((false, [x]), 0) ∧ (x.k = key ∧ x.v = value) ∧ goodC root x = true
open Classical in
def hasS : Spec := fun args H Q => match args, H with
  | [.str root, .str s, .str key, .str value], [] => s.length < 1000000 ∧ Q (.bool (decide (hasP root s key value))) []
  | _, _ => False
open Classical in
theorem has_c {y0 : CV} {cs0 : List CV} (hK : KAt y0 cs0) : Meets Tryz.prog [(0, y0 :: cs0)] 8 hasS := by
  refine meets_of Γok Tryz.func8 rfl ?_
  intro args H Q h
  unfold hasS at h
  split at h
  case h_2 => exact h.elim
  rename_i root s key value
  obtain ⟨hs, h⟩ := h
  have cz : decide ((0 : Int) = 0) = true := rfl
  have c5 : decide ((5 : Int) = 0) = false := rfl
  have hno : (¬ hasP root s key value) → Q (.bool false) [] := fun q => by rw [decide_eq_false q] at h; exact h
  have hyes : hasP root s key value → Q (.bool true) [] := fun q => by rw [decide_eq_true q] at h; exact h
  clear h
  rcases parseV_cases s with ⟨a, L, hf, hr, hp⟩ | hp
  case inr =>
    have h := hno (fun ⟨x, q, _⟩ => by
      have := (Prod.mk.inj (hp.symm.trans q)).2
      cases this)
    (refine sx_sound Γok _ ?_; conv => whnf)
    (repeat (first | (exact Out.same; conv => whnf) | (exact Out1.same; conv => whnf) | (refine QAnd.mk ?_ ?_; conv => whnf) | (apply QStepH.go; conv => whnf) | (refine Both.lit_true ?_; conv => whnf) | (refine Both.lit_false ?_; conv => whnf) | (apply QStep.go; conv => whnf) | (refine Need.au ?_; conv => whnf) | (refine ⟨_, rfl, ?_⟩; conv => whnf)))
    refine CallVC.auto pparse_k.gl ⟨hs, fun a1 L1 e1 h1 => ?_⟩
    obtain ⟨u1, u3⟩ := Prod.mk.inj (h1.symm.trans hp)
    obtain ⟨u1, u2⟩ := Prod.mk.inj u1
    clear h1
    subst u1 u2 u3
    (conv => whnf)
    (repeat (first | (refine Both.of_false c5 ?_; conv => whnf) | (exact Out.same; conv => whnf) | (exact Out1.same; conv => whnf) | (refine QAnd.mk ?_ ?_; conv => whnf) | (apply QStepH.go; conv => whnf) | (refine Both.lit_true ?_; conv => whnf) | (refine Both.lit_false ?_; conv => whnf) | (apply QStep.go; conv => whnf) | (refine Need.au ?_; conv => whnf) | (refine ⟨_, rfl, ?_⟩; conv => whnf)))
    exact ⟨_, _, WeakV.drop rfl, h⟩
  (refine sx_sound Γok _ ?_; conv => whnf)
  (repeat (first | (exact Out.same; conv => whnf) | (exact Out1.same; conv => whnf) | (refine QAnd.mk ?_ ?_; conv => whnf) | (apply QStepH.go; conv => whnf) | (refine Both.lit_true ?_; conv => whnf) | (refine Both.lit_false ?_; conv => whnf) | (apply QStep.go; conv => whnf) | (refine Need.au ?_; conv => whnf) | (refine ⟨_, rfl, ?_⟩; conv => whnf)))
  refine CallVC.auto pparse_k.gl ⟨hs, fun a1 L1 e1 h1 => ?_⟩
  obtain ⟨u1, u3⟩ := Prod.mk.inj (h1.symm.trans hp)
  obtain ⟨u1, u2⟩ := Prod.mk.inj u1
  clear h1
  subst u1 u2 u3
  cases a1 with
  | true =>
    have h := hno (fun ⟨x, q, _⟩ => by
      have := (Prod.mk.inj (Prod.mk.inj (hp.symm.trans q)).1).1
      cases this)
    (conv => whnf)
    (repeat (first | (refine Both.of_true cz ?_; conv => whnf) | (exact Out.same; conv => whnf) | (exact Out1.same; conv => whnf) | (refine QAnd.mk ?_ ?_; conv => whnf) | (apply QStepH.go; conv => whnf) | (refine Both.lit_true ?_; conv => whnf) | (refine Both.lit_false ?_; conv => whnf) | (apply QStep.go; conv => whnf) | (refine Need.au ?_; conv => whnf) | (refine ⟨_, rfl, ?_⟩; conv => whnf)))
    exact ⟨_, _, WeakV.drop rfl, h⟩
  | false =>
  by_cases hl : L1.length = 1
  case neg =>
    have cl : decide (((L1.length : Nat) : Int) = 1) = false := decide_eq_false (by omega)
    have h := hno (fun ⟨x, q, _⟩ => by
      have := (Prod.mk.inj (Prod.mk.inj (hp.symm.trans q)).1).2
      rw [this] at hl
      exact hl rfl)
    (conv => whnf)
    (repeat (first | (refine Both.of_true cz ?_; conv => whnf) | (refine Both.of_false cl ?_; conv => whnf) | (exact Out.same; conv => whnf) | (exact Out1.same; conv => whnf) | (refine QAnd.mk ?_ ?_; conv => whnf) | (apply QStepH.go; conv => whnf) | (refine Both.lit_true ?_; conv => whnf) | (refine Both.lit_false ?_; conv => whnf) | (apply QStep.go; conv => whnf) | (refine Need.au ?_; conv => whnf) | (refine ⟨_, rfl, ?_⟩; conv => whnf)))
    exact ⟨_, _, WeakV.drop rfl, h⟩
  obtain ⟨x, rfl⟩ : ∃ x, L1 = [x] := List.length_eq_one_iff.1 hl
  have hxo := hf.2 x (List.mem_singleton.2 rfl)
  have cl : decide (((([x] : List Lf).length : Nat) : Int) = 1) = true := rfl
  have hat : ((flL [x]).drop ((0 : Int).toNat * 5)).take 5 = [CV.int .i64 x.i, .int .i64 x.c, .str x.k, .str x.v, .sl 1 x.p.length (strs x.p) false] := rfl
  have hix : ti50.size = 5 ∧ (0 : Int) ≤ 0 ∧ (0 : Int) < ((([x] : List Lf).length : Nat) : Int) := ⟨rfl, by omega, by simp⟩
  have ho1 : ([x] : List Lf).length ≤ 1000000 := by show 1 ≤ 1000000; decide
  have hoA : ∀ z ∈ [x], okLf z := fun z hz => by rw [List.mem_singleton.1 hz]; exact hxo
  by_cases hkv : x.k = key ∧ x.v = value
  case neg =>
    have ck : (decide (x.k = key) && (decide (x.v = value) && true)) = false := by
      by_cases q1 : x.k = key
      · rw [decide_eq_false (fun q2 : x.v = value => hkv ⟨q1, q2⟩)]
        simp
      · rw [decide_eq_false q1]
        rfl
    have h := hno (fun ⟨z, q, q2, _⟩ => by
      have := (Prod.mk.inj (Prod.mk.inj (hp.symm.trans q)).1).2
      obtain rfl : x = z := by simpa using this
      exact hkv q2)
    (conv => whnf)
    (repeat (first | (refine Both.of_true cz ?_; conv => whnf) | (refine Both.of_true cl ?_; conv => whnf) | (refine Need.mk hix ?_; conv => whnf) | (refine ⟨_, hat, ?_⟩; conv => whnf) | (refine Both.of_false ck ?_; conv => whnf) | (exact Out.same; conv => whnf) | (exact Out1.same; conv => whnf) | (refine QAnd.mk ?_ ?_; conv => whnf) | (apply QStepH.go; conv => whnf) | (refine Both.lit_true ?_; conv => whnf) | (refine Both.lit_false ?_; conv => whnf) | (apply QStep.go; conv => whnf) | (refine Need.au ?_; conv => whnf) | (refine ⟨_, rfl, ?_⟩; conv => whnf)))
    exact ⟨_, _, WeakV.drop rfl, h⟩
  have ck : (decide (x.k = key) && (decide (x.v = value) && true)) = true := by rw [decide_eq_true hkv.1, decide_eq_true hkv.2]; rfl
  have hfin : Q (.bool (decide (∀ z ∈ [x], goodC root z = true))) [] := by
    by_cases hg : goodC root x = true
    · rw [decide_eq_true (show ∀ z ∈ [x], goodC root z = true from fun z hz => by rw [List.mem_singleton.1 hz]; exact hg)]
      exact hyes ⟨x, hp, hkv, hg⟩
    · rw [decide_eq_false (fun q : ∀ z ∈ [x], goodC root z = true => hg (q x (List.mem_singleton.2 rfl)))]
      exact hno (fun ⟨z, q, _, q3⟩ => by
        have := (Prod.mk.inj (Prod.mk.inj (hp.symm.trans q)).1).2
        obtain rfl : x = z := by simpa using this
        exact hg q3)
  (conv => whnf)
  (repeat (first | (refine Both.of_true cz ?_; conv => whnf) | (refine Both.of_true cl ?_; conv => whnf) | (refine Need.mk hix ?_; conv => whnf) | (refine ⟨_, hat, ?_⟩; conv => whnf) | (refine Both.of_true ck ?_; conv => whnf) | (exact Out.same; conv => whnf) | (exact Out1.same; conv => whnf) | (refine QAnd.mk ?_ ?_; conv => whnf) | (apply QStepH.go; conv => whnf) | (refine Both.lit_true ?_; conv => whnf) | (refine Both.lit_false ?_; conv => whnf) | (apply QStep.go; conv => whnf) | (refine Need.au ?_; conv => whnf) | (refine ⟨_, rfl, ?_⟩; conv => whnf)))
  refine CallVC.auto (climb9_k hK) ⟨[x], rfl, rfl, ho1, hoA, ?_⟩
  (conv => whnf)
  (repeat (first | (exact Out.same; conv => whnf) | (exact Out1.same; conv => whnf) | (refine QAnd.mk ?_ ?_; conv => whnf) | (apply QStepH.go; conv => whnf) | (refine Both.lit_true ?_; conv => whnf) | (refine Both.lit_false ?_; conv => whnf) | (apply QStep.go; conv => whnf) | (refine Need.au ?_; conv => whnf) | (refine ⟨_, rfl, ?_⟩; conv => whnf)))
  exact ⟨_, _, WeakV.drop rfl, hfin⟩
theorem has_k {y0 : CV} {cs0 : List CV} (hK : KAt y0 cs0) : Contract Tryz.prog [(0, y0 :: cs0)] 8 hasS := ⟨⟨⟨_, rfl, rfl, rfl⟩⟩, has_c hK⟩
def standL (root key : Bs) : List Lf → Prop
  | [] => root = shaD (rootX [])
  | [x] => (x.i = 0 ∧ lessS key x.k = true) ∨ (x.i = x.c - 1 ∧ lessS x.k key = true)
  | x :: y :: _ => (x.c = y.c ∧ x.i + 1 = y.i) ∧ lessS x.k key = true ∧ lessS key y.k = true
def lacksP (root s key : Bs) : Prop := (1 ≤ key.length ∧ key.length ≤ 16) ∧ ∃ L : List Lf, parseV s = ((true, L), 0) ∧ (∀ x ∈ L, goodC root x = true) ∧ standL root key L
open Classical in
def lacksS : Spec := fun args H Q => match args, H with
  | [.str root, .str s, .str key], [] => s.length < 1000000 ∧ Q (.bool (decide (lacksP root s key))) []
  | _, _ => False
open Classical in
theorem lacks_c {y0 : CV} {cs0 : List CV} (hK : KAt y0 cs0) : Meets Tryz.prog [(0, y0 :: cs0)] 10 lacksS := by
  refine meets_of Γok Tryz.func10 rfl ?_
  intro args H Q h
  unfold lacksS at h
  split at h
  case h_2 => exact h.elim
  rename_i root s key
  obtain ⟨hs, h⟩ := h
  have cz : (!decide ((0 : Int) = 0)) = false := rfl
  have c5 : (!decide ((5 : Int) = 0)) = true := rfl
  have hno : (¬ lacksP root s key) → Q (.bool false) [] := fun q => by rw [decide_eq_false q] at h; exact h
  have hval : ∀ b : Bool, (b = true ↔ lacksP root s key) → Q (.bool b) [] := fun b q => by
    have e : b = decide (lacksP root s key) := by
      cases b with
      | true => exact (decide_eq_true (q.1 rfl)).symm
      | false => exact (decide_eq_false (fun u => by cases q.2 u)).symm
    rw [e]
    exact h
  clear h
  rcases parseV_cases s with ⟨a, L, hf, hr, hp⟩ | hp
  case inr =>
    have h := hno (fun ⟨_, L, q, _⟩ => by
      have := (Prod.mk.inj (hp.symm.trans q)).2
      cases this)
    (refine sx_sound Γok _ ?_; conv => whnf)
    (repeat (first | (exact Out.same; conv => whnf) | (exact Out1.same; conv => whnf) | (refine QAnd.mk ?_ ?_; conv => whnf) | (apply QStepH.go; conv => whnf) | (refine Both.lit_true ?_; conv => whnf) | (refine Both.lit_false ?_; conv => whnf) | (apply QStep.go; conv => whnf) | (refine Need.au ?_; conv => whnf) | (refine ⟨_, rfl, ?_⟩; conv => whnf)))
    refine CallVC.auto pparse_k.gl ⟨hs, fun a1 L1 e1 h1 => ?_⟩
    obtain ⟨u1, u3⟩ := Prod.mk.inj (h1.symm.trans hp)
    obtain ⟨u1, u2⟩ := Prod.mk.inj u1
    clear h1
    subst u1 u2 u3
    (conv => whnf)
    (repeat (first | (refine Both.of_true c5 ?_; conv => whnf) | (exact Out.same; conv => whnf) | (exact Out1.same; conv => whnf) | (refine QAnd.mk ?_ ?_; conv => whnf) | (apply QStepH.go; conv => whnf) | (refine Both.lit_true ?_; conv => whnf) | (refine Both.lit_false ?_; conv => whnf) | (apply QStep.go; conv => whnf) | (refine Need.au ?_; conv => whnf) | (refine ⟨_, rfl, ?_⟩; conv => whnf)))
    exact ⟨_, _, WeakV.drop rfl, h⟩
  (refine sx_sound Γok _ ?_; conv => whnf)
  (repeat (first | (exact Out.same; conv => whnf) | (exact Out1.same; conv => whnf) | (refine QAnd.mk ?_ ?_; conv => whnf) | (apply QStepH.go; conv => whnf) | (refine Both.lit_true ?_; conv => whnf) | (refine Both.lit_false ?_; conv => whnf) | (apply QStep.go; conv => whnf) | (refine Need.au ?_; conv => whnf) | (refine ⟨_, rfl, ?_⟩; conv => whnf)))
  refine CallVC.auto pparse_k.gl ⟨hs, fun a1 L1 e1 h1 => ?_⟩
  obtain ⟨u1, u3⟩ := Prod.mk.inj (h1.symm.trans hp)
  obtain ⟨u1, u2⟩ := Prod.mk.inj u1
  clear h1
  subst u1 u2 u3
  cases a1 with
  | false =>
    have h := hno (fun ⟨_, L, q, _⟩ => by
      have := (Prod.mk.inj (Prod.mk.inj (hp.symm.trans q)).1).1
      cases this)
    (conv => whnf)
    (repeat (first | (refine Both.of_false cz ?_; conv => whnf) | (exact Out.same; conv => whnf) | (exact Out1.same; conv => whnf) | (refine QAnd.mk ?_ ?_; conv => whnf) | (apply QStepH.go; conv => whnf) | (refine Both.lit_true ?_; conv => whnf) | (refine Both.lit_false ?_; conv => whnf) | (apply QStep.go; conv => whnf) | (refine Need.au ?_; conv => whnf) | (refine ⟨_, rfl, ?_⟩; conv => whnf)))
    exact ⟨_, _, WeakV.drop rfl, h⟩
  | true =>
  have hLu : ∀ L, parseV s = ((true, L), 0) → L1 = L := fun L q => (Prod.mk.inj (Prod.mk.inj (hp.symm.trans q)).1).2
  (conv => whnf)
  (repeat (first | (refine Both.of_false cz ?_; conv => whnf) | (exact Out.same; conv => whnf) | (exact Out1.same; conv => whnf) | (refine QAnd.mk ?_ ?_; conv => whnf) | (apply QStepH.go; conv => whnf) | (refine Both.lit_true ?_; conv => whnf) | (refine Both.lit_false ?_; conv => whnf) | (apply QStep.go; conv => whnf) | (refine Need.au ?_; conv => whnf) | (refine ⟨_, rfl, ?_⟩; conv => whnf)))
  refine Both.dec (fun k1 => ?_) (fun k1 => ?_)
  · have h := hno (fun q => by have := q.1; omega)
    (conv => whnf)
    (repeat (first | (exact Out.same; conv => whnf) | (exact Out1.same; conv => whnf) | (refine QAnd.mk ?_ ?_; conv => whnf) | (apply QStepH.go; conv => whnf) | (refine Both.lit_true ?_; conv => whnf) | (refine Both.lit_false ?_; conv => whnf) | (apply QStep.go; conv => whnf) | (refine Need.au ?_; conv => whnf) | (refine ⟨_, rfl, ?_⟩; conv => whnf)))
    exact ⟨_, _, WeakV.drop rfl, h⟩
  (conv => whnf)
  (repeat (first | (exact Out.same; conv => whnf) | (exact Out1.same; conv => whnf) | (refine QAnd.mk ?_ ?_; conv => whnf) | (apply QStepH.go; conv => whnf) | (refine Both.lit_true ?_; conv => whnf) | (refine Both.lit_false ?_; conv => whnf) | (apply QStep.go; conv => whnf) | (refine Need.au ?_; conv => whnf) | (refine ⟨_, rfl, ?_⟩; conv => whnf)))
  refine Both.dec (fun k2 => ?_) (fun k2 => ?_)
  · have h := hno (fun q => by have := q.1; omega)
    (conv => whnf)
    (repeat (first | (exact Out.same; conv => whnf) | (exact Out1.same; conv => whnf) | (refine QAnd.mk ?_ ?_; conv => whnf) | (apply QStepH.go; conv => whnf) | (refine Both.lit_true ?_; conv => whnf) | (refine Both.lit_false ?_; conv => whnf) | (apply QStep.go; conv => whnf) | (refine Need.au ?_; conv => whnf) | (refine ⟨_, rfl, ?_⟩; conv => whnf)))
    exact ⟨_, _, WeakV.drop rfl, h⟩
  have hkl : 1 ≤ key.length ∧ key.length ≤ 16 := by omega
  (conv => whnf)
  (repeat (first | (exact Out.same; conv => whnf) | (exact Out1.same; conv => whnf) | (refine QAnd.mk ?_ ?_; conv => whnf) | (apply QStepH.go; conv => whnf) | (refine Both.lit_true ?_; conv => whnf) | (refine Both.lit_false ?_; conv => whnf) | (apply QStep.go; conv => whnf) | (refine Need.au ?_; conv => whnf) | (refine ⟨_, rfl, ?_⟩; conv => whnf)))
  refine CallVC.auto (climb9_k hK) ⟨L1, rfl, rfl, (fits_sm hf).1, hf.2, ?_⟩
  by_cases hall : ∀ x ∈ L1, goodC root x = true
  case neg =>
    have ca : (!decide (∀ x ∈ L1, goodC root x = true)) = true := by rw [decide_eq_false hall]; rfl
    have h := hno (fun ⟨_, L, q, q2, _⟩ => hall (by rw [hLu L q]; exact q2))
    (conv => whnf)
    (repeat (first | (refine Both.of_true ca ?_; conv => whnf) | (exact Out.same; conv => whnf) | (exact Out1.same; conv => whnf) | (refine QAnd.mk ?_ ?_; conv => whnf) | (apply QStepH.go; conv => whnf) | (refine Both.lit_true ?_; conv => whnf) | (refine Both.lit_false ?_; conv => whnf) | (apply QStep.go; conv => whnf) | (refine Need.au ?_; conv => whnf) | (refine ⟨_, rfl, ?_⟩; conv => whnf)))
    exact ⟨_, _, WeakV.drop rfl, h⟩
  have ca : (!decide (∀ x ∈ L1, goodC root x = true)) = false := by rw [decide_eq_true hall]; rfl
  have hfin : ∀ b : Bool, (b = true ↔ standL root key L1) → Q (.bool b) [] := fun b q => hval b (q.trans ⟨fun u => ⟨hkl, L1, hp, hall, u⟩, fun ⟨_, L, v, _, u⟩ => by rw [hLu L v]; exact u⟩)
  clear hno hval
  have hlen := hf.1
  (conv => whnf)
  (repeat (first | (refine Both.of_false ca ?_; conv => whnf) | (exact Out.same; conv => whnf) | (exact Out1.same; conv => whnf) | (refine QAnd.mk ?_ ?_; conv => whnf) | (apply QStepH.go; conv => whnf) | (refine Both.lit_true ?_; conv => whnf) | (refine Both.lit_false ?_; conv => whnf) | (apply QStep.go; conv => whnf) | (refine Need.au ?_; conv => whnf) | (refine ⟨_, rfl, ?_⟩; conv => whnf)))
  match L1, hlen, hf, hfin with
  | [], _, _, hfin =>
    have c0 : decide (((([] : List Lf).length : Nat) : Int) = 0) = true := rfl
    have hfin := hfin (decide (root = shaD (topX 0 []))) (by
      show _ ↔ root = shaD (rootX [])
      exact ⟨fun u => of_decide_eq_true u, fun u => decide_eq_true u⟩)
    (conv => whnf)
    (repeat (first | (refine Both.of_true c0 ?_; conv => whnf) | (exact Out.same; conv => whnf) | (exact Out1.same; conv => whnf) | (refine QAnd.mk ?_ ?_; conv => whnf) | (apply QStepH.go; conv => whnf) | (refine Both.lit_true ?_; conv => whnf) | (refine Both.lit_false ?_; conv => whnf) | (apply QStep.go; conv => whnf) | (refine Need.au ?_; conv => whnf) | (refine ⟨_, rfl, ?_⟩; conv => whnf)))
    refine CallVC.auto (mroot_k hK) ?_
    (conv => whnf)
    (repeat (first | (exact Out.same; conv => whnf) | (exact Out1.same; conv => whnf) | (refine QAnd.mk ?_ ?_; conv => whnf) | (apply QStepH.go; conv => whnf) | (refine Both.lit_true ?_; conv => whnf) | (refine Both.lit_false ?_; conv => whnf) | (apply QStep.go; conv => whnf) | (refine Need.au ?_; conv => whnf) | (refine ⟨_, rfl, ?_⟩; conv => whnf)))
    exact ⟨_, _, WeakV.drop rfl, hfin⟩
  | [x], _, hf, hfin =>
    have hxo := hf.2 x (List.mem_singleton.2 rfl)
    have hxc := hxo.c
    have c0 : decide (((([x] : List Lf).length : Nat) : Int) = 0) = false := rfl
    have c1 : decide (((([x] : List Lf).length : Nat) : Int) = 1) = true := rfl
    have hat : ((flL [x]).drop ((0 : Int).toNat * 5)).take 5 = [CV.int .i64 x.i, .int .i64 x.c, .str x.k, .str x.v, .sl 1 x.p.length (strs x.p) false] := rfl
    have hix : ti50.size = 5 ∧ (0 : Int) ≤ 0 ∧ (0 : Int) < ((([x] : List Lf).length : Nat) : Int) := ⟨rfl, by omega, by simp⟩
    have hwc : IntKind.i64.wrap (x.c - 1) = x.c - 1 := wrap_i64 (by omega) (by omega)
    have hfin : ∀ b : Bool, (b = true ↔ (x.i = 0 ∧ lessS key x.k = true) ∨ (x.i = x.c - 1 ∧ lessS x.k key = true)) → Q (.bool b) [] := hfin
    by_cases q1 : x.i = 0
    · have e1 : decide (x.i = 0) = true := decide_eq_true q1
      cases b1 : lessS key x.k with
      | true =>
        have h := hfin true ⟨fun _ => .inl ⟨q1, b1⟩, fun _ => rfl⟩
        (conv => whnf)
        (repeat (first | (refine Both.of_false c0 ?_; conv => whnf) | (refine Both.of_true c1 ?_; conv => whnf) | (exact Out.same; conv => whnf) | (exact Out1.same; conv => whnf) | (refine QAnd.mk ?_ ?_; conv => whnf) | (apply QStepH.go; conv => whnf) | (refine Both.lit_true ?_; conv => whnf) | (refine Both.lit_false ?_; conv => whnf) | (apply QStep.go; conv => whnf) | (refine Need.au ?_; conv => whnf) | (refine ⟨_, rfl, ?_⟩; conv => whnf)))
        (refine DrawVC.any Γok (by kernel_rfl) (by kernel_rfl) (by kernel_rfl) (by rfl) ?_; conv => whnf)
        (repeat (first | (refine Need.mk hix ?_; conv => whnf) | (refine ⟨_, hat, ?_⟩; conv => whnf) | (refine Both.of_true e1 ?_; conv => whnf) | (refine Both.of_true b1 ?_; conv => whnf) | (exact Out.same; conv => whnf) | (exact Out1.same; conv => whnf) | (refine QAnd.mk ?_ ?_; conv => whnf) | (apply QStepH.go; conv => whnf) | (refine Both.lit_true ?_; conv => whnf) | (refine Both.lit_false ?_; conv => whnf) | (apply QStep.go; conv => whnf) | (refine Need.au ?_; conv => whnf) | (refine ⟨_, rfl, ?_⟩; conv => whnf)))
        exact ⟨_, _, WeakV.drop rfl, h⟩
      | false =>
        by_cases q2 : x.i = x.c - 1
        · have e2 : decide (x.i = IntKind.i64.wrap (x.c - 1)) = true := by rw [hwc]; exact decide_eq_true q2
          have h := hfin (lessS x.k key) ⟨fun u => .inr ⟨q2, u⟩, fun u => by
            rcases u with u | u
            · rw [b1] at u; cases u.2
            · exact u.2⟩
          (conv => whnf)
          (repeat (first | (refine Both.of_false c0 ?_; conv => whnf) | (refine Both.of_true c1 ?_; conv => whnf) | (exact Out.same; conv => whnf) | (exact Out1.same; conv => whnf) | (refine QAnd.mk ?_ ?_; conv => whnf) | (apply QStepH.go; conv => whnf) | (refine Both.lit_true ?_; conv => whnf) | (refine Both.lit_false ?_; conv => whnf) | (apply QStep.go; conv => whnf) | (refine Need.au ?_; conv => whnf) | (refine ⟨_, rfl, ?_⟩; conv => whnf)))
          (refine DrawVC.any Γok (by kernel_rfl) (by kernel_rfl) (by kernel_rfl) (by rfl) ?_; conv => whnf)
          (repeat (first | (refine Need.mk hix ?_; conv => whnf) | (refine ⟨_, hat, ?_⟩; conv => whnf) | (refine Both.of_true e1 ?_; conv => whnf) | (refine Both.of_false b1 ?_; conv => whnf) | (refine Both.of_true e2 ?_; conv => whnf) | (exact Out.same; conv => whnf) | (exact Out1.same; conv => whnf) | (refine QAnd.mk ?_ ?_; conv => whnf) | (apply QStepH.go; conv => whnf) | (refine Both.lit_true ?_; conv => whnf) | (refine Both.lit_false ?_; conv => whnf) | (apply QStep.go; conv => whnf) | (refine Need.au ?_; conv => whnf) | (refine ⟨_, rfl, ?_⟩; conv => whnf)))
          exact ⟨_, _, WeakV.drop rfl, h⟩
        · have e2 : decide (x.i = IntKind.i64.wrap (x.c - 1)) = false := by rw [hwc]; exact decide_eq_false q2
          have h := hfin false ⟨fun u => (by cases u), fun u => by
            rcases u with u | u
            · rw [b1] at u; cases u.2
            · exact absurd u.1 q2⟩
          (conv => whnf)
          (repeat (first | (refine Both.of_false c0 ?_; conv => whnf) | (refine Both.of_true c1 ?_; conv => whnf) | (exact Out.same; conv => whnf) | (exact Out1.same; conv => whnf) | (refine QAnd.mk ?_ ?_; conv => whnf) | (apply QStepH.go; conv => whnf) | (refine Both.lit_true ?_; conv => whnf) | (refine Both.lit_false ?_; conv => whnf) | (apply QStep.go; conv => whnf) | (refine Need.au ?_; conv => whnf) | (refine ⟨_, rfl, ?_⟩; conv => whnf)))
          (refine DrawVC.any Γok (by kernel_rfl) (by kernel_rfl) (by kernel_rfl) (by rfl) ?_; conv => whnf)
          (repeat (first | (refine Need.mk hix ?_; conv => whnf) | (refine ⟨_, hat, ?_⟩; conv => whnf) | (refine Both.of_true e1 ?_; conv => whnf) | (refine Both.of_false b1 ?_; conv => whnf) | (refine Both.of_false e2 ?_; conv => whnf) | (exact Out.same; conv => whnf) | (exact Out1.same; conv => whnf) | (refine QAnd.mk ?_ ?_; conv => whnf) | (apply QStepH.go; conv => whnf) | (refine Both.lit_true ?_; conv => whnf) | (refine Both.lit_false ?_; conv => whnf) | (apply QStep.go; conv => whnf) | (refine Need.au ?_; conv => whnf) | (refine ⟨_, rfl, ?_⟩; conv => whnf)))
          exact ⟨_, _, WeakV.drop rfl, h⟩
    · have e1 : decide (x.i = 0) = false := decide_eq_false q1
      by_cases q2 : x.i = x.c - 1
      · have e2 : decide (x.i = IntKind.i64.wrap (x.c - 1)) = true := by rw [hwc]; exact decide_eq_true q2
        have h := hfin (lessS x.k key) ⟨fun u => .inr ⟨q2, u⟩, fun u => by
          rcases u with u | u
          · exact absurd u.1 q1
          · exact u.2⟩
        (conv => whnf)
        (repeat (first | (refine Both.of_false c0 ?_; conv => whnf) | (refine Both.of_true c1 ?_; conv => whnf) | (exact Out.same; conv => whnf) | (exact Out1.same; conv => whnf) | (refine QAnd.mk ?_ ?_; conv => whnf) | (apply QStepH.go; conv => whnf) | (refine Both.lit_true ?_; conv => whnf) | (refine Both.lit_false ?_; conv => whnf) | (apply QStep.go; conv => whnf) | (refine Need.au ?_; conv => whnf) | (refine ⟨_, rfl, ?_⟩; conv => whnf)))
        (refine DrawVC.any Γok (by kernel_rfl) (by kernel_rfl) (by kernel_rfl) (by rfl) ?_; conv => whnf)
        (repeat (first | (refine Need.mk hix ?_; conv => whnf) | (refine ⟨_, hat, ?_⟩; conv => whnf) | (refine Both.of_false e1 ?_; conv => whnf) | (refine Both.of_true e2 ?_; conv => whnf) | (exact Out.same; conv => whnf) | (exact Out1.same; conv => whnf) | (refine QAnd.mk ?_ ?_; conv => whnf) | (apply QStepH.go; conv => whnf) | (refine Both.lit_true ?_; conv => whnf) | (refine Both.lit_false ?_; conv => whnf) | (apply QStep.go; conv => whnf) | (refine Need.au ?_; conv => whnf) | (refine ⟨_, rfl, ?_⟩; conv => whnf)))
        exact ⟨_, _, WeakV.drop rfl, h⟩
      · have e2 : decide (x.i = IntKind.i64.wrap (x.c - 1)) = false := by rw [hwc]; exact decide_eq_false q2
        have h := hfin false ⟨fun u => (by cases u), fun u => by
          rcases u with u | u
          · exact absurd u.1 q1
          · exact absurd u.1 q2⟩
        (conv => whnf)
        (repeat (first | (refine Both.of_false c0 ?_; conv => whnf) | (refine Both.of_true c1 ?_; conv => whnf) | (exact Out.same; conv => whnf) | (exact Out1.same; conv => whnf) | (refine QAnd.mk ?_ ?_; conv => whnf) | (apply QStepH.go; conv => whnf) | (refine Both.lit_true ?_; conv => whnf) | (refine Both.lit_false ?_; conv => whnf) | (apply QStep.go; conv => whnf) | (refine Need.au ?_; conv => whnf) | (refine ⟨_, rfl, ?_⟩; conv => whnf)))
        (refine DrawVC.any Γok (by kernel_rfl) (by kernel_rfl) (by kernel_rfl) (by rfl) ?_; conv => whnf)
        (repeat (first | (refine Need.mk hix ?_; conv => whnf) | (refine ⟨_, hat, ?_⟩; conv => whnf) | (refine Both.of_false e1 ?_; conv => whnf) | (refine Both.of_false e2 ?_; conv => whnf) | (exact Out.same; conv => whnf) | (exact Out1.same; conv => whnf) | (refine QAnd.mk ?_ ?_; conv => whnf) | (apply QStepH.go; conv => whnf) | (refine Both.lit_true ?_; conv => whnf) | (refine Both.lit_false ?_; conv => whnf) | (apply QStep.go; conv => whnf) | (refine Need.au ?_; conv => whnf) | (refine ⟨_, rfl, ?_⟩; conv => whnf)))
        exact ⟨_, _, WeakV.drop rfl, h⟩
  | [x, y], _, hf, hfin =>
    have hxo := hf.2 x (by simp)
    have hxi := hxo.i
    have c0 : decide (((([x, y] : List Lf).length : Nat) : Int) = 0) = false := rfl
    have c1 : decide (((([x, y] : List Lf).length : Nat) : Int) = 1) = false := rfl
    have hat0 : ((flL [x, y]).drop ((0 : Int).toNat * 5)).take 5 = [CV.int .i64 x.i, .int .i64 x.c, .str x.k, .str x.v, .sl 1 x.p.length (strs x.p) false] := rfl
    have hix0 : ti50.size = 5 ∧ (0 : Int) ≤ 0 ∧ (0 : Int) < ((([x, y] : List Lf).length : Nat) : Int) := ⟨rfl, by omega, by simp⟩
    have hat1 : ((flL [x, y]).drop ((1 : Int).toNat * 5)).take 5 = [CV.int .i64 y.i, .int .i64 y.c, .str y.k, .str y.v, .sl 1 y.p.length (strs y.p) false] := rfl
    have hix1 : ti50.size = 5 ∧ (0 : Int) ≤ 1 ∧ (1 : Int) < ((([x, y] : List Lf).length : Nat) : Int) := ⟨rfl, by omega, by simp⟩
    have hwi : IntKind.i64.wrap (x.i + 1) = x.i + 1 := wrap_i64 (by omega) (by omega)
    have hfin : ∀ b : Bool, (b = true ↔ (x.c = y.c ∧ x.i + 1 = y.i) ∧ lessS x.k key = true ∧ lessS key y.k = true) → Q (.bool b) [] := hfin
    by_cases q1 : x.c = y.c
    · have e1 : decide (x.c = y.c) = true := decide_eq_true q1
      by_cases q2 : x.i + 1 = y.i
      · have e2 : decide (IntKind.i64.wrap (x.i + 1) = y.i) = true := by rw [hwi]; exact decide_eq_true q2
        cases b1 : lessS x.k key with
        | true =>
          have h := hfin (lessS key y.k) ⟨fun u => ⟨⟨q1, q2⟩, b1, u⟩, fun u => u.2.2⟩
          (conv => whnf)
          (repeat (first | (refine Both.of_false c0 ?_; conv => whnf) | (refine Both.of_false c1 ?_; conv => whnf) | (exact Out.same; conv => whnf) | (exact Out1.same; conv => whnf) | (refine QAnd.mk ?_ ?_; conv => whnf) | (apply QStepH.go; conv => whnf) | (refine Both.lit_true ?_; conv => whnf) | (refine Both.lit_false ?_; conv => whnf) | (apply QStep.go; conv => whnf) | (refine Need.au ?_; conv => whnf) | (refine ⟨_, rfl, ?_⟩; conv => whnf)))
          (refine DrawVC.any Γok (by kernel_rfl) (by kernel_rfl) (by kernel_rfl) (by rfl) ?_; conv => whnf)
          (repeat (first | (refine Need.mk hix0 ?_; conv => whnf) | (refine Need.mk hix1 ?_; conv => whnf) | (refine ⟨_, hat0, ?_⟩; conv => whnf) | (refine ⟨_, hat1, ?_⟩; conv => whnf) | (refine Both.of_true e1 ?_; conv => whnf) | (refine Both.of_true e2 ?_; conv => whnf) | (refine Both.of_true b1 ?_; conv => whnf) | (exact Out.same; conv => whnf) | (exact Out1.same; conv => whnf) | (refine QAnd.mk ?_ ?_; conv => whnf) | (apply QStepH.go; conv => whnf) | (refine Both.lit_true ?_; conv => whnf) | (refine Both.lit_false ?_; conv => whnf) | (apply QStep.go; conv => whnf) | (refine Need.au ?_; conv => whnf) | (refine ⟨_, rfl, ?_⟩; conv => whnf)))
          exact ⟨_, _, WeakV.drop rfl, h⟩
        | false =>
          have h := hfin false ⟨fun u => (by cases u), fun u => by rw [b1] at u; cases u.2.1⟩
          (conv => whnf)
          (repeat (first | (refine Both.of_false c0 ?_; conv => whnf) | (refine Both.of_false c1 ?_; conv => whnf) | (exact Out.same; conv => whnf) | (exact Out1.same; conv => whnf) | (refine QAnd.mk ?_ ?_; conv => whnf) | (apply QStepH.go; conv => whnf) | (refine Both.lit_true ?_; conv => whnf) | (refine Both.lit_false ?_; conv => whnf) | (apply QStep.go; conv => whnf) | (refine Need.au ?_; conv => whnf) | (refine ⟨_, rfl, ?_⟩; conv => whnf)))
          (refine DrawVC.any Γok (by kernel_rfl) (by kernel_rfl) (by kernel_rfl) (by rfl) ?_; conv => whnf)
          (repeat (first | (refine Need.mk hix0 ?_; conv => whnf) | (refine Need.mk hix1 ?_; conv => whnf) | (refine ⟨_, hat0, ?_⟩; conv => whnf) | (refine ⟨_, hat1, ?_⟩; conv => whnf) | (refine Both.of_true e1 ?_; conv => whnf) | (refine Both.of_true e2 ?_; conv => whnf) | (refine Both.of_false b1 ?_; conv => whnf) | (exact Out.same; conv => whnf) | (exact Out1.same; conv => whnf) | (refine QAnd.mk ?_ ?_; conv => whnf) | (apply QStepH.go; conv => whnf) | (refine Both.lit_true ?_; conv => whnf) | (refine Both.lit_false ?_; conv => whnf) | (apply QStep.go; conv => whnf) | (refine Need.au ?_; conv => whnf) | (refine ⟨_, rfl, ?_⟩; conv => whnf)))
          exact ⟨_, _, WeakV.drop rfl, h⟩
      · have e2 : decide (IntKind.i64.wrap (x.i + 1) = y.i) = false := by rw [hwi]; exact decide_eq_false q2
        have h := hfin false ⟨fun u => (by cases u), fun u => absurd u.1.2 q2⟩
        (conv => whnf)
        (repeat (first | (refine Both.of_false c0 ?_; conv => whnf) | (refine Both.of_false c1 ?_; conv => whnf) | (exact Out.same; conv => whnf) | (exact Out1.same; conv => whnf) | (refine QAnd.mk ?_ ?_; conv => whnf) | (apply QStepH.go; conv => whnf) | (refine Both.lit_true ?_; conv => whnf) | (refine Both.lit_false ?_; conv => whnf) | (apply QStep.go; conv => whnf) | (refine Need.au ?_; conv => whnf) | (refine ⟨_, rfl, ?_⟩; conv => whnf)))
        (refine DrawVC.any Γok (by kernel_rfl) (by kernel_rfl) (by kernel_rfl) (by rfl) ?_; conv => whnf)
        (repeat (first | (refine Need.mk hix0 ?_; conv => whnf) | (refine Need.mk hix1 ?_; conv => whnf) | (refine ⟨_, hat0, ?_⟩; conv => whnf) | (refine ⟨_, hat1, ?_⟩; conv => whnf) | (refine Both.of_true e1 ?_; conv => whnf) | (refine Both.of_false e2 ?_; conv => whnf) | (exact Out.same; conv => whnf) | (exact Out1.same; conv => whnf) | (refine QAnd.mk ?_ ?_; conv => whnf) | (apply QStepH.go; conv => whnf) | (refine Both.lit_true ?_; conv => whnf) | (refine Both.lit_false ?_; conv => whnf) | (apply QStep.go; conv => whnf) | (refine Need.au ?_; conv => whnf) | (refine ⟨_, rfl, ?_⟩; conv => whnf)))
        exact ⟨_, _, WeakV.drop rfl, h⟩
    · have e1 : decide (x.c = y.c) = false := decide_eq_false q1
      have h := hfin false ⟨fun u => (by cases u), fun u => absurd u.1.1 q1⟩
      (conv => whnf)
      (repeat (first | (refine Both.of_false c0 ?_; conv => whnf) | (refine Both.of_false c1 ?_; conv => whnf) | (exact Out.same; conv => whnf) | (exact Out1.same; conv => whnf) | (refine QAnd.mk ?_ ?_; conv => whnf) | (apply QStepH.go; conv => whnf) | (refine Both.lit_true ?_; conv => whnf) | (refine Both.lit_false ?_; conv => whnf) | (apply QStep.go; conv => whnf) | (refine Need.au ?_; conv => whnf) | (refine ⟨_, rfl, ?_⟩; conv => whnf)))
      (refine DrawVC.any Γok (by kernel_rfl) (by kernel_rfl) (by kernel_rfl) (by rfl) ?_; conv => whnf)
      (repeat (first | (refine Need.mk hix0 ?_; conv => whnf) | (refine Need.mk hix1 ?_; conv => whnf) | (refine ⟨_, hat0, ?_⟩; conv => whnf) | (refine ⟨_, hat1, ?_⟩; conv => whnf) | (refine Both.of_false e1 ?_; conv => whnf) | (exact Out.same; conv => whnf) | (exact Out1.same; conv => whnf) | (refine QAnd.mk ?_ ?_; conv => whnf) | (apply QStepH.go; conv => whnf) | (refine Both.lit_true ?_; conv => whnf) | (refine Both.lit_false ?_; conv => whnf) | (apply QStep.go; conv => whnf) | (refine Need.au ?_; conv => whnf) | (refine ⟨_, rfl, ?_⟩; conv => whnf)))
      exact ⟨_, _, WeakV.drop rfl, h⟩
  | _ :: _ :: _ :: _, hl3, _, _ => exact absurd hl3 (by simp)
theorem lacks_k {y0 : CV} {cs0 : List CV} (hK : KAt y0 cs0) : Contract Tryz.prog [(0, y0 :: cs0)] 10 lacksS := ⟨⟨⟨_, rfl, rfl, rfl⟩⟩, lacks_c hK⟩
end Go.LX
end
section
set_option maxRecDepth 100000
set_option maxHeartbeats 2000000
set_option autoImplicit false
set_option linter.unusedVariables false
set_option linter.unusedSimpArgs false
namespace Go.LX
open Go.Proofs

open Classical in
noncomputable def clT (x : Lf) (T : List Bs) : List Bs := if rightP x.p x.i x.c then climbT (txLeaf (x.k, x.v)) x.i x.c x.p T else T
noncomputable def clsT : List Lf → List Bs → List Bs
  | [], T => T
  | x :: L, T => clsT L (clT x T)
theorem clsT_snoc (x : Lf) : ∀ (L : List Lf) (T : List Bs), clsT (L ++ [x]) T = clT x (clsT L T)
  | [], T => rfl
  | y :: L, T => clsT_snoc x L (clT y T)
theorem good_yes {root : Bs} {x : Lf} (h : rightP x.p x.i x.c) : goodC root x = decide (shaD (topX x.c.toNat (upD (txLeaf (x.k, x.v)) x.p x.i.toNat x.c.toNat)) = root) := by
  unfold goodC
  rw [climb_yes h]
  rfl
theorem good_no {root : Bs} {x : Lf} (h : ¬ rightP x.p x.i x.c) : goodC root x = false := by
  unfold goodC
  rw [climb_no h]
  rfl
theorem all_snoc {root : Bs} {x : Lf} {L : List Lf} : (∀ z ∈ L ++ [x], goodC root z = true) ↔ (∀ z ∈ L, goodC root z = true) ∧ goodC root x = true := by
  constructor
  · intro h
    exact ⟨fun z hz => h z (List.mem_append.2 (.inl hz)), h x (by simp)⟩
  · rintro ⟨h1, h2⟩ z hz
    rcases List.mem_append.1 hz with hz | hz
    · exact h1 z hz
    · rw [List.mem_singleton.1 hz]; exact h2
theorem take_snoc {L : List Lf} {j : Nat} (h : j < L.length) : L.take (j + 1) = L.take j ++ [L[j]] := (List.take_append_getElem h).symm
def rclimbsS : Spec := fun args H Q => match args with
  | [.ptr 0 0, .str root, .agg [.bool a, .sl 5 n cs false]] => inB H fun T => ∃ L : List Lf, cs = flL L ∧ n = L.length ∧ L.length ≤ 1000000 ∧ (∀ x ∈ L, okLf x) ∧ Q (.bool (decide (∀ x ∈ L, goodC root x = true))) (bkO (clsT L T))
  | _ => False
theorem rclimbs_c : Meets Tryz.prog [] 22 rclimbsS := by
  refine meets_of Γok Tryz.func22 rfl ?_
  intro args H Q h
  unfold rclimbsS at h
  split at h
  case h_2 => exact h.elim
  rename_i root a n cs
  obtain ⟨T, rfl, L, rfl, rfl, hL, hok, h⟩ := inB_out h
  (refine sx_sound Γok _ ?_; conv => whnf)
  (repeat (first | (exact Out.same; conv => whnf) | (exact Out1.same; conv => whnf) | (refine QAnd.mk ?_ ?_; conv => whnf) | (apply QStepH.go; conv => whnf) | (refine Both.lit_true ?_; conv => whnf) | (refine Both.lit_false ?_; conv => whnf) | (apply QStep.go; conv => whnf) | (refine Need.au ?_; conv => whnf) | (refine ⟨_, rfl, ?_⟩; conv => whnf)))
  refine loop_rule (fun x : Nat × Bool × List Bs => match x with | (j, b, U) => ⟨[.ptr 0 0, .str root, .any, .any, .any, .ptr 2 0, .any, .bool b, .int .i64 (j : Int), .any, .any, .any, .any, .any, .any, .any, .any, .any, .any, .any, .any, .any, .any, .any, .any, .any, .any, .any, .any, .any, .any, .any, .any, .any, .any, .any, .any, .any], bkO U ++ [.cells [.bool a, .sl 5 L.length (flL L) false] 42]⟩) (fun x => match x with | (j, b, U) => j ≤ L.length ∧ U = clsT (L.take j) T ∧ (b = true ↔ ∀ z ∈ L.take j, goodC root z = true)) (fun x => match x with | (j, b, U) => L.length - j) (0, true, T) ⟨Nat.zero_le _, rfl, ⟨fun _ z hz => (by simp at hz), fun _ => rfl⟩⟩ (Weak.auto ?_) ?_
  · (repeat' ((conv => whnf); first | exact True.intro | (refine And.intro ?_ ?_)))
    all_goals first | rfl | exact .eq rfl
  rintro ⟨j, b, U⟩ ⟨hj, hU, hb⟩
  (refine sx_sound Γok _ ?_; conv => whnf)
  (repeat (first | (exact Out.same; conv => whnf) | (exact Out1.same; conv => whnf) | (refine QAnd.mk ?_ ?_; conv => whnf) | (apply QStepH.go; conv => whnf) | (refine Both.lit_true ?_; conv => whnf) | (refine Both.lit_false ?_; conv => whnf) | (apply QStep.go; conv => whnf) | (refine Need.au ?_; conv => whnf) | (refine ⟨_, rfl, ?_⟩; conv => whnf)))
  refine Both.dec (fun hlt => ?_) (fun hge => ?_)
  rotate_left
  · have hje : j = L.length := by omega
    rw [hje, List.take_length] at hU hb
    have hbe : b = decide (∀ x ∈ L, goodC root x = true) := by
      cases b with
      | true => exact (decide_eq_true (hb.1 rfl)).symm
      | false => exact (decide_eq_false (fun u => by cases hb.2 u)).symm
    rw [← hbe, ← hU] at h
    (conv => whnf)
    (repeat (first | (exact Out.same; conv => whnf) | (exact Out1.same; conv => whnf) | (refine QAnd.mk ?_ ?_; conv => whnf) | (apply QStepH.go; conv => whnf) | (refine Both.lit_true ?_; conv => whnf) | (refine Both.lit_false ?_; conv => whnf) | (apply QStep.go; conv => whnf) | (refine Need.au ?_; conv => whnf) | (refine ⟨_, rfl, ?_⟩; conv => whnf)))
    refine ⟨_, _, WeakV.auto ?_, h⟩
    (repeat' ((conv => whnf); first | exact True.intro | (refine And.intro ?_ ?_)))
    all_goals first | rfl | exact .eq rfl
  have hjl : j < L.length := by omega
  have hts := take_snoc hjl
  have hxo : okLf L[j] := hok _ (List.getElem_mem _)
  have hwr : IntKind.i64.wrap ((j : Int) + 1) = ((j + 1 : Nat) : Int) := by rw [wrap_i64 (by omega) (by omega)]; rfl
  have hU2 := clsT_snoc L[j] (L.take j) T
  rw [← hts, ← hU] at hU2
  have hb2 : (∀ z ∈ L.take (j + 1), goodC root z = true) ↔ b = true ∧ goodC root L[j] = true := by rw [hts, all_snoc, hb]
  have hat := flL_at L hjl L[j]
  rw [show L.getD j L[j] = L[j] from by rw [List.getD_eq_getElem?_getD, List.getElem?_eq_getElem hjl]; rfl] at hat
  have hix : ti50.size = 5 ∧ (0 : Int) ≤ (j : Int) ∧ (j : Int) < ((L.length : Nat) : Int) := ⟨rfl, by omega, by omega⟩
  generalize L[j] = x at hxo hU2 hb2 hat
  have hxp := hxo.p
  have hxk := hxo.k
  have hxv := hxo.v
  (conv => whnf)
  (repeat (first | (refine Need.mk hix ?_; conv => whnf) | (refine ⟨_, hat, ?_⟩; conv => whnf) | (exact Out.same; conv => whnf) | (exact Out1.same; conv => whnf) | (refine QAnd.mk ?_ ?_; conv => whnf) | (apply QStepH.go; conv => whnf) | (refine Both.lit_true ?_; conv => whnf) | (refine Both.lit_false ?_; conv => whnf) | (apply QStep.go; conv => whnf) | (refine Need.au ?_; conv => whnf) | (refine ⟨_, rfl, ?_⟩; conv => whnf)))
  refine CallVC.auto rclimb_k (inB_mk ⟨x.p, rfl, rfl, by omega, by omega, by omega, fun hr => ?_, fun hr => ?_⟩)
  · have hg := good_yes (root := root) hr
    have hcT : clT x U = climbT (txLeaf (x.k, x.v)) x.i x.c x.p U := if_pos hr
    obtain ⟨U2, hU3⟩ : ∃ U2, clsT (L.take (j + 1)) T = U2 := ⟨_, rfl⟩
    rw [← hcT, ← hU2, hU3]
    rw [hg] at hb2
    generalize shaD (topX x.c.toNat (upD (txLeaf (x.k, x.v)) x.p x.i.toNat x.c.toNat)) = d at hb2 ⊢
    cases b with
    | false =>
      (conv => whnf)
      (repeat (first | (exact Out.same; conv => whnf) | (exact Out1.same; conv => whnf) | (refine QAnd.mk ?_ ?_; conv => whnf) | (apply QStepH.go; conv => whnf) | (refine Both.lit_true ?_; conv => whnf) | (refine Both.lit_false ?_; conv => whnf) | (apply QStep.go; conv => whnf) | (refine Need.au ?_; conv => whnf) | (refine ⟨_, rfl, ?_⟩; conv => whnf)))
      refine ⟨(j + 1, false, U2), ⟨hjl, hU3.symm, ⟨fun q => (by cases q), fun q => (hb2.1 q).1⟩⟩, by show L.length - (j + 1) < L.length - j; omega, Weak.auto ?_⟩
      (repeat' ((conv => whnf); first | exact True.intro | (refine And.intro ?_ ?_)))
      all_goals first | rfl | exact .eq rfl | exact congrArg (SV.int .i64) hwr
    | true =>
      (conv => whnf)
      (repeat (first | (exact Out.same; conv => whnf) | (exact Out1.same; conv => whnf) | (refine QAnd.mk ?_ ?_; conv => whnf) | (apply QStepH.go; conv => whnf) | (refine Both.lit_true ?_; conv => whnf) | (refine Both.lit_false ?_; conv => whnf) | (apply QStep.go; conv => whnf) | (refine Need.au ?_; conv => whnf) | (refine ⟨_, rfl, ?_⟩; conv => whnf)))
      refine ⟨(j + 1, decide (d = root), U2), ⟨hjl, hU3.symm, ⟨fun q => hb2.2 ⟨rfl, q⟩, fun q => (hb2.1 q).2⟩⟩, by show L.length - (j + 1) < L.length - j; omega, Weak.auto ?_⟩
      (repeat' ((conv => whnf); first | exact True.intro | (refine And.intro ?_ ?_)))
      all_goals first | rfl | exact .eq rfl | exact congrArg (SV.int .i64) hwr
  · have hg := good_no (root := root) hr
    have hcT : clT x U = U := if_neg hr
    rw [hcT] at hU2
    rw [hg] at hb2
    have hbf : ¬ ∀ z ∈ L.take (j + 1), goodC root z = true := fun q => by cases (hb2.1 q).2
    cases b with
    | false =>
      (conv => whnf)
      (repeat (first | (exact Out.same; conv => whnf) | (exact Out1.same; conv => whnf) | (refine QAnd.mk ?_ ?_; conv => whnf) | (apply QStepH.go; conv => whnf) | (refine Both.lit_true ?_; conv => whnf) | (refine Both.lit_false ?_; conv => whnf) | (apply QStep.go; conv => whnf) | (refine Need.au ?_; conv => whnf) | (refine ⟨_, rfl, ?_⟩; conv => whnf)))
      refine ⟨(j + 1, false, U), ⟨hjl, hU2.symm, ⟨fun q => (by cases q), fun q => absurd q hbf⟩⟩, by show L.length - (j + 1) < L.length - j; omega, Weak.auto ?_⟩
      (repeat' ((conv => whnf); first | exact True.intro | (refine And.intro ?_ ?_)))
      all_goals first | rfl | exact .eq rfl | exact congrArg (SV.int .i64) hwr
    | true =>
      (conv => whnf)
      (repeat (first | (exact Out.same; conv => whnf) | (exact Out1.same; conv => whnf) | (refine QAnd.mk ?_ ?_; conv => whnf) | (apply QStepH.go; conv => whnf) | (refine Both.lit_true ?_; conv => whnf) | (refine Both.lit_false ?_; conv => whnf) | (apply QStep.go; conv => whnf) | (refine Need.au ?_; conv => whnf) | (refine ⟨_, rfl, ?_⟩; conv => whnf)))
      refine ⟨(j + 1, false, U), ⟨hjl, hU2.symm, ⟨fun q => (by cases q), fun q => absurd q hbf⟩⟩, by show L.length - (j + 1) < L.length - j; omega, Weak.auto ?_⟩
      (repeat' ((conv => whnf); first | exact True.intro | (refine And.intro ?_ ?_)))
      all_goals first | rfl | exact .eq rfl | exact congrArg (SV.int .i64) hwr
theorem rclimbs_k : Contract Tryz.prog [] 22 rclimbsS := ⟨⟨⟨_, rfl, rfl, rfl⟩⟩, rclimbs_c⟩
end Go.LX
end
section
set_option maxRecDepth 100000
set_option maxHeartbeats 2000000
set_option autoImplicit false
set_option linter.unusedVariables false
set_option linter.unusedSimpArgs false
namespace Go.LX
open Go.Proofs

theorem gt_k (a b : Bs) : (!(lessS a b || decide (a = b))) = lessS b a := by
  rw [less_tri0 b a, show decide (a = b) = decide (b = a) from decide_eq_decide.2 ⟨Eq.symm, Eq.symm⟩]
def rrootNS : Spec := fun args H Q => match args with
  | [.ptr 0 0, .nilsl] => inB H fun T => Q (.str (shaD (topX 0 []))) (bkO (topX 0 [] :: T))
  | _ => False
theorem rrootN_c : Meets Tryz.prog [] 14 rrootNS := by
  refine meets_of Γok Tryz.func14 rfl ?_
  intro args H Q h
  unfold rrootNS at h
  split at h
  case h_2 => exact h.elim
  obtain ⟨T, rfl, h2⟩ := inB_out h
  have h := h2
  clear h2
  have hz : decide ((((0 : Nat) : Nat) : Int) = 0) = true := rfl
  (refine sx_sound Γok _ ?_; conv => whnf)
  (repeat (first | (refine Both.of_true hz ?_; conv => whnf) | (exact Out.same; conv => whnf) | (exact Out1.same; conv => whnf) | (refine QAnd.mk ?_ ?_; conv => whnf) | (apply QStepH.go; conv => whnf) | (refine Both.lit_true ?_; conv => whnf) | (refine Both.lit_false ?_; conv => whnf) | (apply QStep.go; conv => whnf) | (refine Need.au ?_; conv => whnf) | (refine ⟨_, rfl, ?_⟩; conv => whnf)))
  refine CallVC.auto rtop_k (inB_mk ⟨by decide, by decide, by decide, ?_⟩)
  (conv => whnf)
  (repeat (first | (exact Out.same; conv => whnf) | (exact Out1.same; conv => whnf) | (refine QAnd.mk ?_ ?_; conv => whnf) | (apply QStepH.go; conv => whnf) | (refine Both.lit_true ?_; conv => whnf) | (refine Both.lit_false ?_; conv => whnf) | (apply QStep.go; conv => whnf) | (refine Need.au ?_; conv => whnf) | (refine ⟨_, rfl, ?_⟩; conv => whnf)))
  refine ⟨_, _, WeakV.auto ?_, h⟩
  (repeat' ((conv => whnf); first | exact True.intro | (refine And.intro ?_ ?_)))
  all_goals first | rfl | exact .eq rfl
theorem rrootN_k : Contract Tryz.prog [] 14 rrootNS := ⟨⟨⟨_, rfl, rfl, rfl⟩⟩, rrootN_c⟩
noncomputable def hasT (s : Bs) (T : List Bs) : List Bs := if (parseV s).2 = 0 ∧ (parseV s).1.1 = false ∧ (parseV s).1.2.length = 1 then clsT (parseV s).1.2 T else T
noncomputable def lacksT (s key : Bs) (T : List Bs) : List Bs := if ((parseV s).2 = 0 ∧ (parseV s).1.1 = true) ∧ (1 ≤ key.length ∧ key.length ≤ 16) then (if (parseV s).1.2.length = 0 then topX 0 [] :: T else clsT (parseV s).1.2 T) else T
open Classical in
def rhasS : Spec := fun args H Q => match args with
  | [.ptr 0 0, .str root, .str s, .str key, .str value] => inB H fun T => s.length < 1000000 ∧ Q (.bool (decide (hasP root s key value))) (bkO (hasT s T))
  | _ => False
open Classical in
theorem rhas_c : Meets Tryz.prog [] 9 rhasS := by
  refine meets_of Γok Tryz.func9 rfl ?_
  intro args H Q h
  unfold rhasS at h
  split at h
  case h_2 => exact h.elim
  rename_i root s key value
  obtain ⟨T, rfl, hs, h⟩ := inB_out h
  have cz : (!decide ((0 : Int) = 0)) = false := rfl
  have c5 : (!decide ((5 : Int) = 0)) = true := rfl
  rcases parseV_cases s with ⟨a, L, hf, hr, hp⟩ | hp
  case inr =>
    have hn : ¬ hasP root s key value := fun ⟨x, q, _⟩ => by
      have := (Prod.mk.inj (hp.symm.trans q)).2
      cases this
    have hT : hasT s T = T := by
      unfold hasT
      rw [hp, if_neg (fun q => by have := q.1; cases this)]
    rw [decide_eq_false hn, hT] at h
    (refine sx_sound Γok _ ?_; conv => whnf)
    (repeat (first | (exact Out.same; conv => whnf) | (exact Out1.same; conv => whnf) | (refine QAnd.mk ?_ ?_; conv => whnf) | (apply QStepH.go; conv => whnf) | (refine Both.lit_true ?_; conv => whnf) | (refine Both.lit_false ?_; conv => whnf) | (apply QStep.go; conv => whnf) | (refine Need.au ?_; conv => whnf) | (refine ⟨_, rfl, ?_⟩; conv => whnf)))
    refine CallVC.auto rparse_k ⟨hs, fun a1 L1 e1 h1 => ?_⟩
    obtain ⟨u1, u3⟩ := Prod.mk.inj (h1.symm.trans hp)
    obtain ⟨u1, u2⟩ := Prod.mk.inj u1
    clear h1
    subst u1 u2 u3
    (conv => whnf)
    (repeat (first | (refine Both.of_true c5 ?_; conv => whnf) | (exact Out.same; conv => whnf) | (exact Out1.same; conv => whnf) | (refine QAnd.mk ?_ ?_; conv => whnf) | (apply QStepH.go; conv => whnf) | (refine Both.lit_true ?_; conv => whnf) | (refine Both.lit_false ?_; conv => whnf) | (apply QStep.go; conv => whnf) | (refine Need.au ?_; conv => whnf) | (refine ⟨_, rfl, ?_⟩; conv => whnf)))
    refine ⟨_, _, WeakV.auto ?_, h⟩
    (repeat' ((conv => whnf); first | exact True.intro | (refine And.intro ?_ ?_)))
    all_goals first | rfl | exact .eq rfl
  (refine sx_sound Γok _ ?_; conv => whnf)
  (repeat (first | (exact Out.same; conv => whnf) | (exact Out1.same; conv => whnf) | (refine QAnd.mk ?_ ?_; conv => whnf) | (apply QStepH.go; conv => whnf) | (refine Both.lit_true ?_; conv => whnf) | (refine Both.lit_false ?_; conv => whnf) | (apply QStep.go; conv => whnf) | (refine Need.au ?_; conv => whnf) | (refine ⟨_, rfl, ?_⟩; conv => whnf)))
  refine CallVC.auto rparse_k ⟨hs, fun a1 L1 e1 h1 => ?_⟩
  obtain ⟨u1, u3⟩ := Prod.mk.inj (h1.symm.trans hp)
  obtain ⟨u1, u2⟩ := Prod.mk.inj u1
  clear h1
  subst u1 u2 u3
  cases a1 with
  | true =>
    have hn : ¬ hasP root s key value := fun ⟨x, q, _⟩ => by
      have := (Prod.mk.inj (Prod.mk.inj (hp.symm.trans q)).1).1
      cases this
    have hT : hasT s T = T := by
      unfold hasT
      rw [hp, if_neg (fun q => by have := q.2.1; cases this)]
    rw [decide_eq_false hn, hT] at h
    (conv => whnf)
    (repeat (first | (refine Both.of_false cz ?_; conv => whnf) | (exact Out.same; conv => whnf) | (exact Out1.same; conv => whnf) | (refine QAnd.mk ?_ ?_; conv => whnf) | (apply QStepH.go; conv => whnf) | (refine Both.lit_true ?_; conv => whnf) | (refine Both.lit_false ?_; conv => whnf) | (apply QStep.go; conv => whnf) | (refine Need.au ?_; conv => whnf) | (refine ⟨_, rfl, ?_⟩; conv => whnf)))
    refine ⟨_, _, WeakV.auto ?_, h⟩
    (repeat' ((conv => whnf); first | exact True.intro | (refine And.intro ?_ ?_)))
    all_goals first | rfl | exact .eq rfl
  | false =>
  by_cases hl : L1.length = 1
  case neg =>
    have cl : (!decide (((L1.length : Nat) : Int) = 1)) = true := by rw [decide_eq_false (by omega)]; rfl
    have hn : ¬ hasP root s key value := fun ⟨x, q, _⟩ => by
      have := (Prod.mk.inj (Prod.mk.inj (hp.symm.trans q)).1).2
      rw [this] at hl
      exact hl rfl
    have hT : hasT s T = T := by
      unfold hasT
      rw [hp, if_neg (fun q => hl q.2.2)]
    rw [decide_eq_false hn, hT] at h
    (conv => whnf)
    (repeat (first | (refine Both.of_false cz ?_; conv => whnf) | (refine Both.of_true cl ?_; conv => whnf) | (exact Out.same; conv => whnf) | (exact Out1.same; conv => whnf) | (refine QAnd.mk ?_ ?_; conv => whnf) | (apply QStepH.go; conv => whnf) | (refine Both.lit_true ?_; conv => whnf) | (refine Both.lit_false ?_; conv => whnf) | (apply QStep.go; conv => whnf) | (refine Need.au ?_; conv => whnf) | (refine ⟨_, rfl, ?_⟩; conv => whnf)))
    refine ⟨_, _, WeakV.auto ?_, h⟩
    (repeat' ((conv => whnf); first | exact True.intro | (refine And.intro ?_ ?_)))
    all_goals first | rfl | exact .eq rfl
  obtain ⟨x, rfl⟩ : ∃ x, L1 = [x] := List.length_eq_one_iff.1 hl
  have hxo := hf.2 x (List.mem_singleton.2 rfl)
  have hT : hasT s T = clsT [x] T := by
    unfold hasT
    rw [hp, if_pos ⟨rfl, rfl, rfl⟩]
  rw [hT] at h
  have cl : (!decide (((([x] : List Lf).length : Nat) : Int) = 1)) = false := rfl
  have hat : ((flL [x]).drop ((0 : Int).toNat * 5)).take 5 = [CV.int .i64 x.i, .int .i64 x.c, .str x.k, .str x.v, .sl 1 x.p.length (strs x.p) false] := rfl
  have hix : ti50.size = 5 ∧ (0 : Int) ≤ 0 ∧ (0 : Int) < ((([x] : List Lf).length : Nat) : Int) := ⟨rfl, by omega, by simp⟩
  have ho1 : ([x] : List Lf).length ≤ 1000000 := by show 1 ≤ 1000000; decide
  have hoA : ∀ z ∈ [x], okLf z := fun z hz => by rw [List.mem_singleton.1 hz]; exact hxo
  have hone : ∀ z : Lf, parseV s = ((false, [z]), 0) → x = z := fun z q => by
    have := (Prod.mk.inj (Prod.mk.inj (hp.symm.trans q)).1).2
    simpa using this
  have hfin : ∀ b : Bool, (b = true ↔ ((∀ z ∈ [x], goodC root z = true) ∧ x.k = key) ∧ x.v = value) → Q (.bool b) (bkO (clsT [x] T)) := fun b q => by
    have e : b = decide (hasP root s key value) := by
      have q2 : b = true ↔ hasP root s key value := q.trans ⟨fun u => ⟨x, hp, ⟨u.1.2, u.2⟩, u.1.1 x (List.mem_singleton.2 rfl)⟩, fun ⟨z, q3, q4, q5⟩ => by
        obtain rfl := hone z q3
        exact ⟨⟨fun y hy => by rw [List.mem_singleton.1 hy]; exact q5, q4.1⟩, q4.2⟩⟩
      cases b with
      | true => exact (decide_eq_true (q2.1 rfl)).symm
      | false => exact (decide_eq_false (fun u => by cases q2.2 u)).symm
    rw [e]
    exact h
  (conv => whnf)
  (repeat (first | (refine Both.of_false cz ?_; conv => whnf) | (refine Both.of_false cl ?_; conv => whnf) | (exact Out.same; conv => whnf) | (exact Out1.same; conv => whnf) | (refine QAnd.mk ?_ ?_; conv => whnf) | (apply QStepH.go; conv => whnf) | (refine Both.lit_true ?_; conv => whnf) | (refine Both.lit_false ?_; conv => whnf) | (apply QStep.go; conv => whnf) | (refine Need.au ?_; conv => whnf) | (refine ⟨_, rfl, ?_⟩; conv => whnf)))
  refine CallVC.auto rclimbs_k (inB_mk ⟨[x], rfl, rfl, ho1, hoA, ?_⟩)
  by_cases hg : ∀ z ∈ [x], goodC root z = true
  case neg =>
    rw [decide_eq_false hg]
    have h := hfin false ⟨fun u => (by cases u), fun u => absurd u.1.1 hg⟩
    (conv => whnf)
    (repeat (first | (exact Out.same; conv => whnf) | (exact Out1.same; conv => whnf) | (refine QAnd.mk ?_ ?_; conv => whnf) | (apply QStepH.go; conv => whnf) | (refine Both.lit_true ?_; conv => whnf) | (refine Both.lit_false ?_; conv => whnf) | (apply QStep.go; conv => whnf) | (refine Need.au ?_; conv => whnf) | (refine ⟨_, rfl, ?_⟩; conv => whnf)))
    refine ⟨_, _, WeakV.auto ?_, h⟩
    (repeat' ((conv => whnf); first | exact True.intro | (refine And.intro ?_ ?_)))
    all_goals first | rfl | exact .eq rfl
  rw [decide_eq_true hg]
  by_cases hk : x.k = key
  case neg =>
    have ck : decide (x.k = key) = false := decide_eq_false hk
    have h := hfin false ⟨fun u => (by cases u), fun u => absurd u.1.2 hk⟩
    (conv => whnf)
    (repeat (first | (refine Need.mk hix ?_; conv => whnf) | (refine ⟨_, hat, ?_⟩; conv => whnf) | (refine Both.of_false ck ?_; conv => whnf) | (exact Out.same; conv => whnf) | (exact Out1.same; conv => whnf) | (refine QAnd.mk ?_ ?_; conv => whnf) | (apply QStepH.go; conv => whnf) | (refine Both.lit_true ?_; conv => whnf) | (refine Both.lit_false ?_; conv => whnf) | (apply QStep.go; conv => whnf) | (refine Need.au ?_; conv => whnf) | (refine ⟨_, rfl, ?_⟩; conv => whnf)))
    refine ⟨_, _, WeakV.auto ?_, h⟩
    (repeat' ((conv => whnf); first | exact True.intro | (refine And.intro ?_ ?_)))
    all_goals first | rfl | exact .eq rfl
  have ck : decide (x.k = key) = true := decide_eq_true hk
  have h := hfin (decide (x.v = value)) ⟨fun u => ⟨⟨hg, hk⟩, of_decide_eq_true u⟩, fun u => decide_eq_true u.2⟩
  (conv => whnf)
  (repeat (first | (refine Need.mk hix ?_; conv => whnf) | (refine ⟨_, hat, ?_⟩; conv => whnf) | (refine Both.of_true ck ?_; conv => whnf) | (exact Out.same; conv => whnf) | (exact Out1.same; conv => whnf) | (refine QAnd.mk ?_ ?_; conv => whnf) | (apply QStepH.go; conv => whnf) | (refine Both.lit_true ?_; conv => whnf) | (refine Both.lit_false ?_; conv => whnf) | (apply QStep.go; conv => whnf) | (refine Need.au ?_; conv => whnf) | (refine ⟨_, rfl, ?_⟩; conv => whnf)))
  refine ⟨_, _, WeakV.auto ?_, h⟩
  (repeat' ((conv => whnf); first | exact True.intro | (refine And.intro ?_ ?_)))
  all_goals first | rfl | exact .eq rfl
theorem rhas_k : Contract Tryz.prog [] 9 rhasS := ⟨⟨⟨_, rfl, rfl, rfl⟩⟩, rhas_c⟩
open Classical in
def rlacksS : Spec := fun args H Q => match args with
  | [.ptr 0 0, .str root, .str s, .str key] => inB H fun T => s.length < 1000000 ∧ Q (.bool (decide (lacksP root s key))) (bkO (lacksT s key T))
  | _ => False
open Classical in
theorem rlacks_c : Meets Tryz.prog [] 11 rlacksS := by
  refine meets_of Γok Tryz.func11 rfl ?_
  intro args H Q h
  unfold rlacksS at h
  split at h
  case h_2 => exact h.elim
  rename_i root s key
  obtain ⟨T, rfl, hs, h⟩ := inB_out h
  have cz : (!decide ((0 : Int) = 0)) = false := rfl
  have c5 : (!decide ((5 : Int) = 0)) = true := rfl
  rcases parseV_cases s with ⟨a, L, hf, hr, hp⟩ | hp
  case inr =>
    have hn : ¬ lacksP root s key := fun ⟨_, L, q, _⟩ => by
      have := (Prod.mk.inj (hp.symm.trans q)).2
      cases this
    have hT : lacksT s key T = T := by
      unfold lacksT
      rw [hp, if_neg (fun q => by have := q.1.1; cases this)]
    rw [decide_eq_false hn, hT] at h
    (refine sx_sound Γok _ ?_; conv => whnf)
    (repeat (first | (exact Out.same; conv => whnf) | (exact Out1.same; conv => whnf) | (refine QAnd.mk ?_ ?_; conv => whnf) | (apply QStepH.go; conv => whnf) | (refine Both.lit_true ?_; conv => whnf) | (refine Both.lit_false ?_; conv => whnf) | (apply QStep.go; conv => whnf) | (refine Need.au ?_; conv => whnf) | (refine ⟨_, rfl, ?_⟩; conv => whnf)))
    refine CallVC.auto rparse_k ⟨hs, fun a1 L1 e1 h1 => ?_⟩
    obtain ⟨u1, u3⟩ := Prod.mk.inj (h1.symm.trans hp)
    obtain ⟨u1, u2⟩ := Prod.mk.inj u1
    clear h1
    subst u1 u2 u3
    (conv => whnf)
    (repeat (first | (refine Both.of_true c5 ?_; conv => whnf) | (exact Out.same; conv => whnf) | (exact Out1.same; conv => whnf) | (refine QAnd.mk ?_ ?_; conv => whnf) | (apply QStepH.go; conv => whnf) | (refine Both.lit_true ?_; conv => whnf) | (refine Both.lit_false ?_; conv => whnf) | (apply QStep.go; conv => whnf) | (refine Need.au ?_; conv => whnf) | (refine ⟨_, rfl, ?_⟩; conv => whnf)))
    refine ⟨_, _, WeakV.auto ?_, h⟩
    (repeat' ((conv => whnf); first | exact True.intro | (refine And.intro ?_ ?_)))
    all_goals first | rfl | exact .eq rfl
  (refine sx_sound Γok _ ?_; conv => whnf)
  (repeat (first | (exact Out.same; conv => whnf) | (exact Out1.same; conv => whnf) | (refine QAnd.mk ?_ ?_; conv => whnf) | (apply QStepH.go; conv => whnf) | (refine Both.lit_true ?_; conv => whnf) | (refine Both.lit_false ?_; conv => whnf) | (apply QStep.go; conv => whnf) | (refine Need.au ?_; conv => whnf) | (refine ⟨_, rfl, ?_⟩; conv => whnf)))
  refine CallVC.auto rparse_k ⟨hs, fun a1 L1 e1 h1 => ?_⟩
  obtain ⟨u1, u3⟩ := Prod.mk.inj (h1.symm.trans hp)
  obtain ⟨u1, u2⟩ := Prod.mk.inj u1
  clear h1
  subst u1 u2 u3
  cases a1 with
  | false =>
    have hn : ¬ lacksP root s key := fun ⟨_, L, q, _⟩ => by
      have := (Prod.mk.inj (Prod.mk.inj (hp.symm.trans q)).1).1
      cases this
    have hT : lacksT s key T = T := by
      unfold lacksT
      rw [hp, if_neg (fun q => by have := q.1.2; cases this)]
    rw [decide_eq_false hn, hT] at h
    (conv => whnf)
    (repeat (first | (refine Both.of_false cz ?_; conv => whnf) | (exact Out.same; conv => whnf) | (exact Out1.same; conv => whnf) | (refine QAnd.mk ?_ ?_; conv => whnf) | (apply QStepH.go; conv => whnf) | (refine Both.lit_true ?_; conv => whnf) | (refine Both.lit_false ?_; conv => whnf) | (apply QStep.go; conv => whnf) | (refine Need.au ?_; conv => whnf) | (refine ⟨_, rfl, ?_⟩; conv => whnf)))
    refine ⟨_, _, WeakV.auto ?_, h⟩
    (repeat' ((conv => whnf); first | exact True.intro | (refine And.intro ?_ ?_)))
    all_goals first | rfl | exact .eq rfl
  | true =>
  have hLu : ∀ L, parseV s = ((true, L), 0) → L1 = L := fun L q => (Prod.mk.inj (Prod.mk.inj (hp.symm.trans q)).1).2
  by_cases hkl : 1 ≤ key.length ∧ key.length ≤ 16
  case neg =>
    have hn : ¬ lacksP root s key := fun q => hkl q.1
    have hT : lacksT s key T = T := by
      unfold lacksT
      rw [if_neg (fun q => hkl q.2)]
    rw [decide_eq_false hn, hT] at h
    (conv => whnf)
    (repeat (first | (refine Both.of_false cz ?_; conv => whnf) | (exact Out.same; conv => whnf) | (exact Out1.same; conv => whnf) | (refine QAnd.mk ?_ ?_; conv => whnf) | (apply QStepH.go; conv => whnf) | (refine Both.lit_true ?_; conv => whnf) | (refine Both.lit_false ?_; conv => whnf) | (apply QStep.go; conv => whnf) | (refine Need.au ?_; conv => whnf) | (refine ⟨_, rfl, ?_⟩; conv => whnf)))
    refine Both.dec (fun k1 => ?_) (fun k1 => ?_)
    · (conv => whnf)
      (repeat (first | (exact Out.same; conv => whnf) | (exact Out1.same; conv => whnf) | (refine QAnd.mk ?_ ?_; conv => whnf) | (apply QStepH.go; conv => whnf) | (refine Both.lit_true ?_; conv => whnf) | (refine Both.lit_false ?_; conv => whnf) | (apply QStep.go; conv => whnf) | (refine Need.au ?_; conv => whnf) | (refine ⟨_, rfl, ?_⟩; conv => whnf)))
      refine ⟨_, _, WeakV.auto ?_, h⟩
      (repeat' ((conv => whnf); first | exact True.intro | (refine And.intro ?_ ?_)))
      all_goals first | rfl | exact .eq rfl
    (conv => whnf)
    (repeat (first | (exact Out.same; conv => whnf) | (exact Out1.same; conv => whnf) | (refine QAnd.mk ?_ ?_; conv => whnf) | (apply QStepH.go; conv => whnf) | (refine Both.lit_true ?_; conv => whnf) | (refine Both.lit_false ?_; conv => whnf) | (apply QStep.go; conv => whnf) | (refine Need.au ?_; conv => whnf) | (refine ⟨_, rfl, ?_⟩; conv => whnf)))
    refine Both.dec (fun k2 => ?_) (fun k2 => ?_)
    · (conv => whnf)
      (repeat (first | (exact Out.same; conv => whnf) | (exact Out1.same; conv => whnf) | (refine QAnd.mk ?_ ?_; conv => whnf) | (apply QStepH.go; conv => whnf) | (refine Both.lit_true ?_; conv => whnf) | (refine Both.lit_false ?_; conv => whnf) | (apply QStep.go; conv => whnf) | (refine Need.au ?_; conv => whnf) | (refine ⟨_, rfl, ?_⟩; conv => whnf)))
      refine ⟨_, _, WeakV.auto ?_, h⟩
      (repeat' ((conv => whnf); first | exact True.intro | (refine And.intro ?_ ?_)))
      all_goals first | rfl | exact .eq rfl
    · exact absurd (by omega) hkl
  have hT : lacksT s key T = (if L1.length = 0 then topX 0 [] :: T else clsT L1 T) := by
    unfold lacksT
    rw [hp, if_pos ⟨⟨rfl, rfl⟩, hkl⟩]
  rw [hT] at h
  have k1 : decide (((key.length : Nat) : Int) < 1) = false := decide_eq_false (by omega)
  have k2 : decide ((16 : Int) < ((key.length : Nat) : Int)) = false := decide_eq_false (by omega)
  have hval : ∀ b : Bool, (b = true ↔ (∀ x ∈ L1, goodC root x = true) ∧ standL root key L1) → Q (.bool b) (bkO (if L1.length = 0 then topX 0 [] :: T else clsT L1 T)) := fun b q => by
    have q2 : b = true ↔ lacksP root s key := q.trans ⟨fun u => ⟨hkl, L1, hp, u.1, u.2⟩, fun ⟨_, L, v, u1, u2⟩ => by rw [hLu L v]; exact ⟨u1, u2⟩⟩
    have e : b = decide (lacksP root s key) := by
      cases b with
      | true => exact (decide_eq_true (q2.1 rfl)).symm
      | false => exact (decide_eq_false (fun u => by cases q2.2 u)).symm
    rw [e]
    exact h
  clear h
  (conv => whnf)
  (repeat (first | (refine Both.of_false cz ?_; conv => whnf) | (refine Both.of_false k1 ?_; conv => whnf) | (refine Both.of_false k2 ?_; conv => whnf) | (exact Out.same; conv => whnf) | (exact Out1.same; conv => whnf) | (refine QAnd.mk ?_ ?_; conv => whnf) | (apply QStepH.go; conv => whnf) | (refine Both.lit_true ?_; conv => whnf) | (refine Both.lit_false ?_; conv => whnf) | (apply QStep.go; conv => whnf) | (refine Need.au ?_; conv => whnf) | (refine ⟨_, rfl, ?_⟩; conv => whnf)))
  refine CallVC.auto rclimbs_k (inB_mk ⟨L1, rfl, rfl, (fits_sm hf).1, hf.2, ?_⟩)
  by_cases hall : ∀ x ∈ L1, goodC root x = true
  case neg =>
    have hl0 : ¬ L1.length = 0 := fun q => hall (fun x hx => by rw [List.eq_nil_of_length_eq_zero q] at hx; cases hx)
    have h := hval false ⟨fun u => (by cases u), fun u => absurd u.1 hall⟩
    rw [if_neg hl0] at h
    rw [decide_eq_false hall]
    (conv => whnf)
    (repeat (first | (exact Out.same; conv => whnf) | (exact Out1.same; conv => whnf) | (refine QAnd.mk ?_ ?_; conv => whnf) | (apply QStepH.go; conv => whnf) | (refine Both.lit_true ?_; conv => whnf) | (refine Both.lit_false ?_; conv => whnf) | (apply QStep.go; conv => whnf) | (refine Need.au ?_; conv => whnf) | (refine ⟨_, rfl, ?_⟩; conv => whnf)))
    refine ⟨_, _, WeakV.auto ?_, h⟩
    (repeat' ((conv => whnf); first | exact True.intro | (refine And.intro ?_ ?_)))
    all_goals first | rfl | exact .eq rfl
  rw [decide_eq_true hall]
  have hfin : ∀ b : Bool, (b = true ↔ standL root key L1) → Q (.bool b) (bkO (if L1.length = 0 then topX 0 [] :: T else clsT L1 T)) := fun b q => hval b (q.trans ⟨fun u => ⟨hall, u⟩, fun u => u.2⟩)
  clear hval hT
  have hlen := hf.1
  match L1, hlen, hf, hfin with
  | [], _, _, hfin =>
    have c0 : decide (((([] : List Lf).length : Nat) : Int) = 0) = true := rfl
    have h : Q (.bool (decide (root = shaD (topX 0 [])))) (bkO (topX 0 [] :: T)) := hfin (decide (root = shaD (topX 0 []))) (by
      show _ ↔ root = shaD (rootX [])
      exact ⟨fun u => of_decide_eq_true u, fun u => decide_eq_true u⟩)
    (conv => whnf)
    (repeat (first | (refine Both.of_true c0 ?_; conv => whnf) | (exact Out.same; conv => whnf) | (exact Out1.same; conv => whnf) | (refine QAnd.mk ?_ ?_; conv => whnf) | (apply QStepH.go; conv => whnf) | (refine Both.lit_true ?_; conv => whnf) | (refine Both.lit_false ?_; conv => whnf) | (apply QStep.go; conv => whnf) | (refine Need.au ?_; conv => whnf) | (refine ⟨_, rfl, ?_⟩; conv => whnf)))
    refine CallVC.auto rrootN_k (inB_mk (T := T) ?_)
    (conv => whnf)
    (repeat (first | (exact Out.same; conv => whnf) | (exact Out1.same; conv => whnf) | (refine QAnd.mk ?_ ?_; conv => whnf) | (apply QStepH.go; conv => whnf) | (refine Both.lit_true ?_; conv => whnf) | (refine Both.lit_false ?_; conv => whnf) | (apply QStep.go; conv => whnf) | (refine Need.au ?_; conv => whnf) | (refine ⟨_, rfl, ?_⟩; conv => whnf)))
    refine ⟨_, _, WeakV.auto ?_, h⟩
    (repeat' ((conv => whnf); first | exact True.intro | (refine And.intro ?_ ?_)))
    all_goals first | rfl | exact .eq rfl
  | [x], _, hf, hfin =>
    have hxo := hf.2 x (List.mem_singleton.2 rfl)
    have hxc := hxo.c
    have c0 : decide (((([x] : List Lf).length : Nat) : Int) = 0) = false := rfl
    have c1 : decide (((([x] : List Lf).length : Nat) : Int) = 1) = true := rfl
    have hat : ((flL [x]).drop ((0 : Int).toNat * 5)).take 5 = [CV.int .i64 x.i, .int .i64 x.c, .str x.k, .str x.v, .sl 1 x.p.length (strs x.p) false] := rfl
    have hix : ti50.size = 5 ∧ (0 : Int) ≤ 0 ∧ (0 : Int) < ((([x] : List Lf).length : Nat) : Int) := ⟨rfl, by omega, by simp⟩
    have hwc : IntKind.i64.wrap (x.c - 1) = x.c - 1 := wrap_i64 (by omega) (by omega)
    have hfin : ∀ b : Bool, (b = true ↔ (x.i = 0 ∧ lessS key x.k = true) ∨ (x.i = x.c - 1 ∧ lessS x.k key = true)) → Q (.bool b) (bkO (clsT [x] T)) := hfin
    generalize clsT [x] T = U at hfin ⊢
    by_cases q1 : x.i = 0
    · cases b1 : lessS key x.k with
      | true =>
        by_cases q2 : x.i = x.c - 1
        · have e1 : decide (x.i = 0) = true := decide_eq_true q1
          have e2 : decide (x.i = IntKind.i64.wrap (x.c - 1)) = true := by rw [hwc]; exact decide_eq_true q2
          have h := hfin true ⟨fun _ => .inl ⟨q1, b1⟩, fun _ => rfl⟩
          have b1 : (!(lessS x.k key || decide (x.k = key))) = true := by rw [gt_k]; exact b1
          (conv => whnf)
          (repeat (first | (refine Both.of_false c0 ?_; conv => whnf) | (refine Both.of_true c1 ?_; conv => whnf) | (refine Need.mk hix ?_; conv => whnf) | (refine ⟨_, hat, ?_⟩; conv => whnf) | (refine Both.of_true e1 ?_; conv => whnf) | (refine Both.of_true b1 ?_; conv => whnf) | (exact Out.same; conv => whnf) | (exact Out1.same; conv => whnf) | (refine QAnd.mk ?_ ?_; conv => whnf) | (apply QStepH.go; conv => whnf) | (refine Both.lit_true ?_; conv => whnf) | (refine Both.lit_false ?_; conv => whnf) | (apply QStep.go; conv => whnf) | (refine Need.au ?_; conv => whnf) | (refine ⟨_, rfl, ?_⟩; conv => whnf)))
          (refine DrawVC.any Γok (by kernel_rfl) (by kernel_rfl) (by kernel_rfl) (by rfl) ?_; conv => whnf)
          (repeat (first | (refine Need.mk hix ?_; conv => whnf) | (refine ⟨_, hat, ?_⟩; conv => whnf) | (refine Both.of_true e2 ?_; conv => whnf) | (refine Both.of_true b1 ?_; conv => whnf) | (exact Out.same; conv => whnf) | (exact Out1.same; conv => whnf) | (refine QAnd.mk ?_ ?_; conv => whnf) | (apply QStepH.go; conv => whnf) | (refine Both.lit_true ?_; conv => whnf) | (refine Both.lit_false ?_; conv => whnf) | (apply QStep.go; conv => whnf) | (refine Need.au ?_; conv => whnf) | (refine ⟨_, rfl, ?_⟩; conv => whnf)))
          refine ⟨_, _, WeakV.auto ?_, h⟩
          (repeat' ((conv => whnf); first | exact True.intro | (refine And.intro ?_ ?_)))
          all_goals first | rfl | exact .eq rfl
        · have e1 : decide (x.i = 0) = true := decide_eq_true q1
          have e2 : decide (x.i = IntKind.i64.wrap (x.c - 1)) = false := by rw [hwc]; exact decide_eq_false q2
          have h := hfin true ⟨fun _ => .inl ⟨q1, b1⟩, fun _ => rfl⟩
          have b1 : (!(lessS x.k key || decide (x.k = key))) = true := by rw [gt_k]; exact b1
          (conv => whnf)
          (repeat (first | (refine Both.of_false c0 ?_; conv => whnf) | (refine Both.of_true c1 ?_; conv => whnf) | (refine Need.mk hix ?_; conv => whnf) | (refine ⟨_, hat, ?_⟩; conv => whnf) | (refine Both.of_true e1 ?_; conv => whnf) | (refine Both.of_true b1 ?_; conv => whnf) | (exact Out.same; conv => whnf) | (exact Out1.same; conv => whnf) | (refine QAnd.mk ?_ ?_; conv => whnf) | (apply QStepH.go; conv => whnf) | (refine Both.lit_true ?_; conv => whnf) | (refine Both.lit_false ?_; conv => whnf) | (apply QStep.go; conv => whnf) | (refine Need.au ?_; conv => whnf) | (refine ⟨_, rfl, ?_⟩; conv => whnf)))
          (refine DrawVC.any Γok (by kernel_rfl) (by kernel_rfl) (by kernel_rfl) (by rfl) ?_; conv => whnf)
          (repeat (first | (refine Need.mk hix ?_; conv => whnf) | (refine ⟨_, hat, ?_⟩; conv => whnf) | (refine Both.of_false e2 ?_; conv => whnf) | (refine Both.of_true b1 ?_; conv => whnf) | (exact Out.same; conv => whnf) | (exact Out1.same; conv => whnf) | (refine QAnd.mk ?_ ?_; conv => whnf) | (apply QStepH.go; conv => whnf) | (refine Both.lit_true ?_; conv => whnf) | (refine Both.lit_false ?_; conv => whnf) | (apply QStep.go; conv => whnf) | (refine Need.au ?_; conv => whnf) | (refine ⟨_, rfl, ?_⟩; conv => whnf)))
          refine ⟨_, _, WeakV.auto ?_, h⟩
          (repeat' ((conv => whnf); first | exact True.intro | (refine And.intro ?_ ?_)))
          all_goals first | rfl | exact .eq rfl
      | false =>
        by_cases q2 : x.i = x.c - 1
        · have e1 : decide (x.i = 0) = true := decide_eq_true q1
          have e2 : decide (x.i = IntKind.i64.wrap (x.c - 1)) = true := by rw [hwc]; exact decide_eq_true q2
          have h := hfin (lessS x.k key) ⟨fun u => .inr ⟨q2, u⟩, fun u => u.elim (fun u => (by rw [b1] at u; cases u.2)) (fun u => u.2)⟩
          have b1 : (!(lessS x.k key || decide (x.k = key))) = false := by rw [gt_k]; exact b1
          (conv => whnf)
          (repeat (first | (refine Both.of_false c0 ?_; conv => whnf) | (refine Both.of_true c1 ?_; conv => whnf) | (refine Need.mk hix ?_; conv => whnf) | (refine ⟨_, hat, ?_⟩; conv => whnf) | (refine Both.of_true e1 ?_; conv => whnf) | (refine Both.of_false b1 ?_; conv => whnf) | (exact Out.same; conv => whnf) | (exact Out1.same; conv => whnf) | (refine QAnd.mk ?_ ?_; conv => whnf) | (apply QStepH.go; conv => whnf) | (refine Both.lit_true ?_; conv => whnf) | (refine Both.lit_false ?_; conv => whnf) | (apply QStep.go; conv => whnf) | (refine Need.au ?_; conv => whnf) | (refine ⟨_, rfl, ?_⟩; conv => whnf)))
          (refine DrawVC.any Γok (by kernel_rfl) (by kernel_rfl) (by kernel_rfl) (by rfl) ?_; conv => whnf)
          (repeat (first | (refine Need.mk hix ?_; conv => whnf) | (refine ⟨_, hat, ?_⟩; conv => whnf) | (refine Both.of_true e2 ?_; conv => whnf) | (refine Both.of_false b1 ?_; conv => whnf) | (exact Out.same; conv => whnf) | (exact Out1.same; conv => whnf) | (refine QAnd.mk ?_ ?_; conv => whnf) | (apply QStepH.go; conv => whnf) | (refine Both.lit_true ?_; conv => whnf) | (refine Both.lit_false ?_; conv => whnf) | (apply QStep.go; conv => whnf) | (refine Need.au ?_; conv => whnf) | (refine ⟨_, rfl, ?_⟩; conv => whnf)))
          refine ⟨_, _, WeakV.auto ?_, h⟩
          (repeat' ((conv => whnf); first | exact True.intro | (refine And.intro ?_ ?_)))
          all_goals first | rfl | exact .eq rfl
        · have e1 : decide (x.i = 0) = true := decide_eq_true q1
          have e2 : decide (x.i = IntKind.i64.wrap (x.c - 1)) = false := by rw [hwc]; exact decide_eq_false q2
          have h := hfin false ⟨fun u => (by cases u), fun u => u.elim (fun u => (by rw [b1] at u; cases u.2)) (fun u => absurd u.1 q2)⟩
          have b1 : (!(lessS x.k key || decide (x.k = key))) = false := by rw [gt_k]; exact b1
          (conv => whnf)
          (repeat (first | (refine Both.of_false c0 ?_; conv => whnf) | (refine Both.of_true c1 ?_; conv => whnf) | (refine Need.mk hix ?_; conv => whnf) | (refine ⟨_, hat, ?_⟩; conv => whnf) | (refine Both.of_true e1 ?_; conv => whnf) | (refine Both.of_false b1 ?_; conv => whnf) | (exact Out.same; conv => whnf) | (exact Out1.same; conv => whnf) | (refine QAnd.mk ?_ ?_; conv => whnf) | (apply QStepH.go; conv => whnf) | (refine Both.lit_true ?_; conv => whnf) | (refine Both.lit_false ?_; conv => whnf) | (apply QStep.go; conv => whnf) | (refine Need.au ?_; conv => whnf) | (refine ⟨_, rfl, ?_⟩; conv => whnf)))
          (refine DrawVC.any Γok (by kernel_rfl) (by kernel_rfl) (by kernel_rfl) (by rfl) ?_; conv => whnf)
          (repeat (first | (refine Need.mk hix ?_; conv => whnf) | (refine ⟨_, hat, ?_⟩; conv => whnf) | (refine Both.of_false e2 ?_; conv => whnf) | (refine Both.of_false b1 ?_; conv => whnf) | (exact Out.same; conv => whnf) | (exact Out1.same; conv => whnf) | (refine QAnd.mk ?_ ?_; conv => whnf) | (apply QStepH.go; conv => whnf) | (refine Both.lit_true ?_; conv => whnf) | (refine Both.lit_false ?_; conv => whnf) | (apply QStep.go; conv => whnf) | (refine Need.au ?_; conv => whnf) | (refine ⟨_, rfl, ?_⟩; conv => whnf)))
          refine ⟨_, _, WeakV.auto ?_, h⟩
          (repeat' ((conv => whnf); first | exact True.intro | (refine And.intro ?_ ?_)))
          all_goals first | rfl | exact .eq rfl
    · by_cases q2 : x.i = x.c - 1
      · have e1 : decide (x.i = 0) = false := decide_eq_false q1
        have e2 : decide (x.i = IntKind.i64.wrap (x.c - 1)) = true := by rw [hwc]; exact decide_eq_true q2
        have h := hfin (lessS x.k key) ⟨fun u => .inr ⟨q2, u⟩, fun u => u.elim (fun u => absurd u.1 q1) (fun u => u.2)⟩
        (conv => whnf)
        (repeat (first | (refine Both.of_false c0 ?_; conv => whnf) | (refine Both.of_true c1 ?_; conv => whnf) | (refine Need.mk hix ?_; conv => whnf) | (refine ⟨_, hat, ?_⟩; conv => whnf) | (refine Both.of_false e1 ?_; conv => whnf) | (exact Out.same; conv => whnf) | (exact Out1.same; conv => whnf) | (refine QAnd.mk ?_ ?_; conv => whnf) | (apply QStepH.go; conv => whnf) | (refine Both.lit_true ?_; conv => whnf) | (refine Both.lit_false ?_; conv => whnf) | (apply QStep.go; conv => whnf) | (refine Need.au ?_; conv => whnf) | (refine ⟨_, rfl, ?_⟩; conv => whnf)))
        (refine DrawVC.any Γok (by kernel_rfl) (by kernel_rfl) (by kernel_rfl) (by rfl) ?_; conv => whnf)
        (repeat (first | (refine Need.mk hix ?_; conv => whnf) | (refine ⟨_, hat, ?_⟩; conv => whnf) | (refine Both.of_true e2 ?_; conv => whnf) | (exact Out.same; conv => whnf) | (exact Out1.same; conv => whnf) | (refine QAnd.mk ?_ ?_; conv => whnf) | (apply QStepH.go; conv => whnf) | (refine Both.lit_true ?_; conv => whnf) | (refine Both.lit_false ?_; conv => whnf) | (apply QStep.go; conv => whnf) | (refine Need.au ?_; conv => whnf) | (refine ⟨_, rfl, ?_⟩; conv => whnf)))
        refine ⟨_, _, WeakV.auto ?_, h⟩
        (repeat' ((conv => whnf); first | exact True.intro | (refine And.intro ?_ ?_)))
        all_goals first | rfl | exact .eq rfl
      · have e1 : decide (x.i = 0) = false := decide_eq_false q1
        have e2 : decide (x.i = IntKind.i64.wrap (x.c - 1)) = false := by rw [hwc]; exact decide_eq_false q2
        have h := hfin false ⟨fun u => (by cases u), fun u => u.elim (fun u => absurd u.1 q1) (fun u => absurd u.1 q2)⟩
        (conv => whnf)
        (repeat (first | (refine Both.of_false c0 ?_; conv => whnf) | (refine Both.of_true c1 ?_; conv => whnf) | (refine Need.mk hix ?_; conv => whnf) | (refine ⟨_, hat, ?_⟩; conv => whnf) | (refine Both.of_false e1 ?_; conv => whnf) | (exact Out.same; conv => whnf) | (exact Out1.same; conv => whnf) | (refine QAnd.mk ?_ ?_; conv => whnf) | (apply QStepH.go; conv => whnf) | (refine Both.lit_true ?_; conv => whnf) | (refine Both.lit_false ?_; conv => whnf) | (apply QStep.go; conv => whnf) | (refine Need.au ?_; conv => whnf) | (refine ⟨_, rfl, ?_⟩; conv => whnf)))
        (refine DrawVC.any Γok (by kernel_rfl) (by kernel_rfl) (by kernel_rfl) (by rfl) ?_; conv => whnf)
        (repeat (first | (refine Need.mk hix ?_; conv => whnf) | (refine ⟨_, hat, ?_⟩; conv => whnf) | (refine Both.of_false e2 ?_; conv => whnf) | (exact Out.same; conv => whnf) | (exact Out1.same; conv => whnf) | (refine QAnd.mk ?_ ?_; conv => whnf) | (apply QStepH.go; conv => whnf) | (refine Both.lit_true ?_; conv => whnf) | (refine Both.lit_false ?_; conv => whnf) | (apply QStep.go; conv => whnf) | (refine Need.au ?_; conv => whnf) | (refine ⟨_, rfl, ?_⟩; conv => whnf)))
        refine ⟨_, _, WeakV.auto ?_, h⟩
        (repeat' ((conv => whnf); first | exact True.intro | (refine And.intro ?_ ?_)))
        all_goals first | rfl | exact .eq rfl
  | [x, y], _, hf, hfin =>
    have hxo := hf.2 x (by simp)
    have hxi := hxo.i
    have c0 : decide (((([x, y] : List Lf).length : Nat) : Int) = 0) = false := rfl
    have c1 : decide (((([x, y] : List Lf).length : Nat) : Int) = 1) = false := rfl
    have hat0 : ((flL [x, y]).drop ((0 : Int).toNat * 5)).take 5 = [CV.int .i64 x.i, .int .i64 x.c, .str x.k, .str x.v, .sl 1 x.p.length (strs x.p) false] := rfl
    have hix0 : ti50.size = 5 ∧ (0 : Int) ≤ 0 ∧ (0 : Int) < ((([x, y] : List Lf).length : Nat) : Int) := ⟨rfl, by omega, by simp⟩
    have hat1 : ((flL [x, y]).drop ((1 : Int).toNat * 5)).take 5 = [CV.int .i64 y.i, .int .i64 y.c, .str y.k, .str y.v, .sl 1 y.p.length (strs y.p) false] := rfl
    have hix1 : ti50.size = 5 ∧ (0 : Int) ≤ 1 ∧ (1 : Int) < ((([x, y] : List Lf).length : Nat) : Int) := ⟨rfl, by omega, by simp⟩
    have hwi : IntKind.i64.wrap (x.i + 1) = x.i + 1 := wrap_i64 (by omega) (by omega)
    have hfin : ∀ b : Bool, (b = true ↔ (x.c = y.c ∧ x.i + 1 = y.i) ∧ lessS x.k key = true ∧ lessS key y.k = true) → Q (.bool b) (bkO (clsT [x, y] T)) := hfin
    generalize clsT [x, y] T = U at hfin ⊢
    by_cases q1 : x.c = y.c
    · by_cases q2 : x.i + 1 = y.i
      · cases b1 : lessS x.k key with
        | true =>
          · have e1 : decide (x.c = y.c) = true := decide_eq_true q1
            have e2 : decide (y.i = IntKind.i64.wrap (x.i + 1)) = true := by rw [hwi]; exact decide_eq_true q2.symm
            have h := hfin (!(lessS y.k key || decide (y.k = key))) (by rw [gt_k]; exact ⟨fun u => ⟨⟨q1, q2⟩, b1, u⟩, fun u => u.2.2⟩)
            (conv => whnf)
            (repeat (first | (refine Both.of_false c0 ?_; conv => whnf) | (refine Both.of_false c1 ?_; conv => whnf) | (exact Out.same; conv => whnf) | (exact Out1.same; conv => whnf) | (refine QAnd.mk ?_ ?_; conv => whnf) | (apply QStepH.go; conv => whnf) | (refine Both.lit_true ?_; conv => whnf) | (refine Both.lit_false ?_; conv => whnf) | (apply QStep.go; conv => whnf) | (refine Need.au ?_; conv => whnf) | (refine ⟨_, rfl, ?_⟩; conv => whnf)))
            (refine DrawVC.any Γok (by kernel_rfl) (by kernel_rfl) (by kernel_rfl) (by rfl) ?_; conv => whnf)
            (repeat (first | (refine Need.mk hix0 ?_; conv => whnf) | (refine Need.mk hix1 ?_; conv => whnf) | (refine ⟨_, hat0, ?_⟩; conv => whnf) | (refine ⟨_, hat1, ?_⟩; conv => whnf) | (refine Both.of_true e1 ?_; conv => whnf) | (refine Both.of_true e2 ?_; conv => whnf) | (refine Both.of_true b1 ?_; conv => whnf) | (exact Out.same; conv => whnf) | (exact Out1.same; conv => whnf) | (refine QAnd.mk ?_ ?_; conv => whnf) | (apply QStepH.go; conv => whnf) | (refine Both.lit_true ?_; conv => whnf) | (refine Both.lit_false ?_; conv => whnf) | (apply QStep.go; conv => whnf) | (refine Need.au ?_; conv => whnf) | (refine ⟨_, rfl, ?_⟩; conv => whnf)))
            refine ⟨_, _, WeakV.auto ?_, h⟩
            (repeat' ((conv => whnf); first | exact True.intro | (refine And.intro ?_ ?_)))
            all_goals first | rfl | exact .eq rfl
        | false =>
          · have e1 : decide (x.c = y.c) = true := decide_eq_true q1
            have e2 : decide (y.i = IntKind.i64.wrap (x.i + 1)) = true := by rw [hwi]; exact decide_eq_true q2.symm
            have h := hfin false ⟨fun u => (by cases u), fun u => (by rw [b1] at u; cases u.2.1)⟩
            (conv => whnf)
            (repeat (first | (refine Both.of_false c0 ?_; conv => whnf) | (refine Both.of_false c1 ?_; conv => whnf) | (exact Out.same; conv => whnf) | (exact Out1.same; conv => whnf) | (refine QAnd.mk ?_ ?_; conv => whnf) | (apply QStepH.go; conv => whnf) | (refine Both.lit_true ?_; conv => whnf) | (refine Both.lit_false ?_; conv => whnf) | (apply QStep.go; conv => whnf) | (refine Need.au ?_; conv => whnf) | (refine ⟨_, rfl, ?_⟩; conv => whnf)))
            (refine DrawVC.any Γok (by kernel_rfl) (by kernel_rfl) (by kernel_rfl) (by rfl) ?_; conv => whnf)
            (repeat (first | (refine Need.mk hix0 ?_; conv => whnf) | (refine Need.mk hix1 ?_; conv => whnf) | (refine ⟨_, hat0, ?_⟩; conv => whnf) | (refine ⟨_, hat1, ?_⟩; conv => whnf) | (refine Both.of_true e1 ?_; conv => whnf) | (refine Both.of_true e2 ?_; conv => whnf) | (refine Both.of_false b1 ?_; conv => whnf) | (exact Out.same; conv => whnf) | (exact Out1.same; conv => whnf) | (refine QAnd.mk ?_ ?_; conv => whnf) | (apply QStepH.go; conv => whnf) | (refine Both.lit_true ?_; conv => whnf) | (refine Both.lit_false ?_; conv => whnf) | (apply QStep.go; conv => whnf) | (refine Need.au ?_; conv => whnf) | (refine ⟨_, rfl, ?_⟩; conv => whnf)))
            refine ⟨_, _, WeakV.auto ?_, h⟩
            (repeat' ((conv => whnf); first | exact True.intro | (refine And.intro ?_ ?_)))
            all_goals first | rfl | exact .eq rfl
      · have e1 : decide (x.c = y.c) = true := decide_eq_true q1
        have e2 : decide (y.i = IntKind.i64.wrap (x.i + 1)) = false := by rw [hwi]; exact decide_eq_false (fun q => q2 q.symm)
        have h := hfin false ⟨fun u => (by cases u), fun u => absurd u.1.2 q2⟩
        (conv => whnf)
        (repeat (first | (refine Both.of_false c0 ?_; conv => whnf) | (refine Both.of_false c1 ?_; conv => whnf) | (exact Out.same; conv => whnf) | (exact Out1.same; conv => whnf) | (refine QAnd.mk ?_ ?_; conv => whnf) | (apply QStepH.go; conv => whnf) | (refine Both.lit_true ?_; conv => whnf) | (refine Both.lit_false ?_; conv => whnf) | (apply QStep.go; conv => whnf) | (refine Need.au ?_; conv => whnf) | (refine ⟨_, rfl, ?_⟩; conv => whnf)))
        (refine DrawVC.any Γok (by kernel_rfl) (by kernel_rfl) (by kernel_rfl) (by rfl) ?_; conv => whnf)
        (repeat (first | (refine Need.mk hix0 ?_; conv => whnf) | (refine Need.mk hix1 ?_; conv => whnf) | (refine ⟨_, hat0, ?_⟩; conv => whnf) | (refine ⟨_, hat1, ?_⟩; conv => whnf) | (refine Both.of_true e1 ?_; conv => whnf) | (refine Both.of_false e2 ?_; conv => whnf) | (exact Out.same; conv => whnf) | (exact Out1.same; conv => whnf) | (refine QAnd.mk ?_ ?_; conv => whnf) | (apply QStepH.go; conv => whnf) | (refine Both.lit_true ?_; conv => whnf) | (refine Both.lit_false ?_; conv => whnf) | (apply QStep.go; conv => whnf) | (refine Need.au ?_; conv => whnf) | (refine ⟨_, rfl, ?_⟩; conv => whnf)))
        refine ⟨_, _, WeakV.auto ?_, h⟩
        (repeat' ((conv => whnf); first | exact True.intro | (refine And.intro ?_ ?_)))
        all_goals first | rfl | exact .eq rfl
    · have e1 : decide (x.c = y.c) = false := decide_eq_false q1
      have h := hfin false ⟨fun u => (by cases u), fun u => absurd u.1.1 q1⟩
      (conv => whnf)
      (repeat (first | (refine Both.of_false c0 ?_; conv => whnf) | (refine Both.of_false c1 ?_; conv => whnf) | (exact Out.same; conv => whnf) | (exact Out1.same; conv => whnf) | (refine QAnd.mk ?_ ?_; conv => whnf) | (apply QStepH.go; conv => whnf) | (refine Both.lit_true ?_; conv => whnf) | (refine Both.lit_false ?_; conv => whnf) | (apply QStep.go; conv => whnf) | (refine Need.au ?_; conv => whnf) | (refine ⟨_, rfl, ?_⟩; conv => whnf)))
      (refine DrawVC.any Γok (by kernel_rfl) (by kernel_rfl) (by kernel_rfl) (by rfl) ?_; conv => whnf)
      (repeat (first | (refine Need.mk hix0 ?_; conv => whnf) | (refine Need.mk hix1 ?_; conv => whnf) | (refine ⟨_, hat0, ?_⟩; conv => whnf) | (refine ⟨_, hat1, ?_⟩; conv => whnf) | (refine Both.of_false e1 ?_; conv => whnf) | (exact Out.same; conv => whnf) | (exact Out1.same; conv => whnf) | (refine QAnd.mk ?_ ?_; conv => whnf) | (apply QStepH.go; conv => whnf) | (refine Both.lit_true ?_; conv => whnf) | (refine Both.lit_false ?_; conv => whnf) | (apply QStep.go; conv => whnf) | (refine Need.au ?_; conv => whnf) | (refine ⟨_, rfl, ?_⟩; conv => whnf)))
      refine ⟨_, _, WeakV.auto ?_, h⟩
      (repeat' ((conv => whnf); first | exact True.intro | (refine And.intro ?_ ?_)))
      all_goals first | rfl | exact .eq rfl
  | _ :: _ :: _ :: _, hl3, _, _ => exact absurd hl3 (by simp)
theorem rlacks_k : Contract Tryz.prog [] 11 rlacksS := ⟨⟨⟨_, rfl, rfl, rfl⟩⟩, rlacks_c⟩
end Go.LX
end
section
set_option maxRecDepth 100000
set_option maxHeartbeats 2000000
set_option autoImplicit false
set_option linter.unusedVariables false
set_option linter.unusedSimpArgs false
namespace Go.LX
open Go.Proofs

def lawJudges9S : Spec := fun args H Q => match args, H with
  | [.str root, .str s, .str key, .str value], [] => Q (.bool true) []
  | _, _ => False
open Classical in
theorem judges9_law {y0 : CV} {cs0 : List CV} (hK : KAt y0 cs0) : Meets Tryz.prog [(0, y0 :: cs0)] 3 lawJudges9S := by
  refine meets_of Γok Tryz.func3 rfl ?_
  intro args H Q h
  unfold lawJudges9S at h
  split at h
  case h_2 => exact h.elim
  rename_i root s key value
  (refine sx_sound Γok _ ?_; conv => whnf)
  (repeat (first | (exact Out.same; conv => whnf) | (exact Out1.same; conv => whnf) | (refine QAnd.mk ?_ ?_; conv => whnf) | (apply QStepH.go; conv => whnf) | (refine Both.lit_true ?_; conv => whnf) | (refine Both.lit_false ?_; conv => whnf) | (apply QStep.go; conv => whnf) | (refine Need.au ?_; conv => whnf) | (refine ⟨_, rfl, ?_⟩; conv => whnf) | (refine CallVC.auto (awake9_k hK) ?_; conv => whnf)))
  refine Both.dec (fun h1 => ?_) (fun h1 => ?_)
  · (conv => whnf)
    (repeat (first | (exact Out.same; conv => whnf) | (exact Out1.same; conv => whnf) | (refine QAnd.mk ?_ ?_; conv => whnf) | (apply QStepH.go; conv => whnf) | (refine Both.lit_true ?_; conv => whnf) | (refine Both.lit_false ?_; conv => whnf) | (apply QStep.go; conv => whnf) | (refine Need.au ?_; conv => whnf) | (refine ⟨_, rfl, ?_⟩; conv => whnf)))
    exact ⟨_, _, WeakV.drop rfl, h⟩
  (conv => whnf)
  (repeat (first | (exact Out.same; conv => whnf) | (exact Out1.same; conv => whnf) | (refine QAnd.mk ?_ ?_; conv => whnf) | (apply QStepH.go; conv => whnf) | (refine Both.lit_true ?_; conv => whnf) | (refine Both.lit_false ?_; conv => whnf) | (apply QStep.go; conv => whnf) | (refine Need.au ?_; conv => whnf) | (refine ⟨_, rfl, ?_⟩; conv => whnf)))
  refine Both.dec (fun h2 => ?_) (fun h2 => ?_)
  · (conv => whnf)
    (repeat (first | (exact Out.same; conv => whnf) | (exact Out1.same; conv => whnf) | (refine QAnd.mk ?_ ?_; conv => whnf) | (apply QStepH.go; conv => whnf) | (refine Both.lit_true ?_; conv => whnf) | (refine Both.lit_false ?_; conv => whnf) | (apply QStep.go; conv => whnf) | (refine Need.au ?_; conv => whnf) | (refine ⟨_, rfl, ?_⟩; conv => whnf)))
    exact ⟨_, _, WeakV.drop rfl, h⟩
  (conv => whnf)
  (repeat (first | (exact Out.same; conv => whnf) | (exact Out1.same; conv => whnf) | (refine QAnd.mk ?_ ?_; conv => whnf) | (apply QStepH.go; conv => whnf) | (refine Both.lit_true ?_; conv => whnf) | (refine Both.lit_false ?_; conv => whnf) | (apply QStep.go; conv => whnf) | (refine Need.au ?_; conv => whnf) | (refine ⟨_, rfl, ?_⟩; conv => whnf)))
  refine Both.dec (fun h3 => ?_) (fun h3 => ?_)
  · (conv => whnf)
    (repeat (first | (exact Out.same; conv => whnf) | (exact Out1.same; conv => whnf) | (refine QAnd.mk ?_ ?_; conv => whnf) | (apply QStepH.go; conv => whnf) | (refine Both.lit_true ?_; conv => whnf) | (refine Both.lit_false ?_; conv => whnf) | (apply QStep.go; conv => whnf) | (refine Need.au ?_; conv => whnf) | (refine ⟨_, rfl, ?_⟩; conv => whnf)))
    exact ⟨_, _, WeakV.drop rfl, h⟩
  (conv => whnf)
  (repeat (first | (exact Out.same; conv => whnf) | (exact Out1.same; conv => whnf) | (refine QAnd.mk ?_ ?_; conv => whnf) | (apply QStepH.go; conv => whnf) | (refine Both.lit_true ?_; conv => whnf) | (refine Both.lit_false ?_; conv => whnf) | (apply QStep.go; conv => whnf) | (refine Need.au ?_; conv => whnf) | (refine ⟨_, rfl, ?_⟩; conv => whnf)))
  refine Both.dec (fun h4 => ?_) (fun h4 => ?_)
  · (conv => whnf)
    (repeat (first | (exact Out.same; conv => whnf) | (exact Out1.same; conv => whnf) | (refine QAnd.mk ?_ ?_; conv => whnf) | (apply QStepH.go; conv => whnf) | (refine Both.lit_true ?_; conv => whnf) | (refine Both.lit_false ?_; conv => whnf) | (apply QStep.go; conv => whnf) | (refine Need.au ?_; conv => whnf) | (refine ⟨_, rfl, ?_⟩; conv => whnf)))
    exact ⟨_, _, WeakV.drop rfl, h⟩
  have hs : s.length < 1000000 := by omega
  obtain ⟨b, hb⟩ : ∃ b, decide (hasP root s key value) = b := ⟨_, rfl⟩
  obtain ⟨c, hc⟩ : ∃ c, decide (lacksP root s key) = c := ⟨_, rfl⟩
  (conv => whnf)
  (repeat (first | (exact Out.same; conv => whnf) | (exact Out1.same; conv => whnf) | (refine QAnd.mk ?_ ?_; conv => whnf) | (apply QStepH.go; conv => whnf) | (refine Both.lit_true ?_; conv => whnf) | (refine Both.lit_false ?_; conv => whnf) | (apply QStep.go; conv => whnf) | (refine Need.au ?_; conv => whnf) | (refine ⟨_, rfl, ?_⟩; conv => whnf) | (refine CallVC.auto newb_k.gl ?_; conv => whnf)))
  refine CallVC.auto (has_k hK) ⟨hs, ?_⟩
  rw [hb]
  (conv => whnf)
  (repeat (first | (exact Out.same; conv => whnf) | (exact Out1.same; conv => whnf) | (refine QAnd.mk ?_ ?_; conv => whnf) | (apply QStepH.go; conv => whnf) | (refine Both.lit_true ?_; conv => whnf) | (refine Both.lit_false ?_; conv => whnf) | (apply QStep.go; conv => whnf) | (refine Need.au ?_; conv => whnf) | (refine ⟨_, rfl, ?_⟩; conv => whnf)))
  refine CallVC.auto (rhas_k.gl (G := [(0, y0 :: cs0)])) (inB_mk (T := []) ⟨hs, ?_⟩)
  rw [hb]
  generalize hasT s [] = T1
  have d1 : decide (b = b) = true := decide_eq_true rfl
  have d2 : decide (c = c) = true := decide_eq_true rfl
  (conv => whnf)
  (repeat (first | (refine Both.of_true d1 ?_; conv => whnf) | (exact Out.same; conv => whnf) | (exact Out1.same; conv => whnf) | (refine QAnd.mk ?_ ?_; conv => whnf) | (apply QStepH.go; conv => whnf) | (refine Both.lit_true ?_; conv => whnf) | (refine Both.lit_false ?_; conv => whnf) | (apply QStep.go; conv => whnf) | (refine Need.au ?_; conv => whnf) | (refine ⟨_, rfl, ?_⟩; conv => whnf)))
  refine CallVC.auto (lacks_k hK) ⟨hs, ?_⟩
  rw [hc]
  (conv => whnf)
  (repeat (first | (exact Out.same; conv => whnf) | (exact Out1.same; conv => whnf) | (refine QAnd.mk ?_ ?_; conv => whnf) | (apply QStepH.go; conv => whnf) | (refine Both.lit_true ?_; conv => whnf) | (refine Both.lit_false ?_; conv => whnf) | (apply QStep.go; conv => whnf) | (refine Need.au ?_; conv => whnf) | (refine ⟨_, rfl, ?_⟩; conv => whnf)))
  refine CallVC.auto (rlacks_k.gl (G := [(0, y0 :: cs0)])) (inB_mk (T := T1) ⟨hs, ?_⟩)
  rw [hc]
  generalize lacksT s key T1 = T2
  (conv => whnf)
  (repeat (first | (exact Out.same; conv => whnf) | (exact Out1.same; conv => whnf) | (refine QAnd.mk ?_ ?_; conv => whnf) | (apply QStepH.go; conv => whnf) | (refine Both.lit_true ?_; conv => whnf) | (refine Both.lit_false ?_; conv => whnf) | (apply QStep.go; conv => whnf) | (refine Need.au ?_; conv => whnf) | (refine ⟨_, rfl, ?_⟩; conv => whnf)))
  exact ⟨_, _, WeakV.drop (congrArg SV.bool d2), h⟩
end Go.LX
end
section
set_option maxRecDepth 100000
set_option maxHeartbeats 4000000
set_option autoImplicit false
set_option linter.unusedVariables false
set_option linter.unusedSimpArgs false
namespace Go.LX
open Go.Proofs Go.Proofs.YtfnpemikicofaaaGreatDoor Go.RowKit Go.ChangeShapes Go.WideShapes Go.ChangeAt

theorem law_runG {P : Program} {G : Gl} {f : FuncId} {S : Spec} (hM : Meets P G f S) {svs : List SV} {vs : List Value} {W : World} (hv : VRs (E0 W) W svs vs) (hg : GlOk (E0 W) W G) (hS : S svs [] fun r _ => r = .bool true) :
    Calls P f vs.toArray W fun e W' => e = .returned (.bool true) ∧ Below W.heap.size W W' := by
  refine (hM svs [] _ hS (E0 W) W vs hv (rel0 W) hg).mono ?_
  rintro e W' ⟨v, r, H', E', rfl, rfl, hv, _, hst, _⟩
  cases hv
  exact ⟨rfl, hst.os, hst.tape, hst.output, hst.size, fun k hk => hst.keep k hk (fun ⟨i, o, h, _⟩ => by simp at h)⟩
def kzs : List Int := kT.map fun x => u32 x
def kG : Gl := [(0, CV.int .u32 (u32 0x428a2f98#32) :: (kT.tail.map fun x => CV.int .u32 (u32 x)))]
theorem kG_at : KAt (CV.int .u32 (u32 0x428a2f98#32)) (kT.tail.map fun x => CV.int .u32 (u32 x)) := fun t ht => k_at ht
abbrev laidK : List (String × DataW Unit) := [("carrack/sha.k", Rows.laid_carrack_sha_k)]
theorem laidK_eq : laidK = [("carrack/sha.k", Lib.tabData .u32 kzs)] := by kernel_rfl
theorem gK : Tryz.prog.globalNamed "carrack/sha.k" = some 0 := by kernel_rfl
theorem tK : (Tryz.prog.globals[0]?).map (·.type) = some 165 := by kernel_rfl
theorem gl_of_laid {W : World} (h : laidMetH Tryz.prog laidK W) : GlOk (E0 W) W kG := by
  rw [MakeChecks.laidMetH_plain _ _ _ (by kernel_rfl), laidK_eq] at h
  have hT := Lib.tabIs_of_head gK tK Tryz.underlying165 Tryz.underlying82 (by kernel_rfl) (by kernel_rfl) h
  have hc := fun i hi => hT.cell gK i hi
  refine ⟨fun g cs hm => ?_⟩
  have hm : (g, cs) = (0, CV.int .u32 (u32 0x428a2f98#32) :: (kT.tail.map fun x => CV.int .u32 (u32 x))) := List.mem_singleton.1 hm
  cases hm
  have hcs : (CV.int .u32 (u32 0x428a2f98#32) :: (kT.tail.map fun x => CV.int .u32 (u32 x))) = kzs.map fun z => CV.int .u32 z := by
    rw [kzs, List.map_map]
    rfl
  refine ⟨?_, kzs.map fun z => Value.int .u32 z, ?_, fun j v hj => ?_⟩
  · have h0 := hc 0 (by decide)
    show 0 < W.heap.size
    by_cases hz : 0 < W.heap.size
    · exact hz
    · exfalso
      have hn : W.heap[0]? = none := Array.getElem?_eq_none (by omega)
      unfold World.cell? at h0
      rw [hn] at h0
      cases h0
  · rw [hcs]
    refine ⟨by rw [List.length_map, List.length_map], fun j x v hx hv => ?_⟩
    rw [List.getElem?_map, Option.map_eq_some_iff] at hx hv
    obtain ⟨z, hz, rfl⟩ := hx
    obtain ⟨z', hz', rfl⟩ := hv
    cases hz.symm.trans hz'
    exact .int _ _
  · rw [List.getElem?_map, Option.map_eq_some_iff] at hj
    obtain ⟨z, hz, rfl⟩ := hj
    have hlt : j < kzs.length := by
      rcases Nat.lt_or_ge j kzs.length with h1 | h1
      · exact h1
      · rw [List.getElem?_eq_none h1] at hz; cases hz
    have := hc j hlt
    rw [List.getD_eq_getElem?_getD, hz] at this
    exact this
theorem doorK_met (os : Os) (args : Array Value) : laidMetH Tryz.prog laidK ((World.doorLaid Tryz.prog 400 os).forCall (fun _ _ => 0) ⟨#[], args, []⟩).memory :=
  laidMetH_of_parts3 (fuel := 8) (laidMet_of_run' 8 (by kernel_rfl) (by kernel_rfl)) (by kernel_rfl) (by kernel_rfl)
end Go.LX
end
