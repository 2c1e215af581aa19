import Derived.Test.YtiokggkoidiicaaDoorTy
set_option maxRecDepth 100000
set_option maxHeartbeats 1000000
set_option autoImplicit false
set_option linter.unusedVariables false
set_option linter.unusedSimpArgs false
namespace Go.LX
open Go.Proofs

/-! ## Functions with ranges over functions, piece by piece -/
structure MarkVC (P : Program) (G : Gl) (N : Nat) (c : Code) (s : LS) (K : Exit → LS → Prop) : Prop where
  out : WpM P G N c s K
section
variable {P : Program} {Γ : Ty} {G : Gl} {N : Nat}
theorem exThen_mono {p q : LS → Prop} {K : Exit → LS → Prop} (h : ∀ s, p s → q s) (e : Exit) (s : LS) (hp : exThen p K e s) : exThen q K e s := by
  cases e with
  | normal => exact h s hp
  | _ => exact hp
theorem MarkVC.of (hΓ : TyOk P Γ) {c : Code} {s : LS} {K : Exit → LS → Prop} (h : sx P Γ G N c s K) : MarkVC P G N c s K := ⟨(sx_sound hΓ c h).marks⟩
theorem MarkVC.seqM {x y : Code} {s : LS} {K : Exit → LS → Prop} (h : MarkVC P G N x s (exThen (fun s' => MarkVC P G N y s' K) K)) : MarkVC P G N (.seq x y) s K := ⟨WpM.seq (h.out.mono (exThen_mono fun s h => h.out))⟩
theorem MarkVC.seq (hΓ : TyOk P Γ) {x y : Code} {s : LS} {K : Exit → LS → Prop} (h : sx P Γ G N x s (exThen (fun s' => MarkVC P G N y s' K) K)) : MarkVC P G N (.seq x y) s K := MarkVC.seqM (MarkVC.of hΓ h)
theorem MarkVC.block {id : Nat} {c : Code} {s : LS} {K : Exit → LS → Prop} (h : MarkVC P G N c s (exBlock id K)) : MarkVC P G N (.block id c) s K := ⟨WpM.block h.out⟩
theorem MarkVC.weak {c : Code} {s s' : LS} {K : Exit → LS → Prop} (hw : Weak G N s s') (h : MarkVC P G N c s' K) : MarkVC P G N c s K := ⟨WpM.weak hw h.out⟩

structure WpVC (P : Program) (G : Gl) (N : Nat) (c : Code) (s : LS) (K : Exit → LS → Prop) : Prop where
  out : Wp P G N c s K
theorem Wp.two (hΓ : TyOk P Γ) {x y : Code} {s : LS} {K : Exit → LS → Prop} (h : sx P Γ G N x s (exThen (fun s' => WpVC P G N y s' K) fun _ _ => False)) : Wp P G N x s (exThen (fun s' => Wp P G N y s' K) fun _ _ => False) := (sx_sound hΓ x h).mono (exThen_mono fun s h => h.out)
theorem WpVC.of (hΓ : TyOk P Γ) {c : Code} {s : LS} {K : Exit → LS → Prop} (h : sx P Γ G N c s K) : WpVC P G N c s K := ⟨sx_sound hΓ c h⟩

structure YVC (P : Program) (G : Gl) (N : Nat) (X : Cx) (c : Code) (s : LS) (K : Exit → LS → Prop) : Prop where
  out : WpX P G N X c s K
variable {X : Cx}
theorem YVC.of (hΓ : TyOk P Γ) (hX : X.ro = none) {c : Code} {s : LS} {K : Exit → LS → Prop} (h : sx P Γ G N c s K) : YVC P G N X c s K := ⟨(sx_sound hΓ c h) X (.inl hX)⟩
theorem YVC.seqY {x y : Code} {s : LS} {K : Exit → LS → Prop} (h : YVC P G N X x s (exThen (fun s' => YVC P G N X y s' K) K)) : YVC P G N X (.seq x y) s K := ⟨WpX.seq (h.out.mono (exThen_mono fun s h => h.out))⟩
theorem YVC.seq (hΓ : TyOk P Γ) (hX : X.ro = none) {x y : Code} {s : LS} {K : Exit → LS → Prop} (h : sx P Γ G N x s (exThen (fun s' => YVC P G N X y s' K) K)) : YVC P G N X (.seq x y) s K := YVC.seqY (YVC.of hΓ hX h)
theorem YVC.block {id : Nat} {c : Code} {s : LS} {K : Exit → LS → Prop} (h : YVC P G N X c s (exBlock id K)) : YVC P G N X (.block id c) s K := ⟨WpX.block h.out⟩
theorem YVC.loop {c : Code} {s : LS} {K : Exit → LS → Prop} {α : Type} (st : α → LS) (I : α → Prop) (mu : α → Nat) (x0 : α) (h0 : I x0) (hw : Weak G N s (st x0))
    (hround : ∀ x, I x → YVC P G N X c (st x) (exThen (fun s' => ∃ y, I y ∧ mu y < mu x ∧ Weak G N s' (st y)) K)) : YVC P G N X (.loop c) s K := ⟨WpX.loop st I mu x0 h0 hw fun x hI => (hround x hI).out⟩
/-- A call of yield, in a region. -/
theorem YVC.yield (hΓ : TyOk P Γ) (hX : X.ro = none) {l : Nat} {Y : YSpec} (hY : YieldOk P G N X l Y) {id : Nat} {ops : Array Oper} {s : LS} {K : Exit → LS → Prop}
    (i : Nat) {y : Oper} (hi : ops.toList[i]? = some y) {c : Call} {x : Operand} (hy : y.op = .call c) (hc : c.callee = .value x) (hg : y.guard = none)
    (h : opsK P Γ G N ops.toList (ops.toList.take i) s fun s1 => ∃ s0, Weak G N s1 s0 ∧ s0.ev G x = .func (.yield l) [] ∧ Y (evL G s0 c.args.toList) s0.h fun H' => LS.put ⟨s0.t, H'⟩ y.dst (.bool true) fun s2 => opsK P Γ G N ops.toList (ops.toList.drop (i + 1)) s2 (K .normal)) : YVC P G N X (.region id ops false) s K := by
  refine ⟨WpX.region_yield hΓ hX hY (ops.toList.take i) (ops.toList.drop (i + 1)) y ?_ hy hc hg h⟩
  obtain ⟨hlt, he⟩ := List.getElem?_eq_some_iff.1 hi
  rw [← he, ← List.drop_eq_getElem_cons hlt, List.take_append_drop]
end
end Go.LX
