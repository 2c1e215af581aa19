/- Own texts of this claim, in build order: Mg, Mh, Mi, Mj, Lp, Qa, Lo, Mo, Mk, Ml, Qb, Qc, Qd, Mp, Ls, Qe, Qf, Wz, Qg, Qh, Qi, Qj, Qk. -/
import Derived.Test.YtfnpemikicofaaaGreatDoorX4
section
set_option maxRecDepth 100000
set_option maxHeartbeats 2000000
set_option autoImplicit false
set_option linter.unusedVariables false
set_option linter.unusedSimpArgs false
namespace Go.LX
open Go.Proofs

def depS (m : Nat) : Spec := fun args H Q => match args, H with
  | [.int .i64 x, .int .i64 y], [] => ∃ i n : Nat, x = i ∧ y = n ∧ i < n ∧ n ≤ m ∧ n < 60000 ∧ Q (.int .i64 ((depP i n : Nat) : Int)) []
  | _, _ => False
theorem rdep_c : ∀ m, Meets Tryz.prog [] 83 (depS m)
  | 0 => by
    intro args H Q h
    unfold depS at h
    split at h
    case h_2 => exact h.elim
    obtain ⟨i, n, _, _, h1, h2, _⟩ := h
    omega
  | m + 1 => by
    have ih : Contract Tryz.prog [] 83 (depS m) := ⟨⟨⟨_, rfl, rfl, rfl⟩⟩, rdep_c m⟩
    refine meets_of Γok Tryz.func83 rfl ?_
    intro args H Q h
    unfold depS at h
    split at h
    case h_2 => exact h.elim
    obtain ⟨i, n, rfl, rfl, hi, hm, h60, h⟩ := h
    (refine sx_sound Γok _ ?_; conv => whnf)
    (repeat (first | (exact Out.same; conv => whnf) | (exact Out1.same; conv => whnf) | (refine QAnd.mk ?_ ?_; conv => whnf) | (apply QStepH.go; conv => whnf) | (refine Both.lit_true ?_; conv => whnf) | (refine Both.lit_false ?_; conv => whnf) | (apply QStep.go; conv => whnf) | (refine Need.au ?_; conv => whnf) | (refine ⟨_, rfl, ?_⟩; conv => whnf)))
    refine Both.dec (fun hone => ?_) (fun hmore => ?_)
    · rw [depP_one (show n ≤ 1 by omega)] at h
      (conv => whnf)
      (repeat (first | (exact Out.same; conv => whnf) | (exact Out1.same; conv => whnf) | (refine QAnd.mk ?_ ?_; conv => whnf) | (apply QStepH.go; conv => whnf) | (refine Both.lit_true ?_; conv => whnf) | (refine Both.lit_false ?_; conv => whnf) | (apply QStep.go; conv => whnf) | (refine Need.au ?_; conv => whnf) | (refine ⟨_, rfl, ?_⟩; conv => whnf)))
      exact ⟨_, _, WeakV.drop rfl, h⟩
    have hn1 : ¬ n ≤ 1 := by omega
    have hlt := lft_lt (n := n) (by omega)
    have hpos := lft_pos n
    rw [depP_two hn1] at h
    revert h hlt hpos
    generalize hg : lft n = g
    intro h hlt hpos
    (conv => whnf)
    (repeat (first | (exact Out.same; conv => whnf) | (exact Out1.same; conv => whnf) | (refine QAnd.mk ?_ ?_; conv => whnf) | (apply QStepH.go; conv => whnf) | (refine Both.lit_true ?_; conv => whnf) | (refine Both.lit_false ?_; conv => whnf) | (apply QStep.go; conv => whnf) | (refine Need.au ?_; conv => whnf) | (refine ⟨_, rfl, ?_⟩; conv => whnf)))
    refine CallVC.auto rlft_k ⟨n, rfl, by omega, by omega, ?_⟩
    rw [hg]
    (conv => whnf)
    (repeat (first | (exact Out.same; conv => whnf) | (exact Out1.same; conv => whnf) | (refine QAnd.mk ?_ ?_; conv => whnf) | (apply QStepH.go; conv => whnf) | (refine Both.lit_true ?_; conv => whnf) | (refine Both.lit_false ?_; conv => whnf) | (apply QStep.go; conv => whnf) | (refine Need.au ?_; conv => whnf) | (refine ⟨_, rfl, ?_⟩; conv => whnf)))
    refine Both.dec (fun hlo => ?_) (fun hhi => ?_)
    · rw [if_pos (by omega)] at h
      have hle := dep_le g g i (Nat.le_refl _)
      have hw : IntKind.i64.wrap (1 + ((depP i g : Nat) : Int)) = ((1 + depP i g : Nat) : Int) := by rw [wrap_i64 (by omega) (by omega)]; rfl
      (conv => whnf)
      (repeat (first | (exact Out.same; conv => whnf) | (exact Out1.same; conv => whnf) | (refine QAnd.mk ?_ ?_; conv => whnf) | (apply QStepH.go; conv => whnf) | (refine Both.lit_true ?_; conv => whnf) | (refine Both.lit_false ?_; conv => whnf) | (apply QStep.go; conv => whnf) | (refine Need.au ?_; conv => whnf) | (refine ⟨_, rfl, ?_⟩; conv => whnf)))
      refine CallVC.auto ih ⟨i, g, rfl, rfl, by omega, by omega, by omega, ?_⟩
      (conv => whnf)
      (repeat (first | (exact Out.same; conv => whnf) | (exact Out1.same; conv => whnf) | (refine QAnd.mk ?_ ?_; conv => whnf) | (apply QStepH.go; conv => whnf) | (refine Both.lit_true ?_; conv => whnf) | (refine Both.lit_false ?_; conv => whnf) | (apply QStep.go; conv => whnf) | (refine Need.au ?_; conv => whnf) | (refine ⟨_, rfl, ?_⟩; conv => whnf)))
      exact ⟨_, _, WeakV.drop (congrArg (SV.int .i64) hw), h⟩
    · rw [if_neg (by omega)] at h
      have hle := dep_le (n - g) (n - g) (i - g) (Nat.le_refl _)
      have hw : IntKind.i64.wrap (1 + ((depP (i - g) (n - g) : Nat) : Int)) = ((1 + depP (i - g) (n - g) : Nat) : Int) := by rw [wrap_i64 (by omega) (by omega)]; rfl
      have w1 : IntKind.i64.wrap ((i : Int) - (g : Int)) = ((i - g : Nat) : Int) := by rw [wrap_i64 (by omega) (by omega)]; omega
      have w2 : IntKind.i64.wrap ((n : Int) - (g : Int)) = ((n - g : Nat) : Int) := by rw [wrap_i64 (by omega) (by omega)]; omega
      (conv => whnf)
      (repeat (first | (exact Out.same; conv => whnf) | (exact Out1.same; conv => whnf) | (refine QAnd.mk ?_ ?_; conv => whnf) | (apply QStepH.go; conv => whnf) | (refine Both.lit_true ?_; conv => whnf) | (refine Both.lit_false ?_; conv => whnf) | (apply QStep.go; conv => whnf) | (refine Need.au ?_; conv => whnf) | (refine ⟨_, rfl, ?_⟩; conv => whnf)))
      refine CallVC.auto ih ⟨i - g, n - g, w1, w2, by omega, by omega, by omega, ?_⟩
      (conv => whnf)
      (repeat (first | (exact Out.same; conv => whnf) | (exact Out1.same; conv => whnf) | (refine QAnd.mk ?_ ?_; conv => whnf) | (apply QStepH.go; conv => whnf) | (refine Both.lit_true ?_; conv => whnf) | (refine Both.lit_false ?_; conv => whnf) | (apply QStep.go; conv => whnf) | (refine Need.au ?_; conv => whnf) | (refine ⟨_, rfl, ?_⟩; conv => whnf)))
      exact ⟨_, _, WeakV.drop (congrArg (SV.int .i64) hw), h⟩
theorem rdep_k (m : Nat) : Contract Tryz.prog [] 83 (depS m) := ⟨⟨⟨_, rfl, rfl, rfl⟩⟩, rdep_c m⟩
def rupS (m : Nat) : Spec := fun args H Q => match args with
  | [.ptr 0 0, .agg [.int .i64 c1, .int .i64 c2, .str k, .str v, .sl 1 n cs false], .int .i64 x, .int .i64 y] => inB H fun T => ∃ (i cnt : Nat) (p : List Bs), x = i ∧ y = cnt ∧ i < cnt ∧ cnt ≤ m ∧ cnt < 60000 ∧ cs = strs p ∧ n = p.length ∧ p.length < 1000000 ∧ depP i cnt ≤ p.length ∧ (∀ s ∈ p, s.length = 32) ∧ k.length < 50000 ∧ v.length < 50000 ∧
      Q (.str (upD (txLeaf (k, v)) p i cnt)) (bkO (upT (txLeaf (k, v)) p i cnt T))
  | _ => False
theorem rup_c : ∀ m, Meets Tryz.prog [] 84 (rupS m)
  | 0 => by
    intro args H Q h
    unfold rupS at h
    split at h
    case h_2 => exact h.elim
    obtain ⟨T, rfl, i, cnt, p, _, _, h1, h2, _⟩ := inB_out h
    omega
  | m + 1 => by
    have ih : Contract Tryz.prog [] 84 (rupS m) := ⟨⟨⟨_, rfl, rfl, rfl⟩⟩, rup_c m⟩
    refine meets_of Γok Tryz.func84 rfl ?_
    intro args H Q h
    unfold rupS at h
    split at h
    case h_2 => exact h.elim
    rename_i c1 c2 k v n cs x y
    obtain ⟨T, rfl, i, cnt, p, rfl, rfl, hi, hm, h60, rfl, rfl, hp, hd, h32, hk, hv, h⟩ := inB_out h
    (refine sx_sound Γok _ ?_; conv => whnf)
    (repeat (first | (exact Out.same; conv => whnf) | (exact Out1.same; conv => whnf) | (refine QAnd.mk ?_ ?_; conv => whnf) | (apply QStepH.go; conv => whnf) | (refine Both.lit_true ?_; conv => whnf) | (refine Both.lit_false ?_; conv => whnf) | (apply QStep.go; conv => whnf) | (refine Need.au ?_; conv => whnf) | (refine ⟨_, rfl, ?_⟩; conv => whnf)))
    refine Both.dec (fun hone => ?_) (fun hmore => ?_)
    · rw [upD_one (show cnt ≤ 1 by omega), upT_one (show cnt ≤ 1 by omega)] at h
      (conv => whnf)
      (repeat (first | (exact Out.same; conv => whnf) | (exact Out1.same; conv => whnf) | (refine QAnd.mk ?_ ?_; conv => whnf) | (apply QStepH.go; conv => whnf) | (refine Both.lit_true ?_; conv => whnf) | (refine Both.lit_false ?_; conv => whnf) | (apply QStep.go; conv => whnf) | (refine Need.au ?_; conv => whnf) | (refine ⟨_, rfl, ?_⟩; conv => whnf)))
      refine CallVC.auto rleaf_k (inB_mk ⟨hk, hv, ?_⟩)
      (conv => whnf)
      (repeat (first | (exact Out.same; conv => whnf) | (exact Out1.same; conv => whnf) | (refine QAnd.mk ?_ ?_; conv => whnf) | (apply QStepH.go; conv => whnf) | (refine Both.lit_true ?_; conv => whnf) | (refine Both.lit_false ?_; conv => whnf) | (apply QStep.go; conv => whnf) | (refine Need.au ?_; conv => whnf) | (refine ⟨_, rfl, ?_⟩; conv => whnf)))
      refine ⟨_, _, WeakV.auto ?_, h⟩
      (repeat' ((conv => whnf); first | exact True.intro | (refine And.intro ?_ ?_)))
      all_goals first | rfl | exact .eq rfl
    have hn1 : ¬ cnt ≤ 1 := by omega
    have hlt := lft_lt (n := cnt) (by omega)
    have hpos := lft_pos cnt
    have hdd := depP_two (i := i) hn1
    rw [upD_two hn1, upT_two hn1] at h
    have hdl : depP i cnt - 1 < p.length := by
      have : 0 < depP i cnt := by rw [hdd]; split <;> omega
      omega
    have hb32 : (p.getD (depP i cnt - 1) []).length = 32 := by
      rw [List.getD_eq_getElem?_getD, List.getElem?_eq_getElem hdl]
      exact h32 _ (List.getElem_mem _)
    have hat := strs_at p hdl
    have hle := dep_le cnt cnt i (Nat.le_refl _)
    have hd0 : 0 < depP i cnt := by rw [hdd]; split <;> omega
    have hwd : IntKind.i64.wrap (((depP i cnt : Nat) : Int) - 1) = ((depP i cnt - 1 : Nat) : Int) := by rw [wrap_i64 (by omega) (by omega)]; omega
    have hat2 : (strs p)[(IntKind.i64.wrap (((depP i cnt : Nat) : Int) - 1)).toNat]? = some (CV.str (p.getD (depP i cnt - 1) [])) := by rw [hwd]; exact hat
    have hin : (1 : Nat) = 1 ∧ 0 ≤ IntKind.i64.wrap (((depP i cnt : Nat) : Int) - 1) ∧ IntKind.i64.wrap (((depP i cnt : Nat) : Int) - 1) < ((p.length : Nat) : Int) := ⟨rfl, by rw [hwd]; omega, by rw [hwd]; omega⟩
    have hd1 : i < lft cnt → depP i (lft cnt) ≤ p.length := fun h => by rw [hdd, if_pos h] at hd; omega
    have hd2 : ¬ i < lft cnt → depP (i - lft cnt) (cnt - lft cnt) ≤ p.length := fun h => by rw [hdd, if_neg h] at hd; omega
    revert h hlt hpos hat2 hb32 hd1 hd2
    generalize p.getD (depP i cnt - 1) [] = b
    generalize hg : lft cnt = g
    intro h hlt hpos hb32 hat2 hd1 hd2
    clear hat hdd
    (conv => whnf)
    (repeat (first | (exact Out.same; conv => whnf) | (exact Out1.same; conv => whnf) | (refine QAnd.mk ?_ ?_; conv => whnf) | (apply QStepH.go; conv => whnf) | (refine Both.lit_true ?_; conv => whnf) | (refine Both.lit_false ?_; conv => whnf) | (apply QStep.go; conv => whnf) | (refine Need.au ?_; conv => whnf) | (refine ⟨_, rfl, ?_⟩; conv => whnf)))
    refine CallVC.auto rlft_k ⟨cnt, rfl, by omega, by omega, ?_⟩
    rw [hg]
    (conv => whnf)
    (refine DrawVC.any Γok (by kernel_rfl) (by kernel_rfl) (by kernel_rfl) (by rfl) ?_; conv => whnf)
    (repeat (first | (refine CallVC.auto (rdep_k cnt) ⟨i, cnt, rfl, rfl, hi, Nat.le_refl _, h60, ?_⟩; conv => whnf) | (refine Need.mk hin ?_; conv => whnf) | (refine ⟨_, hat2, ?_⟩; conv => whnf) | (exact Out.same; conv => whnf) | (exact Out1.same; conv => whnf) | (refine QAnd.mk ?_ ?_; conv => whnf) | (apply QStepH.go; conv => whnf) | (refine Both.lit_true ?_; conv => whnf) | (refine Both.lit_false ?_; conv => whnf) | (apply QStep.go; conv => whnf) | (refine Need.au ?_; conv => whnf) | (refine ⟨_, rfl, ?_⟩; conv => whnf)))
    refine Both.dec (fun hlo => ?_) (fun hhi => ?_)
    · have hlo' : i < g := by omega
      rw [if_pos hlo', if_pos hlo'] at h
      have hdu := upD_len (txLeaf (k, v)) p i g
      have s1 : ([1] : Bs).length + (upD (txLeaf (k, v)) p i g).length ≤ 9223372036854775807 := by rw [hdu]; decide
      have s2 : ([1] ++ upD (txLeaf (k, v)) p i g : Bs).length + b.length ≤ 9223372036854775807 := by rw [List.length_append, hdu, hb32]; decide
      have s3 : ([1] ++ upD (txLeaf (k, v)) p i g ++ b : Bs).length < 900000 := by rw [List.length_append, List.length_append, hdu, hb32]; decide
      (conv => whnf)
      (repeat (first | (refine CallVC.auto ih (inB_mk ⟨i, g, p, rfl, rfl, hlo', by omega, by omega, rfl, rfl, hp, hd1 hlo', h32, hk, hv, ?_⟩); conv => whnf) | (refine Need.mk s1 ?_; conv => whnf) | (refine Need.mk s2 ?_; conv => whnf) | (refine CallVC.auto bsum_k (inB_mk ⟨s3, ?_⟩); conv => whnf) | (exact Out.same; conv => whnf) | (exact Out1.same; conv => whnf) | (refine QAnd.mk ?_ ?_; conv => whnf) | (apply QStepH.go; conv => whnf) | (refine Both.lit_true ?_; conv => whnf) | (refine Both.lit_false ?_; conv => whnf) | (apply QStep.go; conv => whnf) | (refine Need.au ?_; conv => whnf) | (refine ⟨_, rfl, ?_⟩; conv => whnf)))
      refine ⟨_, _, WeakV.auto ?_, h⟩
      (repeat' ((conv => whnf); first | exact True.intro | (refine And.intro ?_ ?_)))
      all_goals first | rfl | exact .eq rfl
    · have hhi' : ¬ i < g := by omega
      rw [if_neg hhi', if_neg hhi'] at h
      have hdu := upD_len (txLeaf (k, v)) p (i - g) (cnt - g)
      have s1 : ([1] : Bs).length + b.length ≤ 9223372036854775807 := by rw [hb32]; decide
      have s2 : ([1] ++ b : Bs).length + (upD (txLeaf (k, v)) p (i - g) (cnt - g)).length ≤ 9223372036854775807 := by rw [List.length_append, hdu, hb32]; decide
      have s3 : ([1] ++ b ++ upD (txLeaf (k, v)) p (i - g) (cnt - g) : Bs).length < 900000 := by rw [List.length_append, List.length_append, hdu, hb32]; decide
      have w1 : IntKind.i64.wrap ((i : Int) - (g : Int)) = ((i - g : Nat) : Int) := by rw [wrap_i64 (by omega) (by omega)]; omega
      have w2 : IntKind.i64.wrap ((cnt : Int) - (g : Int)) = ((cnt - g : Nat) : Int) := by rw [wrap_i64 (by omega) (by omega)]; omega
      (conv => whnf)
      (repeat (first | (refine CallVC.auto ih (inB_mk ⟨i - g, cnt - g, p, w1, w2, by omega, by omega, by omega, rfl, rfl, hp, hd2 hhi', h32, hk, hv, ?_⟩); conv => whnf) | (refine Need.mk s1 ?_; conv => whnf) | (refine Need.mk s2 ?_; conv => whnf) | (refine CallVC.auto bsum_k (inB_mk ⟨s3, ?_⟩); conv => whnf) | (exact Out.same; conv => whnf) | (exact Out1.same; conv => whnf) | (refine QAnd.mk ?_ ?_; conv => whnf) | (apply QStepH.go; conv => whnf) | (refine Both.lit_true ?_; conv => whnf) | (refine Both.lit_false ?_; conv => whnf) | (apply QStep.go; conv => whnf) | (refine Need.au ?_; conv => whnf) | (refine ⟨_, rfl, ?_⟩; conv => whnf)))
      refine ⟨_, _, WeakV.auto ?_, h⟩
      (repeat' ((conv => whnf); first | exact True.intro | (refine And.intro ?_ ?_)))
      all_goals first | rfl | exact .eq rfl
theorem rup_k (m : Nat) : Contract Tryz.prog [] 84 (rupS m) := ⟨⟨⟨_, rfl, rfl, rfl⟩⟩, rup_c m⟩
end Go.LX
end
section
set_option maxRecDepth 100000
set_option maxHeartbeats 2000000
set_option autoImplicit false
set_option linter.unusedVariables false
set_option linter.unusedSimpArgs false
namespace Go.LX
open Go.Proofs

def rightP (p : List Bs) (x c : Int) : Prop := okL x c ∧ p.length = depP x.toNat c.toNat ∧ ∀ s ∈ p, s.length = 32
theorem climb_yes {lf : Bs} {x c : Int} {p : List Bs} (h : rightP p x c) : climbP lf x c p = (shaD (topX c.toNat (upD lf p x.toNat c.toNat)), true) := by
  obtain ⟨h1, h2, h3⟩ := h
  have h4 : upP lf c.toNat x.toNat p true = (upD lf p x.toNat c.toNat, [], true) := up_ok lf c.toNat c.toNat x.toNat [] p true (Nat.le_refl _) h2 h3
  unfold climbP
  rw [h4, if_pos ⟨h1, rfl, rfl⟩]
theorem climb_no {lf : Bs} {x c : Int} {p : List Bs} (h : ¬ rightP p x c) : climbP lf x c p = ([], false) := by
  unfold climbP
  rw [if_neg]
  rintro ⟨h1, h2, h3⟩
  obtain ⟨_, q, h4, h5, h6⟩ := up_back lf c.toNat c.toNat x.toNat p true (Nat.le_refl _) h2
  rw [h3] at h4
  have h4 : p = q := h4
  subst h4
  exact h ⟨h1, h5, h6⟩
def climbT (lf : Bs) (x c : Int) (p : List Bs) (T : List Bs) : List Bs := topX c.toNat (upD lf p x.toNat c.toNat) :: upT lf p x.toNat c.toNat T
def rclimbS : Spec := fun args H Q => match args with
  | [.ptr 0 0, .agg [.int .i64 x, .int .i64 c, .str k, .str v, .sl 1 n cs false]] => inB H fun T => ∃ p : List Bs, cs = strs p ∧ n = p.length ∧ p.length < 1000000 ∧ k.length < 50000 ∧ v.length < 50000 ∧
      (rightP p x c → Q (.tuple [.str (shaD (topX c.toNat (upD (txLeaf (k, v)) p x.toNat c.toNat))), .bool true]) (bkO (climbT (txLeaf (k, v)) x c p T))) ∧ (¬ rightP p x c → Q (.tuple [.str [], .bool false]) (bkO T))
  | _ => False
theorem getD_32 (p : List Bs) {k : Nat} (hk : k < p.length) (h : (p.getD k []).length = 32) (hall : ∀ j, j < k → (p.getD j []).length = 32) : ∀ j, j < k + 1 → (p.getD j []).length = 32 := fun j hj => by
  rcases Nat.lt_or_ge j k with h9 | h9
  · exact hall j h9
  · rw [show j = k by omega]; exact h
theorem rclimb_c : Meets Tryz.prog [] 51 rclimbS := by
  refine meets_of Γok Tryz.func51 rfl ?_
  intro args H Q h
  unfold rclimbS at h
  split at h
  case h_2 => exact h.elim
  rename_i x c k v n cs
  obtain ⟨T, rfl, p, rfl, rfl, hp, hk, hv, hyes, hno⟩ := inB_out h
  clear h
  have out1 : ¬ okL x c → Q (.tuple [.str [], .bool false]) (bkO T) := fun h9 => hno (fun h => h9 h.1)
  (refine sx_sound Γok _ ?_; conv => whnf)
  (refine DrawVC.any Γok (by kernel_rfl) (by kernel_rfl) (by kernel_rfl) (by rfl) ?_; conv => whnf)
  (repeat (first | (exact Out.same; conv => whnf) | (exact Out1.same; conv => whnf) | (refine QAnd.mk ?_ ?_; conv => whnf) | (apply QStepH.go; conv => whnf) | (refine Both.lit_true ?_; conv => whnf) | (refine Both.lit_false ?_; conv => whnf) | (apply QStep.go; conv => whnf) | (refine Need.au ?_; conv => whnf) | (refine ⟨_, rfl, ?_⟩; conv => whnf)))
  refine Both.dec (fun b1 => ?_) (fun b1 => ?_)
  · (conv => whnf)
    (repeat (first | (exact Out.same; conv => whnf) | (exact Out1.same; conv => whnf) | (refine QAnd.mk ?_ ?_; conv => whnf) | (apply QStepH.go; conv => whnf) | (refine Both.lit_true ?_; conv => whnf) | (refine Both.lit_false ?_; conv => whnf) | (apply QStep.go; conv => whnf) | (refine Need.au ?_; conv => whnf) | (refine ⟨_, rfl, ?_⟩; conv => whnf) | (refine Both.of_false ?_ ?_; (focus (first | rfl | (simp <;> fail))); conv => whnf) | (refine Both.of_true ?_ ?_; (focus (first | rfl | (simp <;> fail))); conv => whnf)))
    refine ⟨_, _, WeakV.auto ?_, out1 (fun h => by omega)⟩
    (repeat' ((conv => whnf); first | exact True.intro | (refine And.intro ?_ ?_)))
    all_goals first | rfl | exact .eq rfl
  (conv => whnf)
  (repeat (first | (exact Out.same; conv => whnf) | (exact Out1.same; conv => whnf) | (refine QAnd.mk ?_ ?_; conv => whnf) | (apply QStepH.go; conv => whnf) | (refine Both.lit_true ?_; conv => whnf) | (refine Both.lit_false ?_; conv => whnf) | (apply QStep.go; conv => whnf) | (refine Need.au ?_; conv => whnf) | (refine ⟨_, rfl, ?_⟩; conv => whnf)))
  refine Both.dec (fun b2 => ?_) (fun b2 => ?_)
  · (conv => whnf)
    (repeat (first | (exact Out.same; conv => whnf) | (exact Out1.same; conv => whnf) | (refine QAnd.mk ?_ ?_; conv => whnf) | (apply QStepH.go; conv => whnf) | (refine Both.lit_true ?_; conv => whnf) | (refine Both.lit_false ?_; conv => whnf) | (apply QStep.go; conv => whnf) | (refine Need.au ?_; conv => whnf) | (refine ⟨_, rfl, ?_⟩; conv => whnf) | (refine Both.of_false ?_ ?_; (focus (first | rfl | (simp <;> fail))); conv => whnf) | (refine Both.of_true ?_ ?_; (focus (first | rfl | (simp <;> fail))); conv => whnf)))
    refine ⟨_, _, WeakV.auto ?_, out1 (fun h => by omega)⟩
    (repeat' ((conv => whnf); first | exact True.intro | (refine And.intro ?_ ?_)))
    all_goals first | rfl | exact .eq rfl
  (conv => whnf)
  (repeat (first | (exact Out.same; conv => whnf) | (exact Out1.same; conv => whnf) | (refine QAnd.mk ?_ ?_; conv => whnf) | (apply QStepH.go; conv => whnf) | (refine Both.lit_true ?_; conv => whnf) | (refine Both.lit_false ?_; conv => whnf) | (apply QStep.go; conv => whnf) | (refine Need.au ?_; conv => whnf) | (refine ⟨_, rfl, ?_⟩; conv => whnf)))
  refine Both.dec (fun b3 => ?_) (fun b3 => ?_)
  · (conv => whnf)
    (repeat (first | (exact Out.same; conv => whnf) | (exact Out1.same; conv => whnf) | (refine QAnd.mk ?_ ?_; conv => whnf) | (apply QStepH.go; conv => whnf) | (refine Both.lit_true ?_; conv => whnf) | (refine Both.lit_false ?_; conv => whnf) | (apply QStep.go; conv => whnf) | (refine Need.au ?_; conv => whnf) | (refine ⟨_, rfl, ?_⟩; conv => whnf) | (refine Both.of_false ?_ ?_; (focus (first | rfl | (simp <;> fail))); conv => whnf) | (refine Both.of_true ?_ ?_; (focus (first | rfl | (simp <;> fail))); conv => whnf)))
    refine ⟨_, _, WeakV.auto ?_, out1 (fun h => by omega)⟩
    (repeat' ((conv => whnf); first | exact True.intro | (refine And.intro ?_ ?_)))
    all_goals first | rfl | exact .eq rfl
  (conv => whnf)
  (repeat (first | (exact Out.same; conv => whnf) | (exact Out1.same; conv => whnf) | (refine QAnd.mk ?_ ?_; conv => whnf) | (apply QStepH.go; conv => whnf) | (refine Both.lit_true ?_; conv => whnf) | (refine Both.lit_false ?_; conv => whnf) | (apply QStep.go; conv => whnf) | (refine Need.au ?_; conv => whnf) | (refine ⟨_, rfl, ?_⟩; conv => whnf)))
  refine Both.dec (fun b4 => ?_) (fun b4 => ?_)
  · (conv => whnf)
    (repeat (first | (exact Out.same; conv => whnf) | (exact Out1.same; conv => whnf) | (refine QAnd.mk ?_ ?_; conv => whnf) | (apply QStepH.go; conv => whnf) | (refine Both.lit_true ?_; conv => whnf) | (refine Both.lit_false ?_; conv => whnf) | (apply QStep.go; conv => whnf) | (refine Need.au ?_; conv => whnf) | (refine ⟨_, rfl, ?_⟩; conv => whnf) | (refine Both.of_false ?_ ?_; (focus (first | rfl | (simp <;> fail))); conv => whnf) | (refine Both.of_true ?_ ?_; (focus (first | rfl | (simp <;> fail))); conv => whnf)))
    refine ⟨_, _, WeakV.auto ?_, out1 (fun h => by omega)⟩
    (repeat' ((conv => whnf); first | exact True.intro | (refine And.intro ?_ ?_)))
    all_goals first | rfl | exact .eq rfl
  have hL : okL x c := by omega
  have hx : x = ((x.toNat : Nat) : Int) := by omega
  have hc : c = ((c.toNat : Nat) : Int) := by omega
  have hxc : x.toNat < c.toNat := by omega
  have hc60 : c.toNat < 60000 := by omega
  (conv => whnf)
  (repeat (first | (refine CallVC.auto (rdep_k c.toNat) ⟨x.toNat, c.toNat, hx, hc, hxc, Nat.le_refl _, hc60, ?_⟩; conv => whnf) | (exact Out.same; conv => whnf) | (exact Out1.same; conv => whnf) | (refine QAnd.mk ?_ ?_; conv => whnf) | (apply QStepH.go; conv => whnf) | (refine Both.lit_true ?_; conv => whnf) | (refine Both.lit_false ?_; conv => whnf) | (apply QStep.go; conv => whnf) | (refine Need.au ?_; conv => whnf) | (refine ⟨_, rfl, ?_⟩; conv => whnf)))
  refine Both.dec_not (fun hne => ?_) (fun heq => ?_)
  · (conv => whnf)
    (repeat (first | (exact Out.same; conv => whnf) | (exact Out1.same; conv => whnf) | (refine QAnd.mk ?_ ?_; conv => whnf) | (apply QStepH.go; conv => whnf) | (refine Both.lit_true ?_; conv => whnf) | (refine Both.lit_false ?_; conv => whnf) | (apply QStep.go; conv => whnf) | (refine Need.au ?_; conv => whnf) | (refine ⟨_, rfl, ?_⟩; conv => whnf) | (refine Both.of_false ?_ ?_; (focus (first | rfl | (simp <;> fail))); conv => whnf) | (refine Both.of_true ?_ ?_; (focus (first | rfl | (simp <;> fail))); conv => whnf)))
    refine ⟨_, _, WeakV.auto ?_, hno (fun h => hne (by rw [h.2.1]))⟩
    (repeat' ((conv => whnf); first | exact True.intro | (refine And.intro ?_ ?_)))
    all_goals first | rfl | exact .eq rfl
  have hdp : p.length = depP x.toNat c.toNat := by omega
  (conv => whnf)
  (repeat (first | (exact Out.same; conv => whnf) | (exact Out1.same; conv => whnf) | (refine QAnd.mk ?_ ?_; conv => whnf) | (apply QStepH.go; conv => whnf) | (refine Both.lit_true ?_; conv => whnf) | (refine Both.lit_false ?_; conv => whnf) | (apply QStep.go; conv => whnf) | (refine Need.au ?_; conv => whnf) | (refine ⟨_, rfl, ?_⟩; conv => whnf) | (refine Both.of_false ?_ ?_; (focus (first | rfl | (simp <;> fail))); conv => whnf) | (refine Both.of_true ?_ ?_; (focus (first | rfl | (simp <;> fail))); conv => whnf)))
  refine loop_rule (fun j : Nat => ⟨[.ptr 0 0, .any, .any, .ptr 2 0, .any, .any, .int .i64 (j : Int), .any, .any, .any, .any, .any, .any, .any, .any, .any, .any, .any, .any, .any, .any, .any, .any, .any, .any, .any, .any, .any, .any, .any, .any, .any, .any, .any, .any, .any, .any, .any, .any, .any, .any, .any, .any, .any, .any, .any, .any, .any, .any, .any, .any, .any, .any, .any, .any, .any, .any, .any, .any, .any, .any, .any, .any], bkO T ++ [.cells [.int .i64 x, .int .i64 c, .str k, .str v, .sl 1 p.length (strs p) false] 50]⟩) (fun j => j ≤ p.length ∧ ∀ q, q < j → (p.getD q []).length = 32) (fun j => p.length - j) 0 ⟨Nat.zero_le _, fun q hq => by omega⟩ (Weak.auto ?_) ?_
  · (repeat' ((conv => whnf); first | exact True.intro | (refine And.intro ?_ ?_)))
    all_goals first | rfl | exact .eq rfl
  rintro j ⟨hj, hall⟩
  (refine sx_sound Γok _ ?_; conv => whnf)
  (repeat (first | (exact Out.same; conv => whnf) | (exact Out1.same; conv => whnf) | (refine QAnd.mk ?_ ?_; conv => whnf) | (apply QStepH.go; conv => whnf) | (refine Both.lit_true ?_; conv => whnf) | (refine Both.lit_false ?_; conv => whnf) | (apply QStep.go; conv => whnf) | (refine Need.au ?_; conv => whnf) | (refine ⟨_, rfl, ?_⟩; conv => whnf)))
  refine Both.dec (fun hlt => ?_) (fun hge => ?_)
  · have hjl : j < p.length := by omega
    have hat := strs_at p hjl
    have hwr : IntKind.i64.wrap ((j : Int) + 1) = ((j + 1 : Nat) : Int) := by rw [wrap_i64 (by omega) (by omega)]; rfl
    (conv => whnf)
    (repeat (first | (refine ⟨_, hat, ?_⟩; conv => whnf) | (exact Out.same; conv => whnf) | (exact Out1.same; conv => whnf) | (refine QAnd.mk ?_ ?_; conv => whnf) | (apply QStepH.go; conv => whnf) | (refine Both.lit_true ?_; conv => whnf) | (refine Both.lit_false ?_; conv => whnf) | (apply QStep.go; conv => whnf) | (refine Need.au ?_; conv => whnf) | (refine ⟨_, rfl, ?_⟩; conv => whnf)))
    refine Both.dec_not (fun hne => ?_) (fun heq => ?_)
    · have hb : ¬ rightP p x c := fun h => hne (by
        have := h.2.2 (p.getD j []) (by rw [List.getD_eq_getElem?_getD, List.getElem?_eq_getElem hjl]; exact List.getElem_mem _)
        rw [this]
        rfl)
      (conv => whnf)
      (repeat (first | (exact Out.same; conv => whnf) | (exact Out1.same; conv => whnf) | (refine QAnd.mk ?_ ?_; conv => whnf) | (apply QStepH.go; conv => whnf) | (refine Both.lit_true ?_; conv => whnf) | (refine Both.lit_false ?_; conv => whnf) | (apply QStep.go; conv => whnf) | (refine Need.au ?_; conv => whnf) | (refine ⟨_, rfl, ?_⟩; conv => whnf) | (refine Both.of_false ?_ ?_; (focus (first | rfl | (simp <;> fail))); conv => whnf) | (refine Both.of_true ?_ ?_; (focus (first | rfl | (simp <;> fail))); conv => whnf)))
      refine ⟨_, _, WeakV.auto ?_, hno hb⟩
      (repeat' ((conv => whnf); first | exact True.intro | (refine And.intro ?_ ?_)))
      all_goals first | rfl | exact .eq rfl
    · (conv => whnf)
      (repeat (first | (exact Out.same; conv => whnf) | (exact Out1.same; conv => whnf) | (refine QAnd.mk ?_ ?_; conv => whnf) | (apply QStepH.go; conv => whnf) | (refine Both.lit_true ?_; conv => whnf) | (refine Both.lit_false ?_; conv => whnf) | (apply QStep.go; conv => whnf) | (refine Need.au ?_; conv => whnf) | (refine ⟨_, rfl, ?_⟩; conv => whnf) | (refine Both.of_false ?_ ?_; (focus (first | rfl | (simp <;> fail))); conv => whnf) | (refine Both.of_true ?_ ?_; (focus (first | rfl | (simp <;> fail))); conv => whnf)))
      refine ⟨j + 1, ⟨hjl, getD_32 p hjl (by omega) hall⟩, by omega, Weak.auto ?_⟩
      (repeat' ((conv => whnf); first | exact True.intro | (refine And.intro ?_ ?_)))
      all_goals first | rfl | exact .eq rfl | exact congrArg (SV.int .i64) hwr
  have hje : j = p.length := by omega
  have h32 : ∀ s ∈ p, s.length = 32 := fun s hs => by
    obtain ⟨q, hq, rfl⟩ := List.getElem_of_mem hs
    have := hall q (by omega)
    rw [List.getD_eq_getElem?_getD, List.getElem?_eq_getElem hq] at this
    exact this
  have h := hyes ⟨hL, hdp, h32⟩
  unfold climbT at h
  have hdu := upD_len (txLeaf (k, v)) p x.toNat c.toNat
  have n1 : -9223372036854775808 ≤ c := by omega
  have n2 : c ≤ 9223372036854775807 := by omega
  have n3 : (upD (txLeaf (k, v)) p x.toNat c.toNat).length < 50000 := by omega
  (conv => whnf)
  (refine DrawVC.any Γok (by kernel_rfl) (by kernel_rfl) (by kernel_rfl) (by rfl) ?_; conv => whnf)
  (repeat (first | (refine CallVC.auto (rup_k c.toNat) (inB_mk ⟨x.toNat, c.toNat, p, hx, hc, hxc, Nat.le_refl _, hc60, rfl, rfl, hp, by omega, h32, hk, hv, ?_⟩); conv => whnf) | (refine CallVC.auto rtop_k (inB_mk ⟨n1, n2, n3, ?_⟩); conv => whnf) | (exact Out.same; conv => whnf) | (exact Out1.same; conv => whnf) | (refine QAnd.mk ?_ ?_; conv => whnf) | (apply QStepH.go; conv => whnf) | (refine Both.lit_true ?_; conv => whnf) | (refine Both.lit_false ?_; conv => whnf) | (apply QStep.go; conv => whnf) | (refine Need.au ?_; conv => whnf) | (refine ⟨_, rfl, ?_⟩; conv => whnf)))
  refine ⟨_, _, WeakV.auto ?_, h⟩
  (repeat' ((conv => whnf); first | exact True.intro | (refine And.intro ?_ ?_)))
  all_goals first | rfl | exact .eq rfl
theorem rclimb_k : Contract Tryz.prog [] 51 rclimbS := ⟨⟨⟨_, rfl, rfl, rfl⟩⟩, rclimb_c⟩
end Go.LX
end
section
set_option maxRecDepth 100000
set_option maxHeartbeats 2000000
set_option autoImplicit false
set_option linter.unusedVariables false
set_option linter.unusedSimpArgs false
namespace Go.LX
open Go.Proofs

theorem less_tri0 : ∀ a b : Bs, lessS a b = !(lessS b a || decide (a = b))
  | [], [] => by simp [lessS, Op.bytesLess]
  | [], y :: t => by simp [lessS, Op.bytesLess]
  | x :: s, [] => by simp [lessS, Op.bytesLess]
  | x :: s, y :: t => by
    have ih := less_tri0 s t
    unfold lessS at ih ⊢
    unfold Op.bytesLess
    by_cases h1 : x < y
    · have h2 : ¬ y < x := UInt8.lt_asymm h1
      have h3 : x ≠ y := UInt8.ne_of_lt h1
      simp [h1, h2, h3, h3.symm]
    · by_cases h2 : y < x
      · have h3 : x ≠ y := fun h => by rw [h] at h2; exact UInt8.lt_irrefl _ h2
        simp [h1, h2, h3]
      · have h3 : x = y := by
          rcases UInt8.lt_or_eq_of_le (UInt8.not_lt.1 h2) with h | h
          · exact absurd h h1
          · exact h
        subst h3
        simp [ih]
theorem less_tri (a b : Bs) : lessS a b = !(lessS b a || decide (b = a)) := by
  rw [less_tri0 a b]
  simp [eq_comm]
def kAt (l : List Pr) (j : Nat) : Bs := (l.getD j ([], [])).1
def badB (p : Pr) : Bool := decide (p.1.length < 1) || decide (16 < p.1.length) || decide (64 < p.2.length)
def ordB : List Pr → Bool
  | a :: b :: r => lessS a.1 b.1 && ordB (b :: r)
  | _ => true
def chkV (l : List Pr) : Int := if 4096 < l.length then 1 else if l.any badB = true then 1 else if ordB l = true then 0 else 15
theorem any_yes {l : List Pr} {f : Pr → Bool} {j : Nat} (hj : j < l.length) (h : f (l.getD j ([], [])) = true) : l.any f = true := by
  rw [List.any_eq_true]
  refine ⟨l.getD j ([], []), ?_, h⟩
  rw [List.getD_eq_getElem?_getD, List.getElem?_eq_getElem hj]
  exact List.getElem_mem _
theorem any_no {l : List Pr} {f : Pr → Bool} (h : ∀ j, j < l.length → f (l.getD j ([], [])) = false) : l.any f = false := by
  rw [List.any_eq_false]
  intro p hp
  obtain ⟨j, hj, rfl⟩ := List.getElem_of_mem hp
  have := h j hj
  rw [List.getD_eq_getElem?_getD, List.getElem?_eq_getElem hj] at this
  have h2 : f (l[j]) = false := this
  rw [h2]
  decide
theorem ordB_yes : ∀ (l : List Pr), (∀ j, j + 1 < l.length → lessS (kAt l j) (kAt l (j + 1)) = true) → ordB l = true
  | [], _ => rfl
  | [_], _ => rfl
  | a :: b :: r, h => by
    rw [ordB, Bool.and_eq_true]
    exact ⟨h 0 (by simp), ordB_yes (b :: r) fun j hj => h (j + 1) (by simp at hj ⊢; omega)⟩
theorem ordB_no : ∀ (l : List Pr) (j : Nat), j + 1 < l.length → lessS (kAt l j) (kAt l (j + 1)) = false → ordB l = false
  | [], j, hj, _ => by simp at hj
  | [_], j, hj, _ => by simp at hj
  | a :: b :: r, 0, hj, h => by
    have h : lessS a.1 b.1 = false := h
    rw [ordB, h]
    rfl
  | a :: b :: r, j + 1, hj, h => by
    have := ordB_no (b :: r) j (by simp at hj ⊢; omega) h
    rw [ordB, this, Bool.and_false]
theorem chk_big {l : List Pr} (h : 4096 < l.length) : chkV l = 1 := by rw [chkV, if_pos h]
theorem chk_bad {l : List Pr} {j : Nat} (hj : j < l.length) (h : badB (l.getD j ([], [])) = true) : chkV l = 1 := by
  rw [chkV]
  split
  · rfl
  · rw [if_pos (any_yes hj h)]
theorem chk_ord {l : List Pr} {j : Nat} (hl : ¬ 4096 < l.length) (hb : ∀ j, j < l.length → badB (l.getD j ([], [])) = false) (hj : j + 1 < l.length) (h : lessS (kAt l j) (kAt l (j + 1)) = false) : chkV l = 15 := by
  rw [chkV, if_neg hl, if_neg (by rw [any_no hb]; decide), if_neg (by rw [ordB_no l j hj h]; decide)]
theorem chk_ok {l : List Pr} (hl : ¬ 4096 < l.length) (hb : ∀ j, j < l.length → badB (l.getD j ([], [])) = false) (h : ∀ j, j + 1 < l.length → lessS (kAt l j) (kAt l (j + 1)) = true) : chkV l = 0 := by
  rw [chkV, if_neg hl, if_neg (by rw [any_no hb]; decide), if_pos (ordB_yes l h)]
theorem bad_1 {p : Pr} (h : p.1.length < 1) : badB p = true := by unfold badB; rw [decide_eq_true h]; rfl
theorem bad_2 {p : Pr} (h : 16 < p.1.length) : badB p = true := by unfold badB; rw [decide_eq_true h, Bool.or_true]; rfl
theorem bad_3 {p : Pr} (h : 64 < p.2.length) : badB p = true := by unfold badB; rw [decide_eq_true h, Bool.or_true]
theorem bad_0 {p : Pr} (h1 : ¬ p.1.length < 1) (h2 : ¬ 16 < p.1.length) (h3 : ¬ 64 < p.2.length) : badB p = false := by simp only [badB, decide_eq_false h1, decide_eq_false h2, decide_eq_false h3]; rfl
theorem all_next {l : List Pr} {k : Nat} (h : badB (l.getD k ([], [])) = false) (hall : ∀ j, j < k → badB (l.getD j ([], [])) = false) : ∀ j, j < k + 1 → badB (l.getD j ([], [])) = false := fun j hj => by
  rcases Nat.lt_or_ge j k with h9 | h9
  · exact hall j h9
  · rw [show j = k by omega]; exact h
end Go.LX
end
section
set_option maxRecDepth 100000
set_option maxHeartbeats 2000000
set_option autoImplicit false
set_option linter.unusedVariables false
set_option linter.unusedSimpArgs false
namespace Go.LX
open Go.Proofs

def rchkS : Spec := fun args H Q => match args, H with
  | [.sl 2 n cs f], [] => ∃ l : List Pr, n = l.length ∧ cs = flP l ∧ l.length ≤ 9223372036854775807 ∧ Q (.int .i64 (chkV l)) []
  | _, _ => False
theorem rchk_c : Meets Tryz.prog [] 23 rchkS := by
  refine meets_of Γok Tryz.func23 rfl ?_
  intro args H Q h
  unfold rchkS at h
  split at h
  case h_2 => exact h.elim
  rename_i n cs f
  obtain ⟨l, rfl, rfl, hlc, h⟩ := h
  (refine sx_sound Γok _ ?_; conv => whnf)
  (repeat (first | (exact Out.same; conv => whnf) | (exact Out1.same; conv => whnf) | (refine QAnd.mk ?_ ?_; conv => whnf) | (apply QStepH.go; conv => whnf) | (refine Both.lit_true ?_; conv => whnf) | (refine Both.lit_false ?_; conv => whnf) | (apply QStep.go; conv => whnf) | (refine Need.au ?_; conv => whnf) | (refine ⟨_, rfl, ?_⟩; conv => whnf)))
  refine Both.dec (fun hbig => ?_) (fun hbig => ?_)
  · rw [chk_big (by omega)] at h
    (conv => whnf)
    (repeat (first | (exact Out.same; conv => whnf) | (exact Out1.same; conv => whnf) | (refine QAnd.mk ?_ ?_; conv => whnf) | (apply QStepH.go; conv => whnf) | (refine Both.lit_true ?_; conv => whnf) | (refine Both.lit_false ?_; conv => whnf) | (apply QStep.go; conv => whnf) | (refine Need.au ?_; conv => whnf) | (refine ⟨_, rfl, ?_⟩; conv => whnf) | (refine Both.of_false ?_ ?_; (focus (first | rfl | (simp <;> fail))); conv => whnf) | (refine Both.of_true ?_ ?_; (focus (first | rfl | (simp <;> fail))); conv => whnf)))
    exact ⟨_, _, WeakV.drop rfl, h⟩
  have hl4 : ¬ 4096 < l.length := by omega
  (conv => whnf)
  (repeat (first | (exact Out.same; conv => whnf) | (exact Out1.same; conv => whnf) | (refine QAnd.mk ?_ ?_; conv => whnf) | (apply QStepH.go; conv => whnf) | (refine Both.lit_true ?_; conv => whnf) | (refine Both.lit_false ?_; conv => whnf) | (apply QStep.go; conv => whnf) | (refine Need.au ?_; conv => whnf) | (refine ⟨_, rfl, ?_⟩; conv => whnf) | (refine Both.of_false ?_ ?_; (focus (first | rfl | (simp <;> fail))); conv => whnf) | (refine Both.of_true ?_ ?_; (focus (first | rfl | (simp <;> fail))); conv => whnf)))
  refine loop_rule (fun k : Nat => ⟨[.sl 2 l.length (flP l) f, .any, .any, .int .i64 (k : Int), .any, .any, .any, .any, .any, .any, .any, .any, .any, .any, .any, .any, .any, .any, .any, .any, .any, .any, .any, .any, .any, .any, .any, .any, .any, .any, .any, .any, .any, .any, .any, .any, .any, .any, .any, .any, .any, .any, .any, .any, .any, .any, .any, .any, .any, .any, .any, .any, .any, .any, .any, .any, .any], []⟩) (fun k => k ≤ l.length ∧ ∀ j, j < k → badB (l.getD j ([], [])) = false) (fun k => l.length - k) 0 ⟨Nat.zero_le _, fun j hj => by omega⟩ (Weak.auto ?_) ?_
  · (repeat' ((conv => whnf); first | exact True.intro | (refine And.intro ?_ ?_)))
    all_goals first | rfl | exact .eq rfl
  rintro k ⟨hk, hall⟩
  (refine sx_sound Γok _ ?_; conv => whnf)
  (repeat (first | (exact Out.same; conv => whnf) | (exact Out1.same; conv => whnf) | (refine QAnd.mk ?_ ?_; conv => whnf) | (apply QStepH.go; conv => whnf) | (refine Both.lit_true ?_; conv => whnf) | (refine Both.lit_false ?_; conv => whnf) | (apply QStep.go; conv => whnf) | (refine Need.au ?_; conv => whnf) | (refine ⟨_, rfl, ?_⟩; conv => whnf)))
  refine Both.dec (fun hlt => ?_) (fun hge => ?_)
  · have hkl : k < l.length := by omega
    have hat := flP_at l hkl
    have hin : ti33.size = 2 ∧ (0 : Int) ≤ (k : Int) ∧ (k : Int) < ((l.length : Nat) : Int) := ⟨rfl, by omega, by omega⟩
    have hwr : IntKind.i64.wrap ((k : Int) + 1) = ((k + 1 : Nat) : Int) := by rw [wrap_i64 (by omega) (by omega)]; rfl
    have hbad : badB (l.getD k ([], [])) = true → chkV l = 1 := chk_bad hkl
    have hnext := all_next (l := l) (k := k)
    revert hat hbad hnext
    generalize hpk : l.getD k ([], []) = p
    intro hat hbad hnext
    (conv => whnf)
    (repeat (first | (refine Need.mk hin ?_; conv => whnf) | (refine ⟨_, hat, ?_⟩; conv => whnf) | (exact Out.same; conv => whnf) | (exact Out1.same; conv => whnf) | (refine QAnd.mk ?_ ?_; conv => whnf) | (apply QStepH.go; conv => whnf) | (refine Both.lit_true ?_; conv => whnf) | (refine Both.lit_false ?_; conv => whnf) | (apply QStep.go; conv => whnf) | (refine Need.au ?_; conv => whnf) | (refine ⟨_, rfl, ?_⟩; conv => whnf)))
    refine Both.dec (fun c1 => ?_) (fun c1 => ?_)
    · rw [hbad (bad_1 (by omega))] at h
      (conv => whnf)
      (repeat (first | (exact Out.same; conv => whnf) | (exact Out1.same; conv => whnf) | (refine QAnd.mk ?_ ?_; conv => whnf) | (apply QStepH.go; conv => whnf) | (refine Both.lit_true ?_; conv => whnf) | (refine Both.lit_false ?_; conv => whnf) | (apply QStep.go; conv => whnf) | (refine Need.au ?_; conv => whnf) | (refine ⟨_, rfl, ?_⟩; conv => whnf) | (refine Both.of_false ?_ ?_; (focus (first | rfl | (simp <;> fail))); conv => whnf) | (refine Both.of_true ?_ ?_; (focus (first | rfl | (simp <;> fail))); conv => whnf)))
      exact ⟨_, _, WeakV.drop rfl, h⟩
    (conv => whnf)
    (repeat (first | (refine Need.mk hin ?_; conv => whnf) | (refine ⟨_, hat, ?_⟩; conv => whnf) | (exact Out.same; conv => whnf) | (exact Out1.same; conv => whnf) | (refine QAnd.mk ?_ ?_; conv => whnf) | (apply QStepH.go; conv => whnf) | (refine Both.lit_true ?_; conv => whnf) | (refine Both.lit_false ?_; conv => whnf) | (apply QStep.go; conv => whnf) | (refine Need.au ?_; conv => whnf) | (refine ⟨_, rfl, ?_⟩; conv => whnf)))
    refine Both.dec (fun c2 => ?_) (fun c2 => ?_)
    · rw [hbad (bad_2 (by omega))] at h
      (conv => whnf)
      (repeat (first | (exact Out.same; conv => whnf) | (exact Out1.same; conv => whnf) | (refine QAnd.mk ?_ ?_; conv => whnf) | (apply QStepH.go; conv => whnf) | (refine Both.lit_true ?_; conv => whnf) | (refine Both.lit_false ?_; conv => whnf) | (apply QStep.go; conv => whnf) | (refine Need.au ?_; conv => whnf) | (refine ⟨_, rfl, ?_⟩; conv => whnf) | (refine Both.of_false ?_ ?_; (focus (first | rfl | (simp <;> fail))); conv => whnf) | (refine Both.of_true ?_ ?_; (focus (first | rfl | (simp <;> fail))); conv => whnf)))
      exact ⟨_, _, WeakV.drop rfl, h⟩
    (conv => whnf)
    (repeat (first | (refine Need.mk hin ?_; conv => whnf) | (refine ⟨_, hat, ?_⟩; conv => whnf) | (exact Out.same; conv => whnf) | (exact Out1.same; conv => whnf) | (refine QAnd.mk ?_ ?_; conv => whnf) | (apply QStepH.go; conv => whnf) | (refine Both.lit_true ?_; conv => whnf) | (refine Both.lit_false ?_; conv => whnf) | (apply QStep.go; conv => whnf) | (refine Need.au ?_; conv => whnf) | (refine ⟨_, rfl, ?_⟩; conv => whnf)))
    refine Both.dec (fun c3 => ?_) (fun c3 => ?_)
    · rw [hbad (bad_3 (by omega))] at h
      (conv => whnf)
      (repeat (first | (exact Out.same; conv => whnf) | (exact Out1.same; conv => whnf) | (refine QAnd.mk ?_ ?_; conv => whnf) | (apply QStepH.go; conv => whnf) | (refine Both.lit_true ?_; conv => whnf) | (refine Both.lit_false ?_; conv => whnf) | (apply QStep.go; conv => whnf) | (refine Need.au ?_; conv => whnf) | (refine ⟨_, rfl, ?_⟩; conv => whnf) | (refine Both.of_false ?_ ?_; (focus (first | rfl | (simp <;> fail))); conv => whnf) | (refine Both.of_true ?_ ?_; (focus (first | rfl | (simp <;> fail))); conv => whnf)))
      exact ⟨_, _, WeakV.drop rfl, h⟩
    (conv => whnf)
    (repeat (first | (exact Out.same; conv => whnf) | (exact Out1.same; conv => whnf) | (refine QAnd.mk ?_ ?_; conv => whnf) | (apply QStepH.go; conv => whnf) | (refine Both.lit_true ?_; conv => whnf) | (refine Both.lit_false ?_; conv => whnf) | (apply QStep.go; conv => whnf) | (refine Need.au ?_; conv => whnf) | (refine ⟨_, rfl, ?_⟩; conv => whnf) | (refine Both.of_false ?_ ?_; (focus (first | rfl | (simp <;> fail))); conv => whnf) | (refine Both.of_true ?_ ?_; (focus (first | rfl | (simp <;> fail))); conv => whnf)))
    refine ⟨k + 1, ⟨hkl, hnext (bad_0 (by omega) (by omega) (by omega)) hall⟩, by omega, Weak.auto ?_⟩
    (repeat' ((conv => whnf); first | exact True.intro | (refine And.intro ?_ ?_)))
    all_goals first | rfl | exact .eq rfl | exact congrArg (SV.int .i64) hwr
  have hke : k = l.length := by omega
  subst hke
  clear hge
  (conv => whnf)
  (repeat (first | (exact Out.same; conv => whnf) | (exact Out1.same; conv => whnf) | (refine QAnd.mk ?_ ?_; conv => whnf) | (apply QStepH.go; conv => whnf) | (refine Both.lit_true ?_; conv => whnf) | (refine Both.lit_false ?_; conv => whnf) | (apply QStep.go; conv => whnf) | (refine Need.au ?_; conv => whnf) | (refine ⟨_, rfl, ?_⟩; conv => whnf) | (refine Both.of_false ?_ ?_; (focus (first | rfl | (simp <;> fail))); conv => whnf) | (refine Both.of_true ?_ ?_; (focus (first | rfl | (simp <;> fail))); conv => whnf)))
  refine loop_rule (fun k : Nat => ⟨[.sl 2 l.length (flP l) f, .any, .any, .any, .int .i64 ((k + 1 : Nat) : Int), .any, .any, .any, .any, .any, .any, .any, .any, .any, .any, .any, .any, .any, .any, .any, .any, .any, .any, .any, .any, .any, .any, .any, .any, .any, .any, .any, .any, .any, .any, .any, .any, .any, .any, .any, .any, .any, .any, .any, .any, .any, .any, .any, .any, .any, .any, .any, .any, .any, .any, .any, .any], []⟩) (fun k => k ≤ l.length ∧ ∀ j, j < k → j + 1 < l.length → lessS (kAt l j) (kAt l (j + 1)) = true) (fun k => l.length - k) 0 ⟨Nat.zero_le _, fun j hj => by omega⟩ (Weak.auto ?_) ?_
  · (repeat' ((conv => whnf); first | exact True.intro | (refine And.intro ?_ ?_)))
    all_goals first | rfl | exact .eq rfl
  rintro k ⟨hk2, hord⟩
  (refine sx_sound Γok _ ?_; conv => whnf)
  (repeat (first | (exact Out.same; conv => whnf) | (exact Out1.same; conv => whnf) | (refine QAnd.mk ?_ ?_; conv => whnf) | (apply QStepH.go; conv => whnf) | (refine Both.lit_true ?_; conv => whnf) | (refine Both.lit_false ?_; conv => whnf) | (apply QStep.go; conv => whnf) | (refine Need.au ?_; conv => whnf) | (refine ⟨_, rfl, ?_⟩; conv => whnf)))
  refine Both.dec (fun hlt => ?_) (fun hge => ?_)
  · have hkl : k + 1 < l.length := by omega
    have hat := flP_at l (k := k) (by omega)
    have hat1 := flP_at l hkl
    have hwr : IntKind.i64.wrap (((k + 1 : Nat) : Int) + 1) = ((k + 1 + 1 : Nat) : Int) := by rw [wrap_i64 (by omega) (by omega)]; rfl
    have hwm : IntKind.i64.wrap (((k + 1 : Nat) : Int) - 1) = ((k : Nat) : Int) := by rw [wrap_i64 (by omega) (by omega)]; omega
    have hin : ti33.size = 2 ∧ (0 : Int) ≤ ((k + 1 : Nat) : Int) ∧ ((k + 1 : Nat) : Int) < ((l.length : Nat) : Int) := ⟨rfl, by omega, by omega⟩
    have hin1 : ti33.size = 2 ∧ (0 : Int) ≤ IntKind.i64.wrap (((k + 1 : Nat) : Int) - 1) ∧ IntKind.i64.wrap (((k + 1 : Nat) : Int) - 1) < ((l.length : Nat) : Int) := ⟨rfl, by rw [hwm]; omega, by rw [hwm]; omega⟩
    have hat2 : ((flP l).drop ((IntKind.i64.wrap (((k + 1 : Nat) : Int) - 1)).toNat * 2)).take 2 = [.str (l.getD k ([], [])).1, .str (l.getD k ([], [])).2] := by rw [hwm]; exact hat
    have hbad : lessS (kAt l k) (kAt l (k + 1)) = false → chkV l = 15 := chk_ord hl4 hall hkl
    have hnext : lessS (kAt l k) (kAt l (k + 1)) = true → ∀ j, j < k + 1 → j + 1 < l.length → lessS (kAt l j) (kAt l (j + 1)) = true := fun h j hj hl => by
      rcases Nat.lt_or_ge j k with h9 | h9
      · exact hord j h9 hl
      · rw [show j = k by omega]; exact h
    have htri := less_tri (kAt l k) (kAt l (k + 1))
    unfold kAt at hbad hnext htri
    clear hat
    revert hat1 hat2 hbad htri hnext
    generalize l.getD k ([], []) = p
    generalize l.getD (k + 1) ([], []) = q
    intro hat1 hat2 hbad hnext htri
    (conv => whnf)
    (refine DrawVC.any Γok (by kernel_rfl) (by kernel_rfl) (by kernel_rfl) (by rfl) ?_; conv => whnf)
    (repeat (first | (refine Need.mk hin ?_; conv => whnf) | (refine Need.mk hin1 ?_; conv => whnf) | (refine ⟨_, hat1, ?_⟩; conv => whnf) | (refine ⟨_, hat2, ?_⟩; conv => whnf) | (exact Out.same; conv => whnf) | (exact Out1.same; conv => whnf) | (refine QAnd.mk ?_ ?_; conv => whnf) | (apply QStepH.go; conv => whnf) | (refine Both.lit_true ?_; conv => whnf) | (refine Both.lit_false ?_; conv => whnf) | (apply QStep.go; conv => whnf) | (refine Need.au ?_; conv => whnf) | (refine ⟨_, rfl, ?_⟩; conv => whnf)))
    refine Both.cases (fun c1 => ?_) (fun c1 => ?_)
    · rw [hbad (by rw [htri, c1]; rfl)] at h
      (conv => whnf)
      (repeat (first | (exact Out.same; conv => whnf) | (exact Out1.same; conv => whnf) | (refine QAnd.mk ?_ ?_; conv => whnf) | (apply QStepH.go; conv => whnf) | (refine Both.lit_true ?_; conv => whnf) | (refine Both.lit_false ?_; conv => whnf) | (apply QStep.go; conv => whnf) | (refine Need.au ?_; conv => whnf) | (refine ⟨_, rfl, ?_⟩; conv => whnf) | (refine Both.of_false ?_ ?_; (focus (first | rfl | (simp <;> fail))); conv => whnf) | (refine Both.of_true ?_ ?_; (focus (first | rfl | (simp <;> fail))); conv => whnf)))
      exact ⟨_, _, WeakV.drop rfl, h⟩
    · (conv => whnf)
      (repeat (first | (exact Out.same; conv => whnf) | (exact Out1.same; conv => whnf) | (refine QAnd.mk ?_ ?_; conv => whnf) | (apply QStepH.go; conv => whnf) | (refine Both.lit_true ?_; conv => whnf) | (refine Both.lit_false ?_; conv => whnf) | (apply QStep.go; conv => whnf) | (refine Need.au ?_; conv => whnf) | (refine ⟨_, rfl, ?_⟩; conv => whnf) | (refine Both.of_false ?_ ?_; (focus (first | rfl | (simp <;> fail))); conv => whnf) | (refine Both.of_true ?_ ?_; (focus (first | rfl | (simp <;> fail))); conv => whnf)))
      refine ⟨k + 1, ⟨by omega, hnext (by rw [htri, c1]; rfl)⟩, by omega, Weak.auto ?_⟩
      (repeat' ((conv => whnf); first | exact True.intro | (refine And.intro ?_ ?_)))
      all_goals first | rfl | exact .eq rfl | exact congrArg (SV.int .i64) hwr
  rw [chk_ok hl4 hall (fun j hj => hord j (by omega) hj)] at h
  (conv => whnf)
  (repeat (first | (exact Out.same; conv => whnf) | (exact Out1.same; conv => whnf) | (refine QAnd.mk ?_ ?_; conv => whnf) | (apply QStepH.go; conv => whnf) | (refine Both.lit_true ?_; conv => whnf) | (refine Both.lit_false ?_; conv => whnf) | (apply QStep.go; conv => whnf) | (refine Need.au ?_; conv => whnf) | (refine ⟨_, rfl, ?_⟩; conv => whnf) | (refine Both.of_false ?_ ?_; (focus (first | rfl | (simp <;> fail))); conv => whnf) | (refine Both.of_true ?_ ?_; (focus (first | rfl | (simp <;> fail))); conv => whnf)))
  exact ⟨_, _, WeakV.drop rfl, h⟩
theorem rchk_k : Contract Tryz.prog [] 23 rchkS := ⟨⟨⟨_, rfl, rfl, rfl⟩⟩, rchk_c⟩
end Go.LX
end
section
set_option maxRecDepth 100000
set_option maxHeartbeats 1000000
set_option autoImplicit false
set_option linter.unusedVariables false
set_option linter.unusedSimpArgs false
namespace Go.LX
open Go.Proofs

theorem Contract.post {P : Program} {G : Gl} {f : FuncId} {S S' : Spec} (hc : Contract P G f S) (h : ∀ args H Q, S' args H Q → S args H fun r H1 => ∃ r' H', WeakV G H.length r H1 r' H' ∧ Q r' H') : Contract P G f S' := by
  refine ⟨hc.ok, fun args H Q hs E w vs hv hr hg => ?_⟩
  refine (hc.meets args H _ (h args H Q hs) E w vs hv hr hg).mono ?_
  rintro e w' ⟨v, r, H1, E1, h1, ⟨r', H', hw, hq⟩, h3, h4, h5, h6⟩
  obtain ⟨E2, a1, a2, a3, a4, a5⟩ := hw E E1 w' v hr.len.symm h6 h3 h4 (hg.kept h5.Imono fun b hb => h5.keep b (hr.ltI b hb) fun q => hr.imm b q hb)
  exact ⟨v, r', H', E2, h1, hq, a2, a3, h5.trans a5, a1⟩
theorem WpX.postWeak {P : Program} {G : Gl} {N : Nat} {X : Cx} {c : Code} {s : LS} {K : Exit → LS → Prop} (h : WpX P G N X c s fun e s' => ∃ s2, Weak G N s' s2 ∧ K e s2) : WpX P G N X c s K := fun A E w a hA hs hJ =>
  wpIn_mono (h A E w a hA hs hJ) fun e a' w' ⟨a0, e0, s1, E1, ⟨s2, hw, hk⟩, h2, h3⟩ => by
    obtain ⟨E2, q1, q2⟩ := hw A E1 w' a0 hA h2
    exact ⟨a0, e0, s2, E2, hk, q1, h3.trans q2⟩
theorem DrawVC.postWeak {P : Program} {Γ : Ty} {G : Gl} {N id : Nat} {ops : Array Oper} {s : LS} {K : Exit → LS → Prop} (h : DrawVC P Γ G N id ops s fun e s' => ∃ s2, Weak G N s' s2 ∧ K e s2) : DrawVC P Γ G N id ops s K := ⟨fun X hX => WpX.postWeak (h.out X hX)⟩
end Go.LX
end
section
set_option maxRecDepth 100000
set_option maxHeartbeats 1000000
set_option autoImplicit false
set_option linter.unusedVariables false
set_option linter.unusedSimpArgs false
namespace Go.LX
open Go.Proofs

theorem less_cons (x y : UInt8) (a b : Bs) : lessS (x :: a) (y :: b) = true ↔ x < y ∨ x = y ∧ lessS a b = true := by
  unfold lessS
  rw [show Op.bytesLess (x :: a) (y :: b) = (decide (x < y) || (x == y && Op.bytesLess a b)) from rfl]
  simp only [Bool.or_eq_true, Bool.and_eq_true, decide_eq_true_eq, beq_iff_eq]
theorem less_nil (b : Bs) : lessS b [] = false := by cases b <;> rfl
theorem less_trans : ∀ a b c : Bs, lessS a b = true → lessS b c = true → lessS a c = true
  | a, b, [], _, h2 => by rw [less_nil] at h2; cases h2
  | a, [], c, h1, _ => by rw [less_nil] at h1; cases h1
  | [], b, z :: c, _, _ => rfl
  | x :: a, y :: b, z :: c, h1, h2 => by
    rw [less_cons] at h1 h2 ⊢
    rcases h1 with h1 | ⟨rfl, h1⟩
    · rcases h2 with h2 | ⟨rfl, h2⟩
      · exact .inl (UInt8.lt_trans h1 h2)
      · exact .inl h1
    · rcases h2 with h2 | ⟨rfl, h2⟩
      · exact .inl h2
      · exact .inr ⟨rfl, less_trans a b c h1 h2⟩
def sortB (l : List Pr) : Prop := ∀ j, j + 1 < l.length → lessS (kAt l j) (kAt l (j + 1)) = true
theorem sort_less {l : List Pr} (h : sortB l) : ∀ (d j : Nat), j + (d + 1) < l.length → lessS (kAt l j) (kAt l (j + (d + 1))) = true
  | 0, j, hj => h j hj
  | d + 1, j, hj => less_trans _ _ _ (sort_less h d j (by omega)) (h (j + (d + 1)) (by omega))
theorem sort_down {l : List Pr} (h : sortB l) {t : Bs} {j k : Nat} (hjk : j ≤ k) (hk : k < l.length) (ht : lessS (kAt l k) t = true) : lessS (kAt l j) t = true := by
  rcases Nat.lt_or_ge j k with q | q
  · have := sort_less h (k - j - 1) j (by omega)
    rw [show j + (k - j - 1 + 1) = k by omega] at this
    exact less_trans _ _ _ this ht
  · rw [show j = k by omega]
    exact ht
structure IsPlace (l : List Pr) (t : Bs) (n : Nat) : Prop where
  le : n ≤ l.length
  lo : ∀ j, j < n → lessS (kAt l j) t = true
  hi : ∀ j, n ≤ j → j < l.length → lessS (kAt l j) t = false
theorem IsPlace.eq {l : List Pr} {t : Bs} {n m : Nat} (h1 : IsPlace l t n) (h2 : IsPlace l t m) : n = m := by
  have l1 := h1.le
  have l2 := h2.le
  rcases Nat.lt_trichotomy n m with q | q | q
  · have e1 := h1.hi n (Nat.le_refl _) (by omega)
    rw [h2.lo n q] at e1
    cases e1
  · exact q
  · have e1 := h2.hi m (Nat.le_refl _) (by omega)
    rw [h1.lo m q] at e1
    cases e1
theorem ordB_sort : ∀ (l : List Pr), ordB l = true → sortB l
  | [], _, j, hj => by simp at hj
  | [_], _, j, hj => by simp at hj
  | a :: b :: r, h, j, hj => by
    rw [ordB, Bool.and_eq_true] at h
    match j with
    | 0 => exact h.1
    | j + 1 => exact ordB_sort (b :: r) h.2 j (by simpa using hj)
def nanS : Spec := fun args H Q => match args, H with
  | [.str s], [] => Q (.bool false) []
  | _, _ => False
theorem nan_c : Meets Tryz.prog [] 90 nanS := by
  refine meets_of Γok Tryz.func90 rfl ?_
  intro args H Q h
  unfold nanS at h
  split at h
  case h_2 => exact h.elim
  rename_i s
  have e : (!decide (s = s)) = false := by simp
  (refine sx_sound Γok _ ?_; conv => whnf)
  (repeat (first | (exact Out.same; conv => whnf) | (exact Out1.same; conv => whnf) | (refine QAnd.mk ?_ ?_; conv => whnf) | (apply QStepH.go; conv => whnf) | (refine Both.lit_true ?_; conv => whnf) | (refine Both.lit_false ?_; conv => whnf) | (apply QStep.go; conv => whnf) | (refine Need.au ?_; conv => whnf) | (refine ⟨_, rfl, ?_⟩; conv => whnf)))
  refine ⟨_, _, WeakV.drop rfl, ?_⟩
  exact (congrArg (fun b => Q (SV.bool b) []) e).mpr h
theorem nan_k : Contract Tryz.prog [] 90 nanS := ⟨⟨⟨_, rfl, rfl, rfl⟩⟩, nan_c⟩
def cmpV (a b : Bs) : Int := if lessS a b = true then -1 else if lessS b a = true then 1 else 0
def cmpS : Spec := fun args H Q => match args, H with
  | [.str a, .str b], [] => Q (.int .i64 (cmpV a b)) []
  | _, _ => False
theorem cmp_c : Meets Tryz.prog [] 63 cmpS := by
  refine meets_of Γok Tryz.func63 rfl ?_
  intro args H Q h
  unfold cmpS at h
  split at h
  case h_2 => exact h.elim
  rename_i a b
  unfold cmpV at h
  by_cases h1 : lessS a b = true
  · rw [if_pos h1] at h
    (refine sx_sound Γok _ ?_; conv => whnf)
    (repeat (first | (refine Both.of_true h1 ?_; conv => whnf) | (exact Out.same; conv => whnf) | (exact Out1.same; conv => whnf) | (refine QAnd.mk ?_ ?_; conv => whnf) | (apply QStepH.go; conv => whnf) | (refine Both.lit_true ?_; conv => whnf) | (refine Both.lit_false ?_; conv => whnf) | (apply QStep.go; conv => whnf) | (refine Need.au ?_; conv => whnf) | (refine ⟨_, rfl, ?_⟩; conv => whnf) | (refine CallVC.auto nan_k ?_; conv => whnf)))
    exact ⟨_, _, WeakV.drop rfl, h⟩
  · rw [if_neg h1] at h
    have h1 : lessS a b = false := by simpa using h1
    by_cases h2 : lessS b a = true
    · rw [if_pos h2] at h
      rw [less_tri b a] at h2
      (refine sx_sound Γok _ ?_; conv => whnf)
      (repeat (first | (refine Both.of_false h1 ?_; conv => whnf) | (refine Both.of_true h2 ?_; conv => whnf) | (exact Out.same; conv => whnf) | (exact Out1.same; conv => whnf) | (refine QAnd.mk ?_ ?_; conv => whnf) | (apply QStepH.go; conv => whnf) | (refine Both.lit_true ?_; conv => whnf) | (refine Both.lit_false ?_; conv => whnf) | (apply QStep.go; conv => whnf) | (refine Need.au ?_; conv => whnf) | (refine ⟨_, rfl, ?_⟩; conv => whnf) | (refine CallVC.auto nan_k ?_; conv => whnf)))
      exact ⟨_, _, WeakV.drop rfl, h⟩
    · rw [if_neg h2] at h
      have h2 : lessS b a = false := by simpa using h2
      rw [less_tri b a] at h2
      (refine sx_sound Γok _ ?_; conv => whnf)
      (repeat (first | (refine Both.of_false h1 ?_; conv => whnf) | (refine Both.of_false h2 ?_; conv => whnf) | (exact Out.same; conv => whnf) | (exact Out1.same; conv => whnf) | (refine QAnd.mk ?_ ?_; conv => whnf) | (apply QStepH.go; conv => whnf) | (refine Both.lit_true ?_; conv => whnf) | (refine Both.lit_false ?_; conv => whnf) | (apply QStep.go; conv => whnf) | (refine Need.au ?_; conv => whnf) | (refine ⟨_, rfl, ?_⟩; conv => whnf) | (refine CallVC.auto nan_k ?_; conv => whnf)))
      exact ⟨_, _, WeakV.drop rfl, h⟩
theorem cmp_k : Contract Tryz.prog [] 63 cmpS := ⟨⟨⟨_, rfl, rfl, rfl⟩⟩, cmp_c⟩
def find1S : Spec := fun args H Q => match args, H with
  | [.agg [.str k, .str v], .str t], [] => Q (.int .i64 (cmpV k t)) []
  | _, _ => False
theorem find1_c : Meets Tryz.prog [] 62 find1S := by
  refine meets_of Γok Tryz.func62 rfl ?_
  intro args H Q h
  unfold find1S at h
  split at h
  case h_2 => exact h.elim
  (refine sx_sound Γok _ ?_; conv => whnf)
  (repeat (first | (exact Out.same; conv => whnf) | (exact Out1.same; conv => whnf) | (refine QAnd.mk ?_ ?_; conv => whnf) | (apply QStepH.go; conv => whnf) | (refine Both.lit_true ?_; conv => whnf) | (refine Both.lit_false ?_; conv => whnf) | (apply QStep.go; conv => whnf) | (refine Need.au ?_; conv => whnf) | (refine ⟨_, rfl, ?_⟩; conv => whnf) | (refine CallVC.auto cmp_k ?_; conv => whnf)))
  exact ⟨_, _, WeakV.drop rfl, h⟩
theorem find1_k : Contract Tryz.prog [] 62 find1S := ⟨⟨⟨_, rfl, rfl, rfl⟩⟩, find1_c⟩
theorem cmp_lt (a b : Bs) : decide (cmpV a b < 0) = lessS a b := by
  unfold cmpV
  by_cases h1 : lessS a b = true
  · rw [if_pos h1, h1]
    rfl
  · rw [if_neg h1]
    have h1 : lessS a b = false := by simpa using h1
    rw [h1]
    by_cases h2 : lessS b a = true
    · rw [if_pos h2]
      rfl
    · rw [if_neg h2]
      rfl
theorem cmp_eq (a b : Bs) : decide (cmpV a b = 0) = decide (a = b) := by
  unfold cmpV
  have ht := less_tri0 a b
  by_cases h1 : lessS a b = true
  · rw [if_pos h1]
    rw [h1] at ht
    have : a ≠ b := fun e => by
      rw [decide_eq_true e, Bool.or_true] at ht
      cases ht
    rw [decide_eq_false this]
    rfl
  · rw [if_neg h1]
    have h1 : lessS a b = false := by simpa using h1
    rw [h1] at ht
    by_cases h2 : lessS b a = true
    · rw [if_pos h2]
      have : a ≠ b := fun e => by
        rw [e] at h2
        have h3 := less_tri0 b b
        rw [h2] at h3
        cases h3
      rw [decide_eq_false this]
      rfl
    · rw [if_neg h2]
      have h2 : lessS b a = false := by simpa using h2
      rw [h2, Bool.false_or] at ht
      have : a = b := by simpa using ht
      rw [decide_eq_true this]
      rfl
def bsfS : Spec := fun args H Q => match args, H with
  | [.sl 2 n cs f, .str t, .func (.func 62) []], [] => ∃ l : List Pr, n = l.length ∧ cs = flP l ∧ l.length ≤ 1000000 ∧ sortB l ∧ ∀ k, IsPlace l t k → Q (.tuple [.int .i64 (k : Int), .bool (decide (k < l.length ∧ kAt l k = t))]) []
  | _, _ => False
theorem bsf_c : Meets Tryz.prog [] 61 bsfS := by
  refine meets_of Γok Tryz.func61 rfl ?_
  intro args H Q h
  unfold bsfS at h
  split at h
  case h_2 => exact h.elim
  rename_i n cs f t
  obtain ⟨l, rfl, rfl, hl, hsort, h⟩ := h
  (refine sx_sound Γok _ ?_; conv => whnf)
  (repeat (first | (exact Out.same; conv => whnf) | (exact Out1.same; conv => whnf) | (refine QAnd.mk ?_ ?_; conv => whnf) | (apply QStepH.go; conv => whnf) | (refine Both.lit_true ?_; conv => whnf) | (refine Both.lit_false ?_; conv => whnf) | (apply QStep.go; conv => whnf) | (refine Need.au ?_; conv => whnf) | (refine ⟨_, rfl, ?_⟩; conv => whnf)))
  refine loop_rule (fun x : Nat × Nat => match x with | (i, j) => ⟨[.sl 2 l.length (flP l) f, .str t, .func (.func 62) [], .any, .any, .any, .any, .any, .int .i64 ((l.length : Nat) : Int), .int .i64 (i : Int), .int .i64 (j : Int), .any, .any, .any, .any, .any, .any, .any, .any, .any, .any, .any, .any, .any, .any, .any, .any, .any, .any, .any, .any, .any, .any, .any, .any, .any, .any, .any, .any, .any, .any, .any, .any, .any, .any, .any, .any, .any, .any], []⟩) (fun x => match x with | (i, j) => i ≤ j ∧ j ≤ l.length ∧ (∀ q, q < i → lessS (kAt l q) t = true) ∧ ∀ q, j ≤ q → q < l.length → lessS (kAt l q) t = false) (fun x => match x with | (i, j) => j - i) (0, l.length) ⟨Nat.zero_le _, Nat.le_refl _, fun q hq => absurd hq (by omega), fun q h1 h2 => absurd h2 (by omega)⟩ (Weak.auto ?_) ?_
  · (repeat' ((conv => whnf); first | exact True.intro | (refine And.intro ?_ ?_)))
    all_goals first | rfl | exact .eq rfl
  rintro ⟨i, j⟩ ⟨hij, hjl, hlo, hhi⟩
  (refine sx_sound Γok _ ?_; conv => whnf)
  (repeat (first | (exact Out.same; conv => whnf) | (exact Out1.same; conv => whnf) | (refine QAnd.mk ?_ ?_; conv => whnf) | (apply QStepH.go; conv => whnf) | (refine Both.lit_true ?_; conv => whnf) | (refine Both.lit_false ?_; conv => whnf) | (apply QStep.go; conv => whnf) | (refine Need.au ?_; conv => whnf) | (refine ⟨_, rfl, ?_⟩; conv => whnf)))
  refine Both.dec (fun hlt => ?_) (fun hge => ?_)
  · have hlt : i < j := by omega
    obtain ⟨m, hm⟩ : ∃ m, (i + j) / 2 = m := ⟨_, rfl⟩
    have hw1 : IntKind.i64.wrap ((i : Int) + (j : Int)) = ((i + j : Nat) : Int) := by rw [wrap_i64 (by omega) (by omega)]; rfl
    have hw2 : IntKind.u64.wrap ((i + j : Nat) : Int) = ((i + j : Nat) : Int) := wrap_u64 (by omega) (by omega)
    have hw3 : shrI .u64 ((i + j : Nat) : Int) 1 = (m : Int) := by
      unfold shrI
      rw [show min (1 : Int).toNat IntKind.u64.bits = 1 from rfl, show (2 : Int) ^ 1 = 2 from rfl, Int.fdiv_eq_ediv_of_nonneg _ (by omega)]
      omega
    have hw4 : IntKind.i64.wrap (m : Int) = (m : Int) := wrap_i64 (by omega) (by omega)
    have hmw : IntKind.i64.wrap (shrI .u64 (IntKind.u64.wrap (IntKind.i64.wrap ((i : Int) + (j : Int)))) 1) = (m : Int) := by rw [hw1, hw2, hw3, hw4]
    have hml : m < l.length := by omega
    have hat := flP_at l hml
    obtain ⟨R, hR⟩ : ∃ R, IntKind.i64.wrap (shrI .u64 (IntKind.u64.wrap (IntKind.i64.wrap ((i : Int) + (j : Int)))) 1) = R := ⟨_, rfl⟩
    have hRm : R = (m : Int) := hR.symm.trans hmw
    have hatR : ((flP l).drop ((IntKind.i64.wrap (shrI .u64 (IntKind.u64.wrap (IntKind.i64.wrap ((i : Int) + (j : Int)))) 1)).toNat * 2)).take 2 = _ := (congrArg (fun q : Int => ((flP l).drop (q.toNat * 2)).take 2) hmw).trans hat
    have hix : ti33.size = 2 ∧ (0 : Int) ≤ IntKind.i64.wrap (shrI .u64 (IntKind.u64.wrap (IntKind.i64.wrap ((i : Int) + (j : Int)))) 1) ∧ IntKind.i64.wrap (shrI .u64 (IntKind.u64.wrap (IntKind.i64.wrap ((i : Int) + (j : Int)))) 1) < ((l.length : Nat) : Int) := ⟨rfl, by rw [hmw]; omega, by rw [hmw]; omega⟩
    have hm1 : IntKind.i64.wrap (IntKind.i64.wrap (shrI .u64 (IntKind.u64.wrap (IntKind.i64.wrap ((i : Int) + (j : Int)))) 1) + 1) = ((m + 1 : Nat) : Int) := by rw [hmw, wrap_i64 (by omega) (by omega)]; rfl
    have hcl := cmp_lt (l.getD m ([], [])).1 t
    (conv => whnf)
    (repeat (first | (refine Need.mk hix ?_; conv => whnf) | (refine ⟨_, hatR, ?_⟩; conv => whnf) | (refine CallClo.auto find1_k ?_; conv => whnf) | (exact Out.same; conv => whnf) | (exact Out1.same; conv => whnf) | (refine QAnd.mk ?_ ?_; conv => whnf) | (apply QStepH.go; conv => whnf) | (refine Both.lit_true ?_; conv => whnf) | (refine Both.lit_false ?_; conv => whnf) | (apply QStep.go; conv => whnf) | (refine Need.au ?_; conv => whnf) | (refine ⟨_, rfl, ?_⟩; conv => whnf)))
    refine Both.dec (fun hc => ?_) (fun hc => ?_)
    · have hP : lessS (kAt l m) t = true := hcl.symm.trans (decide_eq_true hc)
      have hA : m + 1 ≤ j ∧ j ≤ l.length ∧ (∀ q, q < m + 1 → lessS (kAt l q) t = true) ∧ ∀ q, j ≤ q → q < l.length → lessS (kAt l q) t = false := ⟨by omega, hjl, fun q hq => sort_down hsort (by omega) hml hP, hhi⟩
      have hB : j - (m + 1) < j - i := by omega
      (conv => whnf)
      (repeat (first | (exact Out.same; conv => whnf) | (exact Out1.same; conv => whnf) | (refine QAnd.mk ?_ ?_; conv => whnf) | (apply QStepH.go; conv => whnf) | (refine Both.lit_true ?_; conv => whnf) | (refine Both.lit_false ?_; conv => whnf) | (apply QStep.go; conv => whnf) | (refine Need.au ?_; conv => whnf) | (refine ⟨_, rfl, ?_⟩; conv => whnf)))
      refine ⟨(m + 1, j), hA, hB, Weak.auto ?_⟩
      (repeat' ((conv => whnf); first | exact True.intro | (refine And.intro ?_ ?_)))
      all_goals first | rfl | exact .eq rfl | exact congrArg (SV.int .i64) hm1
    · have hP : lessS (kAt l m) t = false := hcl.symm.trans (decide_eq_false hc)
      have hA : i ≤ m ∧ m ≤ l.length ∧ (∀ q, q < i → lessS (kAt l q) t = true) ∧ ∀ q, m ≤ q → q < l.length → lessS (kAt l q) t = false := ⟨by omega, by omega, hlo, fun q h1 h2 => by
        cases hq : lessS (kAt l q) t with
        | false => rfl
        | true =>
          rw [sort_down hsort h1 h2 hq] at hP
          cases hP⟩
      have hB : m - i < j - i := by omega
      (conv => whnf)
      (repeat (first | (exact Out.same; conv => whnf) | (exact Out1.same; conv => whnf) | (refine QAnd.mk ?_ ?_; conv => whnf) | (apply QStepH.go; conv => whnf) | (refine Both.lit_true ?_; conv => whnf) | (refine Both.lit_false ?_; conv => whnf) | (apply QStep.go; conv => whnf) | (refine Need.au ?_; conv => whnf) | (refine ⟨_, rfl, ?_⟩; conv => whnf)))
      refine ⟨(i, m), hA, hB, Weak.auto ?_⟩
      (repeat' ((conv => whnf); first | exact True.intro | (refine And.intro ?_ ?_)))
      all_goals first | rfl | exact .eq rfl | exact congrArg (SV.int .i64) hmw
  · have hij2 : i = j := by omega
    subst hij2
    have hplace : IsPlace l t i := ⟨hjl, hlo, hhi⟩
    have h := h i hplace
    (conv => whnf)
    (repeat (first | (exact Out.same; conv => whnf) | (exact Out1.same; conv => whnf) | (refine QAnd.mk ?_ ?_; conv => whnf) | (apply QStepH.go; conv => whnf) | (refine Both.lit_true ?_; conv => whnf) | (refine Both.lit_false ?_; conv => whnf) | (apply QStep.go; conv => whnf) | (refine Need.au ?_; conv => whnf) | (refine ⟨_, rfl, ?_⟩; conv => whnf)))
    refine Both.dec (fun hil => ?_) (fun hil => ?_)
    · have hil : i < l.length := by omega
      have hat := flP_at l hil
      have hix : ti33.size = 2 ∧ (0 : Int) ≤ (i : Int) ∧ (i : Int) < ((l.length : Nat) : Int) := ⟨rfl, by omega, by omega⟩
      have hce := cmp_eq (l.getD i ([], [])).1 t
      have hfin : decide (cmpV (l.getD i ([], [])).1 t = 0) = decide (i < l.length ∧ kAt l i = t) := by
        rw [hce]
        exact decide_eq_decide.2 ⟨fun q => ⟨hil, q⟩, fun q => q.2⟩
      (conv => whnf)
      (repeat (first | (refine Need.mk hix ?_; conv => whnf) | (refine ⟨_, hat, ?_⟩; conv => whnf) | (refine CallClo.auto find1_k ?_; conv => whnf) | (exact Out.same; conv => whnf) | (exact Out1.same; conv => whnf) | (refine QAnd.mk ?_ ?_; conv => whnf) | (apply QStepH.go; conv => whnf) | (refine Both.lit_true ?_; conv => whnf) | (refine Both.lit_false ?_; conv => whnf) | (apply QStep.go; conv => whnf) | (refine Need.au ?_; conv => whnf) | (refine ⟨_, rfl, ?_⟩; conv => whnf)))
      refine ⟨_, _, WeakV.drop rfl, ?_⟩
      exact (congrArg (fun b => Q (SV.tuple [SV.int .i64 (i : Int), SV.bool b]) []) hfin).mpr h
    · have hfin : false = decide (i < l.length ∧ kAt l i = t) := (decide_eq_false (fun q => by omega)).symm
      (conv => whnf)
      (repeat (first | (exact Out.same; conv => whnf) | (exact Out1.same; conv => whnf) | (refine QAnd.mk ?_ ?_; conv => whnf) | (apply QStepH.go; conv => whnf) | (refine Both.lit_true ?_; conv => whnf) | (refine Both.lit_false ?_; conv => whnf) | (apply QStep.go; conv => whnf) | (refine Need.au ?_; conv => whnf) | (refine ⟨_, rfl, ?_⟩; conv => whnf)))
      refine ⟨_, _, WeakV.drop rfl, ?_⟩
      exact (congrArg (fun b => Q (SV.tuple [SV.int .i64 (i : Int), SV.bool b]) []) hfin).mpr h
theorem bsf_k : Contract Tryz.prog [] 61 bsfS := ⟨⟨⟨_, rfl, rfl, rfl⟩⟩, bsf_c⟩
def findS : Spec := fun args H Q => match args, H with
  | [.sl 2 n cs f, .str t], [] => ∃ l : List Pr, n = l.length ∧ cs = flP l ∧ l.length ≤ 1000000 ∧ sortB l ∧ ∀ k, IsPlace l t k → Q (.tuple [.int .i64 (k : Int), .bool (decide (k < l.length ∧ kAt l k = t))]) []
  | _, _ => False
theorem find_c : Meets Tryz.prog [] 28 findS := by
  refine meets_of Γok Tryz.func28 rfl ?_
  intro args H Q h
  unfold findS at h
  split at h
  case h_2 => exact h.elim
  rename_i n cs f t
  obtain ⟨l, rfl, rfl, hl, hsort, h⟩ := h
  (refine sx_sound Γok _ ?_; conv => whnf)
  (repeat (first | (exact Out.same; conv => whnf) | (exact Out1.same; conv => whnf) | (refine QAnd.mk ?_ ?_; conv => whnf) | (apply QStepH.go; conv => whnf) | (refine Both.lit_true ?_; conv => whnf) | (refine Both.lit_false ?_; conv => whnf) | (apply QStep.go; conv => whnf) | (refine Need.au ?_; conv => whnf) | (refine ⟨_, rfl, ?_⟩; conv => whnf)))
  refine CallVC.auto bsf_k ⟨l, rfl, rfl, hl, hsort, fun k hk => ?_⟩
  have h := h k hk
  (conv => whnf)
  (repeat (first | (exact Out.same; conv => whnf) | (exact Out1.same; conv => whnf) | (refine QAnd.mk ?_ ?_; conv => whnf) | (apply QStepH.go; conv => whnf) | (refine Both.lit_true ?_; conv => whnf) | (refine Both.lit_false ?_; conv => whnf) | (apply QStep.go; conv => whnf) | (refine Need.au ?_; conv => whnf) | (refine ⟨_, rfl, ?_⟩; conv => whnf)))
  exact ⟨_, _, WeakV.drop rfl, h⟩
theorem find_k : Contract Tryz.prog [] 28 findS := ⟨⟨⟨_, rfl, rfl, rfl⟩⟩, find_c⟩
end Go.LX
end
section
set_option maxRecDepth 100000
set_option maxHeartbeats 1000000
set_option autoImplicit false
set_option linter.unusedVariables false
set_option linter.unusedSimpArgs false
namespace Go.LX
open Go.Proofs Go.RowKit Go.ChangeShapes Go.WideShapes Go.ChangeAt
section
variable {H : Type} {enc : TypeId × Value → H} {W : World}
end
end Go.LX
end
section
set_option maxRecDepth 100000
set_option maxHeartbeats 1000000
set_option autoImplicit false
set_option linter.unusedVariables false
set_option linter.unusedSimpArgs false
namespace Go.LX
open Go.Proofs Go.RowKit Go.ChangeShapes Go.WideShapes Go.ChangeAt
section
variable {H : Type} {enc : TypeId × Value → H} {W : World}
theorem cells_str : Tryz.prog.cellsOf 9 = 1 := by kernel_rfl
theorem cells_pair : Tryz.prog.cellsOf 33 = 2 := by kernel_rfl
theorem len2 {α : Type} {l : List α} (h : l.length = 2) : ∃ a b, l = [a, b] := by
  match l, h with
  | [a, b], _ => exact ⟨a, b, rfl⟩
theorem crs2 {I : Nat → Prop} {a b : CV} {u v : Value} (h1 : CR I W a u) (h2 : CR I W b v) : CRs I W [a, b] [u, v] := ⟨rfl, fun j x y hx hy => by
  match j with
  | 0 => cases hx; cases hy; exact h1
  | 1 => cases hx; cases hy; exact h2
  | j + 2 => simp at hx⟩
theorem open_pair1 {n : Nat} {cs : List Value} {y : DataW H × List MemPlace} (h : DataW.trod enc Tryz.prog W 0 (fun _ => true) true n 33 cs = some y) (hw : InReach Tryz.prog 33 y.1) :
    ∃ p : Pr, CRs (E0 W).I W (enP p) cs ∧ p.1.length ≤ reachBytes ∧ p.2.length ≤ reachBytes := by
  obtain ⟨hl, hf⟩ := open_fields2 (t := 33) Tryz.underlying33 h hw
  rw [cells_pair] at hl
  obtain ⟨c0, c1, rfl⟩ := len2 hl
  obtain ⟨n0, y0, t0, q0⟩ := hf 0 _ rfl
  obtain ⟨n1, y1, t1, q1⟩ := hf 1 _ rfl
  replace t0 : DataW.trod enc Tryz.prog W 0 (fun _ => true) true n0 9 (List.take (Tryz.prog.cellsOf 9) (List.drop 0 [c0, c1])) = some y0 := t0
  replace t1 : DataW.trod enc Tryz.prog W 0 (fun _ => true) true n1 9 (List.take (Tryz.prog.cellsOf 9) (List.drop 1 [c0, c1])) = some y1 := t1
  rw [cells_str] at t0 t1
  obtain ⟨s0, rfl, w0⟩ := leaf_str Tryz.underlying9 t0 q0
  obtain ⟨s1, rfl, w1⟩ := leaf_str Tryz.underlying9 t1 q1
  exact ⟨(s0, s1), crs2 (.str _) (.str _), w0, w1⟩
theorem open_pairs {v : Value} {d : DataW H} {ps : List MemPlace} (hv : v.cells = #[v]) (h : DataW.Trod enc Tryz.prog W 0 (fun _ => true) true 29 v d ps) (hw : InReach Tryz.prog 29 d) :
    ∃ l : List Pr, VR (E0 W) W (.sl 2 l.length (l.flatMap enP) false) v ∧ (∀ p ∈ l, p.1.length ≤ reachBytes ∧ p.2.length ≤ reachBytes) ∧ l.length ≤ 9223372036854775807 :=
  open_rows (t := 29) (e := 33) (sz := 2) enP (fun p => p.1.length ≤ reachBytes ∧ p.2.length ≤ reachBytes) Tryz.underlying29 (by kernel_rfl) (by omega) (fun r => rfl) (fun n cs y hy hw => open_pair1 hy hw) hv h hw
structure LeafA where
  i : Int
  c : Int
  k : Bs
  v : Bs
  p : List Bs
structure LeafA.ok (a : LeafA) : Prop where
  i : -9223372036854775808 ≤ a.i ∧ a.i ≤ 9223372036854775807
  c : -9223372036854775808 ≤ a.c ∧ a.c ≤ 9223372036854775807
  p : a.p.length ≤ 9223372036854775807
end
end Go.LX
end
section
set_option maxRecDepth 100000
set_option maxHeartbeats 2000000
set_option autoImplicit false
set_option linter.unusedVariables false
set_option linter.unusedSimpArgs false
namespace Go.LX
open Go.Proofs

end Go.LX
end
section
set_option maxRecDepth 100000
set_option maxHeartbeats 2000000
set_option autoImplicit false
set_option linter.unusedVariables false
set_option linter.unusedSimpArgs false
namespace Go.LX
open Go.Proofs

end Go.LX
end
section
set_option maxRecDepth 100000
set_option maxHeartbeats 2000000
set_option autoImplicit false
set_option linter.unusedVariables false
set_option linter.unusedSimpArgs false
namespace Go.LX
open Go.Proofs

structure Lf where
  i : Int
  c : Int
  k : Bs
  v : Bs
  p : List Bs
def enL (x : Lf) : List CV := [.int .i64 x.i, .int .i64 x.c, .str x.k, .str x.v, .sl 1 x.p.length (strs x.p) false]
def flL (l : List Lf) : List CV := l.flatMap enL
def lfSV (x : Lf) : SV := .agg [.int .i64 x.i, .int .i64 x.c, .str x.k, .str x.v, .sl 1 x.p.length (strs x.p) false]
def prSV (a : Bool) (L : List Lf) : SV := .agg [.bool a, .sl 5 L.length (flL L) false]
theorem flL_app (l m : List Lf) : flL (l ++ m) = flL l ++ flL m := by rw [flL, List.flatMap_append]; rfl
theorem flL_one (x : Lf) : flL [x] = enL x := by rw [flL, List.flatMap_cons]; exact List.append_nil _
def madeL (l : List Pr) (k : Nat) : Lf := ⟨(k : Int), (l.length : Int), (l.getD k ([], [])).1, (l.getD k ([], [])).2, pathP l k⟩
def absV (l : List Pr) (t : Bs) (k : Nat) : Bool × List Lf × Int :=
  if t.length < 1 ∨ 16 < t.length then (false, [], 1) else if k < l.length ∧ kAt l k = t then (false, [], 4) else
    (true, (if 0 < k then [madeL l (k - 1)] else []) ++ (if k < l.length then [madeL l k] else []), 0)
theorem WeakV.val {G : Gl} {N : Nat} {r r' : SV} {H : List LObj} (h : ∀ E w v, VR E w r v → VR E w r' v) : WeakV G N r H r' H := fun A E w v hA hle hv hr hg => ⟨E, hle, h E w v hv, hr, hg, Step.refl E H w⟩
theorem vr_nil2 {E : Env} {w : World} {a : Bool} {x : SV} {v : Value} (sz : Nat) (h : VR E w (.tuple [.agg [.bool a, .nilsl], x]) v) : VR E w (.tuple [.agg [.bool a, .sl sz 0 [] false], x]) v := by
  cases h with
  | tuple vs hl h =>
    refine .tuple vs hl (fun j y v hx hv => ?_)
    match j with
    | 0 =>
      cases hx
      have h0 := h 0 _ v rfl hv
      cases h0 with
      | agg ws hw g =>
        refine .agg ws hw (fun i y u hy hu => ?_)
        match i with
        | 0 => cases hy; exact g 0 _ u rfl hu
        | 1 => cases hy; exact (g 1 _ u rfl hu).nilSl sz false
        | i + 2 => simp at hy
    | 1 => cases hx; exact h 1 _ v rfl hv
    | j + 2 => simp at hx
def mpathPS : Spec := fun args H Q => match args, H with
  | [.sl 2 n cs f, .int .i64 x], [] => ∃ l : List Pr, n = l.length ∧ cs = flP l ∧ l.length < 60000 ∧ (∀ p ∈ l, okP p) ∧ Q (.sl 1 (pathO l x).length (strs (pathO l x)) false) []
  | _, _ => False
theorem mpathP_k {y0 : CV} {cs0 : List CV} (hK : KAt y0 cs0) : Contract Tryz.prog [(0, y0 :: cs0)] 64 mpathPS := (mpath_k hK).post fun args H Q h => by
  unfold mpathPS at h
  split at h
  case h_2 => exact h.elim
  rename_i n cs f x
  obtain ⟨l, rfl, rfl, h60, hok, h⟩ := h
  exact ⟨l, rfl, rfl, h60, hok, _, _, (WeakV.of (Weak.pubT (e := 9) (sz := 1) (n := (pathO l x).length) (xs := strs (pathO l x)) (wr := true) 0 rfl)).trans (WeakV.drop rfl), h⟩
def kInts (at' : List Nat) : List CV := at'.map fun (k : Nat) => CV.int .i64 (k : Int)
def leavesS : Spec := fun args H Q => match args, H with
  | [.sl 2 n cs f, .sl 1 m ks f'], [] => ∃ (l : List Pr) (at' : List Nat), n = l.length ∧ cs = flP l ∧ l.length < 60000 ∧ (∀ p ∈ l, okP p) ∧ ks = kInts at' ∧ m = at'.length ∧ at'.length ≤ 1000 ∧ (∀ k ∈ at', k < l.length) ∧
      Q (.sl 5 (at'.map (madeL l)).length (flL (at'.map (madeL l))) false) []
  | _, _ => False
theorem leaves_c {y0 : CV} {cs0 : List CV} (hK : KAt y0 cs0) : Meets Tryz.prog [(0, y0 :: cs0)] 29 leavesS := by
  refine meets_of Γok Tryz.func29 rfl ?_
  intro args H Q h
  unfold leavesS at h
  split at h
  case h_2 => exact h.elim
  rename_i n cs f m ks f'
  obtain ⟨l, at', rfl, rfl, h60, hok, rfl, rfl, ha, hall, h⟩ := h
  (refine sx_sound Γok _ ?_; conv => whnf)
  (repeat (first | (exact Out.same; conv => whnf) | (exact Out1.same; conv => whnf) | (refine QAnd.mk ?_ ?_; conv => whnf) | (apply QStepH.go; conv => whnf) | (refine Both.lit_true ?_; conv => whnf) | (refine Both.lit_false ?_; conv => whnf) | (apply QStep.go; conv => whnf) | (refine Need.au ?_; conv => whnf) | (refine ⟨_, rfl, ?_⟩; conv => whnf)))
  refine loop_rule (fun k : Nat => ⟨[.sl 2 l.length (flP l) f, .any, .any, .any, .any, .own 0, .any, .any, .sl 1 at'.length (kInts at') f', .int .i64 ((at'.length : Nat) : Int), .int .i64 (k : Int), .any, .any, .any, .any, .any, .any, .any, .any, .any, .any, .any, .any, .any, .any, .any, .any, .any, .any, .any], [.own 50 5 ((at'.take k).map (madeL l)).length (flL ((at'.take k).map (madeL l))) true]⟩) (fun k => k ≤ at'.length) (fun k => at'.length - k) 0 (Nat.zero_le _) ((Weak.ownNilT 5 50 5 rfl).trans (Weak.auto ?_)) ?_
  · (repeat' ((conv => whnf); first | exact True.intro | (refine And.intro ?_ ?_)))
    all_goals first | rfl | exact .eq rfl
  intro k hk
  have htl : ((at'.take k).map (madeL l)).length = k := by rw [List.length_map, List.length_take]; omega
  (refine sx_sound Γok _ ?_; conv => whnf)
  (repeat (first | (exact Out.same; conv => whnf) | (exact Out1.same; conv => whnf) | (refine QAnd.mk ?_ ?_; conv => whnf) | (apply QStepH.go; conv => whnf) | (refine Both.lit_true ?_; conv => whnf) | (refine Both.lit_false ?_; conv => whnf) | (apply QStep.go; conv => whnf) | (refine Need.au ?_; conv => whnf) | (refine ⟨_, rfl, ?_⟩; conv => whnf)))
  refine Both.dec (fun hlt => ?_) (fun hge => ?_)
  · have hkl : k < at'.length := by omega
    obtain ⟨x, hx⟩ : ∃ x, at'.getD k 0 = x := ⟨_, rfl⟩
    have hxg : at'[k] = x := by rw [← hx, List.getD_eq_getElem?_getD, List.getElem?_eq_getElem hkl]; rfl
    have hxl : x < l.length := hall x (by rw [← hxg]; exact List.getElem_mem hkl)
    have hat : (kInts at')[((k : Nat) : Int).toNat]? = some (CV.int .i64 (x : Int)) := by
      unfold kInts
      rw [Int.toNat_natCast, List.getElem?_map, List.getElem?_eq_getElem hkl, hxg]
      rfl
    have hat2 := flP_at l hxl
    have hix : ti33.size = 2 ∧ (0 : Int) ≤ (x : Int) ∧ (x : Int) < ((l.length : Nat) : Int) := ⟨rfl, by omega, by omega⟩
    have hk1 : IntKind.i64.wrap ((k : Int) + 1) = ((k + 1 : Nat) : Int) := by rw [wrap_i64 (by omega) (by omega)]; rfl
    have hpo : pathO l (x : Int) = pathP l x := by
      unfold pathO
      rw [if_neg (by omega), Int.toNat_natCast]
    have hcap : (((at'.take k).map (madeL l)).length + 1) * ti50.bytes ≤ 140737488355328 := by
      rw [htl]
      show (k + 1) * 72 ≤ _
      omega
    have hnext : (at'.take (k + 1)).map (madeL l) = (at'.take k).map (madeL l) ++ [madeL l x] := by rw [List.take_succ_eq_append_getElem hkl, List.map_append, hxg]; rfl
    have end1 : LObj.own 50 5 (((at'.take k).map (madeL l)).length + 1) (flL ((at'.take k).map (madeL l)) ++ [.int .i64 (x : Int), .int .i64 ((l.length : Nat) : Int), .str (l.getD x ([], [])).1, .str (l.getD x ([], [])).2, .sl 1 (pathO l (x : Int)).length (strs (pathO l (x : Int))) false]) true = LObj.own 50 5 ((at'.take (k + 1)).map (madeL l)).length (flL ((at'.take (k + 1)).map (madeL l))) true := by
      rw [hpo, hnext, flL_app, flL_one, List.length_append]
      rfl
    (conv => whnf)
    (repeat (first | (refine ⟨_, hat, ?_⟩; conv => whnf) | (exact Out.same; conv => whnf) | (exact Out1.same; conv => whnf) | (refine QAnd.mk ?_ ?_; conv => whnf) | (apply QStepH.go; conv => whnf) | (refine Both.lit_true ?_; conv => whnf) | (refine Both.lit_false ?_; conv => whnf) | (apply QStep.go; conv => whnf) | (refine Need.au ?_; conv => whnf) | (refine ⟨_, rfl, ?_⟩; conv => whnf)))
    (refine DrawVC.any Γok (by kernel_rfl) (by kernel_rfl) (by kernel_rfl) (by rfl) ?_; conv => whnf)
    (repeat (first | (refine Need.mk hix ?_; conv => whnf) | (refine ⟨_, hat2, ?_⟩; conv => whnf) | (refine CallVC.auto (mpathP_k hK) ⟨l, rfl, rfl, h60, hok, ?_⟩; conv => whnf) | (refine Need.mk hcap ?_; conv => whnf) | (exact Out.same; conv => whnf) | (exact Out1.same; conv => whnf) | (refine QAnd.mk ?_ ?_; conv => whnf) | (apply QStepH.go; conv => whnf) | (refine Both.lit_true ?_; conv => whnf) | (refine Both.lit_false ?_; conv => whnf) | (apply QStep.go; conv => whnf) | (refine Need.au ?_; conv => whnf) | (refine ⟨_, rfl, ?_⟩; conv => whnf)))
    refine ⟨k + 1, by omega, by omega, Weak.auto ?_⟩
    (repeat' ((conv => whnf); first | exact True.intro | (refine And.intro ?_ ?_)))
    all_goals first | rfl | exact .eq rfl | exact congrArg (SV.int .i64) hk1 | exact end1
  · have hke : k = at'.length := by omega
    have hfin : at'.take k = at' := List.take_of_length_le (by omega)
    rw [← hfin] at h
    (conv => whnf)
    (repeat (first | (exact Out.same; conv => whnf) | (exact Out1.same; conv => whnf) | (refine QAnd.mk ?_ ?_; conv => whnf) | (apply QStepH.go; conv => whnf) | (refine Both.lit_true ?_; conv => whnf) | (refine Both.lit_false ?_; conv => whnf) | (apply QStep.go; conv => whnf) | (refine Need.au ?_; conv => whnf) | (refine ⟨_, rfl, ?_⟩; conv => whnf)))
    refine ⟨_, _, WeakV.of ((Weak.pubT (e := 50) (sz := 5) (n := ((at'.take k).map (madeL l)).length) (xs := flL ((at'.take k).map (madeL l))) (wr := true) 0 rfl).trans (Weak.auto ?_)), h⟩
    (repeat' ((conv => whnf); first | exact True.intro | (refine And.intro ?_ ?_)))
    all_goals first | rfl | exact .eq rfl
theorem leaves_k {y0 : CV} {cs0 : List CV} (hK : KAt y0 cs0) : Contract Tryz.prog [(0, y0 :: cs0)] 29 leavesS := ⟨⟨⟨_, rfl, rfl, rfl⟩⟩, leaves_c hK⟩
end Go.LX
end
section
set_option maxRecDepth 100000
set_option maxHeartbeats 2000000
set_option autoImplicit false
set_option linter.unusedVariables false
set_option linter.unusedSimpArgs false
namespace Go.LX
open Go.Proofs

theorem place_ex {l : List Pr} (hs : sortB l) (t : Bs) : ∃ k, IsPlace l t k := by
  have key : ∀ n, n ≤ l.length → ∃ c, c ≤ n ∧ (∀ q, q < c → lessS (kAt l q) t = true) ∧ (c < n → lessS (kAt l c) t = false) := by
    intro n
    induction n with
    | zero => exact fun _ => ⟨0, Nat.le_refl _, fun q h => absurd h (by omega), fun h => absurd h (by omega)⟩
    | succ n ih =>
      intro hn
      obtain ⟨c, h1, h2, h3⟩ := ih (by omega)
      rcases Nat.lt_or_ge c n with q | q
      · exact ⟨c, by omega, h2, fun _ => h3 q⟩
      · cases hP : lessS (kAt l n) t with
        | true => exact ⟨n + 1, Nat.le_refl _, fun j hj => sort_down hs (by omega) (by omega) hP, fun u => absurd u (by omega)⟩
        | false => exact ⟨c, by omega, h2, fun _ => by rw [show c = n by omega]; exact hP⟩
  obtain ⟨c, h1, h2, h3⟩ := key l.length (Nat.le_refl _)
  exact ⟨c, h1, h2, fun j q1 q2 => by
    cases hq : lessS (kAt l j) t with
    | false => rfl
    | true =>
      have := h3 (by omega)
      rw [sort_down hs q1 q2 hq] at this
      cases this⟩
def absS : Spec := fun args H Q => match args, H with
  | [.sl 2 n cs f, .str t], [] => ∃ l : List Pr, n = l.length ∧ cs = flP l ∧ l.length < 60000 ∧ (∀ p ∈ l, okP p) ∧ sortB l ∧ ∀ k a L e, IsPlace l t k → (a, L, e) = absV l t k → Q (.tuple [prSV a L, .int .i64 e]) []
  | _, _ => False
theorem abs_bad {l : List Pr} {t : Bs} {k : Nat} (h : t.length < 1 ∨ 16 < t.length) : absV l t k = (false, [], 1) := if_pos h
theorem abs_found {l : List Pr} {t : Bs} {k : Nat} (h : ¬ (t.length < 1 ∨ 16 < t.length)) (h2 : k < l.length ∧ kAt l k = t) : absV l t k = (false, [], 4) := by unfold absV; rw [if_neg h, if_pos h2]
theorem abs_yes {l : List Pr} {t : Bs} {k : Nat} (h : ¬ (t.length < 1 ∨ 16 < t.length)) (h2 : ¬ (k < l.length ∧ kAt l k = t)) : absV l t k = (true, (if 0 < k then [madeL l (k - 1)] else []) ++ (if k < l.length then [madeL l k] else []), 0) := by unfold absV; rw [if_neg h, if_neg h2]
theorem mabs_c {y0 : CV} {cs0 : List CV} (hK : KAt y0 cs0) : Meets Tryz.prog [(0, y0 :: cs0)] 17 absS := by
  refine meets_of Γok Tryz.func17 rfl ?_
  intro args H Q h
  unfold absS at h
  split at h
  case h_2 => exact h.elim
  rename_i n cs f t
  obtain ⟨l, rfl, rfl, h60, hok, hsort, h⟩ := h
  obtain ⟨k0, hk0⟩ := place_ex hsort t
  (refine sx_sound Γok _ ?_; conv => whnf)
  (repeat (first | (exact Out.same; conv => whnf) | (exact Out1.same; conv => whnf) | (refine QAnd.mk ?_ ?_; conv => whnf) | (apply QStepH.go; conv => whnf) | (refine Both.lit_true ?_; conv => whnf) | (refine Both.lit_false ?_; conv => whnf) | (apply QStep.go; conv => whnf) | (refine Need.au ?_; conv => whnf) | (refine ⟨_, rfl, ?_⟩; conv => whnf)))
  refine Both.dec (fun h1 => ?_) (fun h1 => ?_)
  · have h := h k0 _ _ _ hk0 (abs_bad (.inl (by omega))).symm
    (conv => whnf)
    (repeat (first | (exact Out.same; conv => whnf) | (exact Out1.same; conv => whnf) | (refine QAnd.mk ?_ ?_; conv => whnf) | (apply QStepH.go; conv => whnf) | (refine Both.lit_true ?_; conv => whnf) | (refine Both.lit_false ?_; conv => whnf) | (apply QStep.go; conv => whnf) | (refine Need.au ?_; conv => whnf) | (refine ⟨_, rfl, ?_⟩; conv => whnf)))
    exact ⟨_, _, (WeakV.drop rfl).trans (WeakV.val fun E w v => vr_nil2 5), h⟩
  (conv => whnf)
  (repeat (first | (exact Out.same; conv => whnf) | (exact Out1.same; conv => whnf) | (refine QAnd.mk ?_ ?_; conv => whnf) | (apply QStepH.go; conv => whnf) | (refine Both.lit_true ?_; conv => whnf) | (refine Both.lit_false ?_; conv => whnf) | (apply QStep.go; conv => whnf) | (refine Need.au ?_; conv => whnf) | (refine ⟨_, rfl, ?_⟩; conv => whnf)))
  refine Both.dec (fun h2 => ?_) (fun h2 => ?_)
  · have h := h k0 _ _ _ hk0 (abs_bad (.inr (by omega))).symm
    (conv => whnf)
    (repeat (first | (exact Out.same; conv => whnf) | (exact Out1.same; conv => whnf) | (refine QAnd.mk ?_ ?_; conv => whnf) | (apply QStepH.go; conv => whnf) | (refine Both.lit_true ?_; conv => whnf) | (refine Both.lit_false ?_; conv => whnf) | (apply QStep.go; conv => whnf) | (refine Need.au ?_; conv => whnf) | (refine ⟨_, rfl, ?_⟩; conv => whnf)))
    exact ⟨_, _, (WeakV.drop rfl).trans (WeakV.val fun E w v => vr_nil2 5), h⟩
  have hnb : ¬ (t.length < 1 ∨ 16 < t.length) := by omega
  (conv => whnf)
  (repeat (first | (exact Out.same; conv => whnf) | (exact Out1.same; conv => whnf) | (refine QAnd.mk ?_ ?_; conv => whnf) | (apply QStepH.go; conv => whnf) | (refine Both.lit_true ?_; conv => whnf) | (refine Both.lit_false ?_; conv => whnf) | (apply QStep.go; conv => whnf) | (refine Need.au ?_; conv => whnf) | (refine ⟨_, rfl, ?_⟩; conv => whnf)))
  refine CallVC.auto find_k.gl ⟨l, rfl, rfl, by omega, hsort, fun k hk => ?_⟩
  have hkl := hk.le
  by_cases hc : k < l.length ∧ kAt l k = t
  · have h := h k _ _ _ hk (abs_found hnb hc).symm
    have c1 : decide (k < l.length ∧ kAt l k = t) = true := decide_eq_true hc
    (conv => whnf)
    (repeat (first | (refine Both.of_true c1 ?_; conv => whnf) | (exact Out.same; conv => whnf) | (exact Out1.same; conv => whnf) | (refine QAnd.mk ?_ ?_; conv => whnf) | (apply QStepH.go; conv => whnf) | (refine Both.lit_true ?_; conv => whnf) | (refine Both.lit_false ?_; conv => whnf) | (apply QStep.go; conv => whnf) | (refine Need.au ?_; conv => whnf) | (refine ⟨_, rfl, ?_⟩; conv => whnf)))
    exact ⟨_, _, (WeakV.drop rfl).trans (WeakV.val fun E w v => vr_nil2 5), h⟩
  have h := h k _ _ _ hk (abs_yes hnb hc).symm
  have c1 : decide (k < l.length ∧ kAt l k = t) = false := decide_eq_false hc
  have hw : IntKind.i64.wrap ((k : Int) - 1) = (k : Int) - 1 := wrap_i64 (by omega) (by omega)
  (conv => whnf)
  (repeat (first | (refine Both.of_false c1 ?_; conv => whnf) | (exact Out.same; conv => whnf) | (exact Out1.same; conv => whnf) | (refine QAnd.mk ?_ ?_; conv => whnf) | (apply QStepH.go; conv => whnf) | (refine Both.lit_true ?_; conv => whnf) | (refine Both.lit_false ?_; conv => whnf) | (apply QStep.go; conv => whnf) | (refine Need.au ?_; conv => whnf) | (refine ⟨_, rfl, ?_⟩; conv => whnf)))
  refine Both.dec (fun h3 => ?_) (fun h3 => ?_)
  · rw [if_neg (by omega), if_neg (by omega)] at h
    (conv => whnf)
    (repeat (first | (exact Out.same; conv => whnf) | (exact Out1.same; conv => whnf) | (refine QAnd.mk ?_ ?_; conv => whnf) | (apply QStepH.go; conv => whnf) | (refine Both.lit_true ?_; conv => whnf) | (refine Both.lit_false ?_; conv => whnf) | (apply QStep.go; conv => whnf) | (refine Need.au ?_; conv => whnf) | (refine ⟨_, rfl, ?_⟩; conv => whnf)))
    exact ⟨_, _, (WeakV.drop rfl).trans (WeakV.val fun E w v => vr_nil2 5), h⟩
  (conv => whnf)
  (repeat (first | (exact Out.same; conv => whnf) | (exact Out1.same; conv => whnf) | (refine QAnd.mk ?_ ?_; conv => whnf) | (apply QStepH.go; conv => whnf) | (refine Both.lit_true ?_; conv => whnf) | (refine Both.lit_false ?_; conv => whnf) | (apply QStep.go; conv => whnf) | (refine Need.au ?_; conv => whnf) | (refine ⟨_, rfl, ?_⟩; conv => whnf)))
  refine Both.dec (fun h4 => ?_) (fun h4 => ?_)
  · obtain rfl : k = 0 := by omega
    rw [if_neg (by omega), if_pos (by omega)] at h
    (conv => whnf)
    (repeat (first | (exact Out.same; conv => whnf) | (exact Out1.same; conv => whnf) | (refine QAnd.mk ?_ ?_; conv => whnf) | (apply QStepH.go; conv => whnf) | (refine Both.lit_true ?_; conv => whnf) | (refine Both.lit_false ?_; conv => whnf) | (apply QStep.go; conv => whnf) | (refine Need.au ?_; conv => whnf) | (refine ⟨_, rfl, ?_⟩; conv => whnf)))
    refine CallVC.auto (leaves_k hK) ⟨l, [0], rfl, rfl, h60, hok, rfl, rfl, Nat.le_of_ble_eq_true rfl, fun x hx => by rw [List.mem_singleton.1 hx]; omega, ?_⟩
    (conv => whnf)
    (repeat (first | (exact Out.same; conv => whnf) | (exact Out1.same; conv => whnf) | (refine QAnd.mk ?_ ?_; conv => whnf) | (apply QStepH.go; conv => whnf) | (refine Both.lit_true ?_; conv => whnf) | (refine Both.lit_false ?_; conv => whnf) | (apply QStep.go; conv => whnf) | (refine Need.au ?_; conv => whnf) | (refine ⟨_, rfl, ?_⟩; conv => whnf)))
    exact ⟨_, _, WeakV.drop rfl, h⟩
  (conv => whnf)
  (repeat (first | (exact Out.same; conv => whnf) | (exact Out1.same; conv => whnf) | (refine QAnd.mk ?_ ?_; conv => whnf) | (apply QStepH.go; conv => whnf) | (refine Both.lit_true ?_; conv => whnf) | (refine Both.lit_false ?_; conv => whnf) | (apply QStep.go; conv => whnf) | (refine Need.au ?_; conv => whnf) | (refine ⟨_, rfl, ?_⟩; conv => whnf)))
  refine Both.dec (fun h5 => ?_) (fun h5 => ?_)
  · rw [if_pos (by omega), if_neg (by omega)] at h
    have hks : [CV.int .i64 (IntKind.i64.wrap ((k : Int) - 1))] = kInts [k - 1] := by
      rw [hw, show (k : Int) - 1 = ((k - 1 : Nat) : Int) by omega]
      rfl
    (conv => whnf)
    (repeat (first | (exact Out.same; conv => whnf) | (exact Out1.same; conv => whnf) | (refine QAnd.mk ?_ ?_; conv => whnf) | (apply QStepH.go; conv => whnf) | (refine Both.lit_true ?_; conv => whnf) | (refine Both.lit_false ?_; conv => whnf) | (apply QStep.go; conv => whnf) | (refine Need.au ?_; conv => whnf) | (refine ⟨_, rfl, ?_⟩; conv => whnf)))
    refine CallVC.auto (leaves_k hK) ⟨l, [k - 1], rfl, rfl, h60, hok, hks, rfl, Nat.le_of_ble_eq_true rfl, fun x hx => by rw [List.mem_singleton.1 hx]; omega, ?_⟩
    (conv => whnf)
    (repeat (first | (exact Out.same; conv => whnf) | (exact Out1.same; conv => whnf) | (refine QAnd.mk ?_ ?_; conv => whnf) | (apply QStepH.go; conv => whnf) | (refine Both.lit_true ?_; conv => whnf) | (refine Both.lit_false ?_; conv => whnf) | (apply QStep.go; conv => whnf) | (refine Need.au ?_; conv => whnf) | (refine ⟨_, rfl, ?_⟩; conv => whnf)))
    exact ⟨_, _, WeakV.drop rfl, h⟩
  · rw [if_pos (by omega), if_pos (by omega)] at h
    have hks : [CV.int .i64 (IntKind.i64.wrap ((k : Int) - 1)), CV.int .i64 (k : Int)] = kInts [k - 1, k] := by
      rw [hw, show (k : Int) - 1 = ((k - 1 : Nat) : Int) by omega]
      rfl
    (conv => whnf)
    (repeat (first | (exact Out.same; conv => whnf) | (exact Out1.same; conv => whnf) | (refine QAnd.mk ?_ ?_; conv => whnf) | (apply QStepH.go; conv => whnf) | (refine Both.lit_true ?_; conv => whnf) | (refine Both.lit_false ?_; conv => whnf) | (apply QStep.go; conv => whnf) | (refine Need.au ?_; conv => whnf) | (refine ⟨_, rfl, ?_⟩; conv => whnf)))
    refine CallVC.auto (leaves_k hK) ⟨l, [k - 1, k], rfl, rfl, h60, hok, hks, rfl, Nat.le_of_ble_eq_true rfl, fun x hx => ?_, ?_⟩
    · rcases List.mem_cons.1 hx with rfl | hx
      · omega
      · rw [List.mem_singleton.1 hx]
        omega
    (conv => whnf)
    (repeat (first | (exact Out.same; conv => whnf) | (exact Out1.same; conv => whnf) | (refine QAnd.mk ?_ ?_; conv => whnf) | (apply QStepH.go; conv => whnf) | (refine Both.lit_true ?_; conv => whnf) | (refine Both.lit_false ?_; conv => whnf) | (apply QStep.go; conv => whnf) | (refine Need.au ?_; conv => whnf) | (refine ⟨_, rfl, ?_⟩; conv => whnf)))
    exact ⟨_, _, WeakV.drop rfl, h⟩
theorem mabs_k {y0 : CV} {cs0 : List CV} (hK : KAt y0 cs0) : Contract Tryz.prog [(0, y0 :: cs0)] 17 absS := ⟨⟨⟨_, rfl, rfl, rfl⟩⟩, mabs_c hK⟩
end Go.LX
end
section
set_option maxRecDepth 100000
set_option maxHeartbeats 2000000
set_option autoImplicit false
set_option linter.unusedVariables false
set_option linter.unusedSimpArgs false
namespace Go.LX
open Go.Proofs

theorem far2 {a f : Bool} {s n : Nat} {cs : List CV} : ∀ y ∈ [SV.bool a, SV.sl s n cs f], isFar y := by
  intro y hy
  rcases List.mem_cons.1 hy with rfl | hy
  · trivial
  · rw [List.mem_singleton.1 hy]
    trivial
end Go.LX
end
section
set_option maxRecDepth 100000
set_option maxHeartbeats 2000000
set_option autoImplicit false
set_option linter.unusedVariables false
set_option linter.unusedSimpArgs false
namespace Go.LX
open Go.Proofs

theorem chk_short {l : List Pr} (h : chkV l = 0) : l.length ≤ 4096 ∧ ∀ p ∈ l, p.1.length ≤ 16 ∧ p.2.length ≤ 64 := by
  unfold chkV at h
  split at h
  · cases h
  · rename_i h1
    split at h
    · cases h
    · rename_i h2
      refine ⟨by omega, fun p hp => ?_⟩
      have h3 : l.any badB = false := by
        cases hb : l.any badB with
        | false => rfl
        | true => exact absurd hb h2
      have h4 := List.any_eq_false.1 h3 p hp
      constructor
      · rcases Nat.lt_or_ge 16 p.1.length with h9 | h9
        · exact absurd (bad_2 h9) h4
        · exact h9
      · rcases Nat.lt_or_ge 64 p.2.length with h9 | h9
        · exact absurd (bad_3 h9) h4
        · exact h9
end Go.LX
end
section
set_option maxRecDepth 100000
set_option maxHeartbeats 1000000
set_option autoImplicit false
set_option linter.unusedVariables false
set_option linter.unusedSimpArgs false
namespace Go.LX
open Go.Proofs

def oneB (o : Oper) : Bool :=
  match o.op with
  | .move _ => true
  | .assign _ => true
  | .alloc _ => true
  | .load _ _ => true
  | .store _ _ _ => true
  | .fieldAddr _ _ _ => true
  | .indexAddr _ _ _ => true
  | .extract _ _ => true
  | _ => false
theorem run_v {P : Program} {w : World} {s : Sem Value} {n : Next} {w' : World} (h : (Bind.bind s fun x => (pure (Next.value x) : Sem Next)).run P w = .ok n w') : (∃ x, n = .value x) ∨ n = .skip := by
  rw [Sem.run_bind] at h
  generalize s.run P w = r at h
  cases r with
  | ok x w1 => cases h; exact .inl ⟨x, rfl⟩
  | halt e w1 => cases h
theorem run_u {P : Program} {w : World} {s : Sem Unit} {n : Next} {w' : World} (h : (Bind.bind s fun _ => (pure Next.skip : Sem Next)).run P w = .ok n w') : (∃ x, n = .value x) ∨ n = .skip := by
  rw [Sem.run_bind] at h
  generalize s.run P w = r at h
  cases r with
  | ok x w1 => cases h; exact .inr rfl
  | halt e w1 => cases h
theorem one_step {P : Program} {ρ : Operand → Value} {o : Oper} {w : World} {n : Next} {w' : World} (ho : oneB o = true) (h : (execOp ρ o).run P w = .ok n w') : (∃ x, n = .value x) ∨ n = .skip := by
  unfold oneB at ho
  unfold execOp at h
  split at ho
  · rename_i x he
    rw [he] at h
    cases h
    exact .inl ⟨_, rfl⟩
  · rename_i x he
    rw [he] at h
    cases h
    exact .inl ⟨_, rfl⟩
  · rename_i x he
    rw [he] at h
    exact run_v h
  · rename_i x y he
    rw [he] at h
    exact run_v h
  · rename_i x y z he
    rw [he] at h
    exact run_u h
  · rename_i x y z he
    rw [he] at h
    exact run_v h
  · rename_i x y z he
    rw [he] at h
    exact run_v h
  · rename_i x y he
    rw [he] at h
    exact run_v h
  · cases ho
theorem wp_and {P : Program} {o : Oper} {a : Act} {w : World} {K1 K2 : Act → World → Prop} {Q : Exit → Act → World → Prop} (ho : oneB o = true) (h1 : o.wp P a w K1 Q) (h2 : o.wp P a w K2 Q) : o.wp P a w (fun a w => K1 a w ∧ K2 a w) Q := by
  unfold Oper.wp at *
  have hs := fun n w' => one_step (P := P) (ρ := a.eval) (w := w) (n := n) (w' := w') ho
  generalize (execOp a.eval o).run P w = r at *
  cases r with
  | ok n w' =>
    rcases hs n w' rfl with ⟨x, rfl⟩ | rfl
    · exact ⟨h1, h2⟩
    · exact ⟨h1, h2⟩
  | halt x w' => cases x <;> exact h1
theorem wpOp_one {P : Program} {ops : Array Oper} {Q : Exit → Act → World → Prop} {i : Nat} {o : Oper} {K : Act → World → Prop} {a : Act} {w : World} (hQ : ¬ LetsOut Q) (ho : ops[i]? = some o) (hg : o.guard = none) : wpOp P ops Q i K a w ↔ o.wp P a w K Q := by
  have hw : Region.wanted o (yielded ops a.tmps) = true := by simp [Region.wanted, hg]
  unfold wpOp
  rw [ho]
  simp only [hw, if_true]
  exact ⟨fun h => h.elim id fun h => absurd h.2 hQ, .inl⟩
theorem mem_ready {ops : Array Oper} {listed : Array Bool} {k : Nat} (hs : listed.size = ops.size) : k ∈ Region.ready .any ops listed ↔ ∃ o, ops[k]? = some o ∧ listed.getD k false = false ∧ ∀ e ∈ o.after, Region.binds .any e = true → listed.getD e.on false = true := by
  unfold Region.ready
  rw [List.mem_filter, List.mem_range]
  by_cases hk : k < ops.size
  · have hgt : listed.getD k true = listed.getD k false := by
      rw [Array.getD_eq_getD_getElem?, Array.getD_eq_getD_getElem?, Array.getElem?_eq_getElem (by omega)]
      rfl
    rw [Array.getElem?_eq_getElem hk, hgt]
    simp only [hk, true_and, Option.map_some, Option.getD_some, Bool.and_eq_true, Bool.not_eq_true', Array.all_eq_true']
    constructor
    · rintro ⟨h1, h2⟩
      refine ⟨_, rfl, h1, fun e he hb => ?_⟩
      have := h2 e he
      rw [hb] at this
      simpa using this
    · rintro ⟨o, ho, h1, h2⟩
      obtain rfl := Option.some.inj ho
      refine ⟨h1, fun e he => ?_⟩
      cases hb : Region.binds .any e with
      | false => rfl
      | true => simpa using h2 e he hb
  · rw [Array.getElem?_eq_none (by omega)]
    constructor
    · rintro ⟨h, _⟩
      exact absurd h hk
    · rintro ⟨o, h, _⟩
      cases h
structure Sim (ops ops' : Array Oper) (π : Nat → Nat) (x y : Nat) : Prop where
  size : ops'.size = ops.size
  inv : ∀ k, π (π k) = k
  get : ∀ (k : Nat) (o : Oper), ops[k]? = some o → ∃ af : Array Edge, ops'[π k]? = some { o with after := af } ∧
    ∀ (f f' : Nat → Bool), (∀ m, f' (π m) = f m) → ((∀ e ∈ af, Region.binds .any e = true → f' e.on = true) ↔ (∀ e ∈ o.after, Region.binds .any e = true → f e.on = true) ∧ (k = x → f y = true))
def Same (π : Nat → Nat) (l l' : Array Bool) : Prop := l'.size = l.size ∧ ∀ m, l'.getD (π m) false = l.getD m false
theorem getD_set {l : Array Bool} {k m : Nat} (hk : k < l.size) : (l.setIfInBounds k true).getD m false = if k = m then true else l.getD m false := by
  rw [Array.getD_eq_getD_getElem?, Array.getElem?_setIfInBounds, Array.getD_eq_getD_getElem?]
  by_cases h : k = m
  · subst h
    rw [if_pos rfl, if_pos hk, if_pos rfl]
    rfl
  · rw [if_neg h, if_neg h]
theorem Same.set {π : Nat → Nat} {l l' : Array Bool} (h : Same π l l') (hi : ∀ k, π (π k) = k) {k : Nat} (hk : k < l.size) (hk' : π k < l'.size) : Same π (l.setIfInBounds k true) (l'.setIfInBounds (π k) true) := by
  refine ⟨by rw [Array.size_setIfInBounds, Array.size_setIfInBounds, h.1], fun m => ?_⟩
  rw [getD_set hk, getD_set hk', h.2 m]
  by_cases hm : k = m
  · rw [if_pos hm, if_pos (by rw [hm])]
  · rw [if_neg hm, if_neg (fun q => hm (by rw [← hi k, q, hi m]))]
theorem Sim.ready {ops ops' : Array Oper} {π : Nat → Nat} {x y : Nat} (h : Sim ops ops' π x y) {l l' : Array Bool} (hs : l.size = ops.size) (hl : Same π l l') (k : Nat) : π k ∈ Region.ready .any ops' l' ↔ k ∈ Region.ready .any ops l ∧ (k = x → l.getD y false = true) := by
  rw [mem_ready (by rw [hl.1, hs, h.size]), mem_ready hs]
  constructor
  · rintro ⟨o', ho', h1, h2⟩
    have hk : k < ops.size := by
      rcases Nat.lt_or_ge k ops.size with q | q
      · exact q
      · exfalso
        have hlt : π k < ops'.size := by
          rcases Nat.lt_or_ge (π k) ops'.size with u | u
          · exact u
          · rw [Array.getElem?_eq_none u] at ho'; cases ho'
        have hlt2 : π k < ops.size := by rw [← h.size]; exact hlt
        obtain ⟨af, ha, _⟩ := h.get (π k) (ops[π k]'hlt2) (Array.getElem?_eq_getElem hlt2)
        rw [h.inv k, Array.getElem?_eq_none (by rw [h.size]; exact q)] at ha
        cases ha
    obtain ⟨af, ha, hf⟩ := h.get k ops[k] (by rw [Array.getElem?_eq_getElem hk])
    obtain rfl := Option.some.inj (ho'.symm.trans ha)
    have := (hf (fun m => l.getD m false) (fun m => l'.getD m false) hl.2).1 h2
    exact ⟨⟨_, by rw [Array.getElem?_eq_getElem hk], by rw [← hl.2 k]; exact h1, this.1⟩, this.2⟩
  · rintro ⟨⟨o, ho, h1, h2⟩, hx⟩
    obtain ⟨af, ha, hf⟩ := h.get k o ho
    exact ⟨_, ha, by rw [hl.2 k]; exact h1, (hf (fun m => l.getD m false) (fun m => l'.getD m false) hl.2).2 ⟨h2, hx⟩⟩
theorem ready_lt {ops : Array Oper} {l : Array Bool} {k : Nat} (hs : l.size = ops.size) (h : k ∈ Region.ready .any ops l) : ∃ o, ops[k]? = some o ∧ k < ops.size := by
  obtain ⟨o, ho, _⟩ := (mem_ready hs).1 h
  refine ⟨o, ho, ?_⟩
  rcases Nat.lt_or_ge k ops.size with q | q
  · exact q
  · rw [Array.getElem?_eq_none q] at ho; cases ho
theorem Sim.past {P : Program} {Q : Exit → Act → World → Prop} (hQ : ¬ LetsOut Q) {ops ops' : Array Oper} {π : Nat → Nat} {x y : Nat} (h : Sim ops ops' π x y) (hg : ∀ (k : Nat) (o : Oper), ops[k]? = some o → o.guard = none) :
    ∀ (fuel : Nat) (l l' : Array Bool) (a : Act) (w : World), l.size = ops.size → Same π l l' → l.getD y false = true → wpAny P .any ops' Q fuel l' a w → wpAny P .any ops Q fuel l a w
  | 0, l, l', a, w, hs, hl, hy, h0 => by
    refine ⟨?_, h0.2⟩
    refine List.eq_nil_iff_forall_not_mem.2 fun k hk => ?_
    have := (h.ready hs hl k).2 ⟨hk, fun _ => hy⟩
    rw [h0.1] at this
    cases this
  | fuel + 1, l, l', a, w, hs, hl, hy, h0 => by
    refine ⟨fun hr => h0.1 ?_, fun k hk => ?_⟩
    · refine List.eq_nil_iff_forall_not_mem.2 fun k hk => ?_
      have := (h.ready hs hl (π k)).1 (by rw [h.inv]; exact hk)
      rw [hr] at this
      cases this.1
    · obtain ⟨o, ho, hlt⟩ := ready_lt hs hk
      obtain ⟨af, ha, _⟩ := h.get k o ho
      have hlt' : π k < ops'.size := by
        rcases Nat.lt_or_ge (π k) ops'.size with u | u
        · exact u
        · rw [Array.getElem?_eq_none u] at ha; cases ha
      have h1 := h0.2 (π k) ((h.ready hs hl k).2 ⟨hk, fun _ => hy⟩)
      rw [wpOp_one hQ ha (hg k o ho)] at h1
      rw [wpOp_one hQ ho (hg k o ho)]
      refine Oper.wp_mono (o := o) (fun a w hw => ?_) h1
      exact Sim.past hQ h hg fuel _ _ a w (by rw [Array.size_setIfInBounds, hs]) (hl.set h.inv (by rw [hs]; exact hlt) (by rw [hl.1, hs, ← h.size]; exact hlt')) (by rw [getD_set (by rw [hs]; exact hlt)]; split <;> first | rfl | exact hy) hw
theorem both_orders {P : Program} {Q : Exit → Act → World → Prop} (hQ : ¬ LetsOut Q) {ops ops1 ops2 : Array Oper} {π1 π2 : Nat → Nat} {i j : Nat} (s1 : Sim ops ops1 π1 j i) (s2 : Sim ops ops2 π2 i j) (hij : i ≠ j) (hg : ∀ (k : Nat) (o : Oper), ops[k]? = some o → o.guard = none ∧ oneB o = true)
    (hfree : ∃ o, ops[i]? = some o ∧ o.after = #[]) :
    ∀ (fuel : Nat) (l l1 l2 : Array Bool) (a : Act) (w : World), l.size = ops.size → Same π1 l l1 → Same π2 l l2 → l.getD i false = false → l.getD j false = false → wpAny P .any ops1 Q fuel l1 a w → wpAny P .any ops2 Q fuel l2 a w → wpAny P .any ops Q fuel l a w := by
  have hr0 : ∀ l : Array Bool, l.size = ops.size → l.getD i false = false → i ∈ Region.ready .any ops l := by
    intro l hs hi
    obtain ⟨o, ho, ha⟩ := hfree
    exact (mem_ready hs).2 ⟨o, ho, hi, fun e he => by rw [ha] at he; simp at he⟩
  have hgg : ∀ (k : Nat) (o : Oper), ops[k]? = some o → o.guard = none := fun k o ho => (hg k o ho).1
  intro fuel
  induction fuel with
  | zero =>
    intro l l1 l2 a w hs h1 h2 hi hj w1 w2
    exfalso
    have := (s1.ready hs h1 i).2 ⟨hr0 l hs hi, fun q => absurd q hij⟩
    rw [w1.1] at this
    cases this
  | succ fuel ih =>
    intro l l1 l2 a w hs h1 h2 hi hj w1 w2
    refine ⟨fun hr => ?_, fun k hk => ?_⟩
    · exfalso
      have := hr0 l hs hi
      rw [hr] at this
      cases this
    · obtain ⟨o, ho, hlt⟩ := ready_lt hs hk
      have side : ∀ {ops' : Array Oper} {π : Nat → Nat} {x y : Nat} (s : Sim ops ops' π x y) {l' : Array Bool} (hl : Same π l l'), π k < l'.size ∧ ∃ af : Array Edge, ops'[π k]? = some { o with after := af } := by
        intro ops' π x y s l' hl
        obtain ⟨af, ha, _⟩ := s.get k o ho
        refine ⟨?_, af, ha⟩
        rw [hl.1, hs, ← s.size]
        rcases Nat.lt_or_ge (π k) ops'.size with u | u
        · exact u
        · rw [Array.getElem?_eq_none u] at ha; cases ha
      have hkl : k < l.size := by rw [hs]; exact hlt
      have hsz : (l.setIfInBounds k true).size = ops.size := by rw [Array.size_setIfInBounds, hs]
      rw [wpOp_one hQ ho (hgg k o ho)]
      by_cases hki : k = i
      · obtain ⟨q1, af, q2⟩ := side s1 h1
        have := w1.2 (π1 k) ((s1.ready hs h1 k).2 ⟨hk, fun q => absurd (hki.symm.trans q) hij⟩)
        rw [wpOp_one hQ q2 (hgg k o ho)] at this
        refine Oper.wp_mono (o := o) (fun a w hw => ?_) this
        exact s1.past hQ hgg fuel _ _ a w hsz (h1.set s1.inv hkl q1) (by rw [getD_set hkl, if_pos hki]) hw
      by_cases hkj : k = j
      · obtain ⟨q1, af, q2⟩ := side s2 h2
        have := w2.2 (π2 k) ((s2.ready hs h2 k).2 ⟨hk, fun q => absurd q hki⟩)
        rw [wpOp_one hQ q2 (hgg k o ho)] at this
        refine Oper.wp_mono (o := o) (fun a w hw => ?_) this
        exact s2.past hQ hgg fuel _ _ a w hsz (h2.set s2.inv hkl q1) (by rw [getD_set hkl, if_pos hkj]) hw
      · obtain ⟨q1, af1, q2⟩ := side s1 h1
        obtain ⟨p1, af2, p2⟩ := side s2 h2
        have t1 := w1.2 (π1 k) ((s1.ready hs h1 k).2 ⟨hk, fun q => absurd q hkj⟩)
        have t2 := w2.2 (π2 k) ((s2.ready hs h2 k).2 ⟨hk, fun q => absurd q hki⟩)
        rw [wpOp_one hQ q2 (hgg k o ho)] at t1
        rw [wpOp_one hQ p2 (hgg k o ho)] at t2
        refine Oper.wp_mono (o := o) (fun a w hw => ?_) (wp_and (o := o) (hg k o ho).2 t1 t2)
        exact ih _ _ _ a w hsz (h1.set s1.inv hkl q1) (h2.set s2.inv hkl p1) (by rw [getD_set hkl, if_neg hki, hi]) (by rw [getD_set hkl, if_neg hkj, hj]) hw.1 hw.2
def addE (i : Nat) (o : Oper) : Oper := { o with after := (o.after.toList ++ [({ on := i, ground := .data } : Edge)]).toArray }
def edgeL : Nat → Nat → List Oper → List Oper
  | _, _, [] => []
  | 0, i, o :: r => addE i o :: r
  | n + 1, i, o :: r => o :: edgeL n i r
theorem edgeL_get : ∀ (j i : Nat) (l : List Oper) (k : Nat), (edgeL j i l)[k]? = if k = j then (l[k]?).map (addE i) else l[k]?
  | _, _, [], k => by simp [edgeL]
  | 0, i, o :: r, 0 => rfl
  | 0, i, o :: r, k + 1 => by rw [edgeL, if_neg (by omega)]; rfl
  | n + 1, i, o :: r, 0 => by rw [edgeL, if_neg (by omega)]; rfl
  | n + 1, i, o :: r, k + 1 => by
    rw [edgeL, List.getElem?_cons_succ, edgeL_get n i r k, List.getElem?_cons_succ]
    by_cases h : k = n
    · rw [if_pos h, if_pos (by omega)]
    · rw [if_neg h, if_neg (by omega)]
theorem edgeL_len : ∀ (j i : Nat) (l : List Oper), (edgeL j i l).length = l.length
  | _, _, [] => by simp [edgeL]
  | 0, i, o :: r => rfl
  | n + 1, i, o :: r => by rw [edgeL, List.length_cons, edgeL_len n i r, List.length_cons]
def tau (i k : Nat) : Nat := match Nat.beq k i with
  | true => i + 1
  | false => match Nat.beq k (i + 1) with
    | true => i
    | false => k
theorem beq_ne {k i : Nat} (h : ¬ k = i) : Nat.beq k i = false := by
  cases hb : Nat.beq k i with
  | false => rfl
  | true => exact absurd (Nat.eq_of_beq_eq_true hb) h
theorem tau_eq (i k : Nat) : tau i k = if k = i then i + 1 else if k = i + 1 then i else k := by
  unfold tau
  by_cases h : k = i
  · subst h
    rw [Nat.beq_refl, if_pos rfl]
  · rw [if_neg h, beq_ne h]
    dsimp only
    by_cases h2 : k = i + 1
    · subst h2
      rw [Nat.beq_refl, if_pos rfl]
    · rw [if_neg h2, beq_ne h2]
theorem tau_inv (i k : Nat) : tau i (tau i k) = k := by
  rw [tau_eq, tau_eq]
  by_cases h : k = i
  · rw [if_pos h, if_neg (by omega), if_pos rfl, h]
  · rw [if_neg h]
    by_cases h2 : k = i + 1
    · rw [if_pos h2, if_pos rfl, h2]
    · rw [if_neg h2, if_neg h, if_neg h2]
def renE (i : Nat) (e : Edge) : Edge := { e with on := tau i e.on }
def renO (i : Nat) (o : Oper) : Oper := { o with after := (o.after.toList.map (renE i)).toArray }
def swapL : Nat → List Oper → List Oper
  | 0, a :: b :: r => b :: a :: r
  | n + 1, a :: r => a :: swapL n r
  | _, l => l
theorem swapL_get : ∀ (i : Nat) (l : List Oper) (k : Nat), i + 1 < l.length → (swapL i l)[tau i k]? = l[k]?
  | 0, a :: b :: r, k, h => by
    rw [tau_eq]
    match k with
    | 0 => rfl
    | 1 => rfl
    | k + 2 => rw [if_neg (by omega), if_neg (by omega)]; rfl
  | 0, [_], k, h => by simp at h
  | 0, [], k, h => by simp at h
  | n + 1, [], k, h => by simp at h
  | n + 1, a :: r, 0, h => by
    rw [tau_eq, if_neg (by omega), if_neg (by omega)]
    rfl
  | n + 1, a :: r, k + 1, h => by
    have ih := swapL_get n r k (by simpa using h)
    have e : tau (n + 1) (k + 1) = tau n k + 1 := by
      rw [tau_eq, tau_eq]
      by_cases h1 : k = n
      · rw [if_pos h1, if_pos (by omega)]
      · rw [if_neg h1, if_neg (by omega)]
        by_cases h2 : k = n + 1
        · rw [if_pos h2, if_pos (by omega)]
        · rw [if_neg h2, if_neg (by omega)]
    rw [e, swapL, List.getElem?_cons_succ, ih, List.getElem?_cons_succ]
theorem swapL_len : ∀ (i : Nat) (l : List Oper), (swapL i l).length = l.length
  | 0, a :: b :: r => rfl
  | 0, [_] => rfl
  | 0, [] => rfl
  | n + 1, [] => rfl
  | n + 1, a :: r => by rw [swapL, List.length_cons, swapL_len n r, List.length_cons]
def opsE (j i : Nat) (ops : Array Oper) : Array Oper := (edgeL j i ops.toList).toArray
def opsS (i : Nat) (ops : Array Oper) : Array Oper := (swapL i ((edgeL i (i + 1) ops.toList).map (renO i))).toArray
theorem sim_edge (ops : Array Oper) (j i : Nat) : Sim ops (opsE j i ops) (fun k => k) j i where
  size := by unfold opsE; rw [List.size_toArray, edgeL_len, Array.length_toList]
  inv _ := rfl
  get k o ho := by
    have h1 : (opsE j i ops)[k]? = if k = j then (ops[k]?).map (addE i) else ops[k]? := by
      unfold opsE
      rw [List.getElem?_toArray, edgeL_get, Array.getElem?_toList]
    rw [h1, ho]
    by_cases hk : k = j
    · refine ⟨_, by rw [if_pos hk]; rfl, fun f f' hf => ?_⟩
      constructor
      · intro q
        refine ⟨fun e he hb => by rw [← hf]; exact q e (by simp [he]) hb, fun _ => by rw [← hf]; exact q ⟨i, .data⟩ (by simp) rfl⟩
      · rintro ⟨q1, q2⟩ e he hb
        rw [List.mem_toArray, List.mem_append] at he
        rcases he with he | he
        · rw [hf]; exact q1 e (by simpa using he) hb
        · rw [List.mem_singleton.1 he, hf]; exact q2 hk
    · refine ⟨o.after, by rw [if_neg hk], fun f f' hf => ?_⟩
      constructor
      · intro q
        exact ⟨fun e he hb => by rw [← hf]; exact q e he hb, fun u => absurd u hk⟩
      · rintro ⟨q1, _⟩ e he hb
        rw [hf]; exact q1 e he hb
theorem sim_swap (ops : Array Oper) (i : Nat) (hi : i + 1 < ops.size) : Sim ops (opsS i ops) (tau i) i (i + 1) where
  size := by unfold opsS; rw [List.size_toArray, swapL_len, List.length_map, edgeL_len, Array.length_toList]
  inv := tau_inv i
  get k o ho := by
    have h1 : (opsS i ops)[tau i k]? = (if k = i then (ops[k]?).map (addE (i + 1)) else ops[k]?).map (renO i) := by
      unfold opsS
      rw [List.getElem?_toArray, swapL_get _ _ _ (by rw [List.length_map, edgeL_len, Array.length_toList]; exact hi), List.getElem?_map, edgeL_get, Array.getElem?_toList]
    have hb0 : ∀ e : Edge, Region.binds .any (renE i e) = Region.binds .any e := fun e => rfl
    rw [h1, ho]
    by_cases hk : k = i
    · refine ⟨_, by rw [if_pos hk]; rfl, fun f f' hf => ?_⟩
      constructor
      · intro q
        refine ⟨fun e he hb => by rw [← hf]; exact q (renE i e) (by simp [addE]; exact .inl ⟨e, he, rfl⟩) hb, fun _ => by rw [← hf]; exact q (renE i ⟨i + 1, .data⟩) (by simp [addE]) rfl⟩
      · rintro ⟨q1, q2⟩ e he hb
        rw [List.mem_toArray, List.mem_map] at he
        obtain ⟨e', he', rfl⟩ := he
        show f' (tau i e'.on) = true
        rw [hf]
        simp only [addE, List.mem_append, List.mem_singleton] at he'
        rcases he' with he' | rfl
        · exact q1 e' (by simpa using he') hb
        · exact q2 hk
    · refine ⟨_, by rw [if_neg hk]; rfl, fun f f' hf => ?_⟩
      constructor
      · intro q
        exact ⟨fun e he hb => by rw [← hf]; exact q (renE i e) (by simp; exact ⟨e, he, rfl⟩) hb, fun u => absurd u hk⟩
      · rintro ⟨q1, _⟩ e he hb
        rw [List.mem_toArray, List.mem_map] at he
        obtain ⟨e', he', rfl⟩ := he
        show f' (tau i e'.on) = true
        rw [hf]
        exact q1 e' (by simpa using he') hb
def AnyVC (P : Program) (G : Gl) (N : Nat) (ops : Array Oper) (s : LS) (K : Exit → LS → Prop) : Prop :=
  ∀ A E w a, A.n = N → SR G A E s a w → wpAny P .any ops (onlyN fun a' w' => Then G A E s w (K .normal) a' w') ops.size (Array.replicate ops.size false) a { w with drawn := w.drawn + 1 }
theorem no_listed (n i : Nat) : (Array.replicate n false).getD i false = false := by
  simp only [Array.getD_eq_getD_getElem?, Array.getElem?_replicate]
  split <;> rfl
theorem AnyVC.quiet (qs : List Nat) {P : Program} {Γ : Ty} (hΓ : TyOk P Γ) {G : Gl} {N : Nat} {ops : Array Oper} {s : LS} {K : Exit → LS → Prop}
    (hB : okI ops = true) (hW : wChain qs ops.toList 0 none = true) (hT : Nat.ble s.t.length 10000 = true) (h : drawK3 P Γ G qs ops.toList (K .normal) 0 ops.toList s.t s.h [] []) : AnyVC P G N ops s K := by
  intro A E w a hA hs
  obtain ⟨xs, f, h1, h0, h2, _, h3⟩ := drawK3_out (fun j o hj => by rw [Nat.zero_add]; exact hj) (fun p hp => by cases hp) h
  have hst : Step E s.h w E s.h { w with drawn := w.drawn + 1 } := ⟨Nat.le_refl _, fun _ _ _ => rfl, rfl, rfl, rfl, fun b h => .inr h, fun b h => h, fun b h => .inl h⟩
  have hc0 : ∀ (t : List SV) (ds : List Nat) (xs : List SV) (n : Nat), curF t ds xs (List.replicate n false) = t := by
    intro t ds
    induction ds generalizing t with
    | nil => intro xs n; simp [curF]
    | cons d ds ih =>
      intro xs n
      cases xs with
      | nil => simp [curF]
      | cons x xs =>
        cases n with
        | zero => simp [curF]
        | succ n => rw [List.replicate_succ, curF]; exact ih t xs n
  have hno := fun i => no_listed ops.size i
  refine any_order2 (A := A) (E0 := E) (w0 := w) (t0 := s.t) (hs := f) (xs := xs) hΓ (Nat.le_of_ble_eq_true hT) hB hW h1 (fun m o x hm hx => by
      have := h3 m o x hm hx
      simp only [Nat.zero_add] at this
      rcases this with h | ⟨h6, h | ⟨h7, h8, d, h9, h10 | h10⟩⟩
      · exact .inl h
      · exact .inr ⟨h6, .inl h⟩
      · exact .inr ⟨h6, .inr ⟨h7, h8, d, h9, .inl fun j hj hfr hah => h10.2 j (by simpa using hj) hfr hah⟩⟩
      · exact .inr ⟨h6, .inr ⟨h7, h8, d, h9, .inr fun j hj hfr hah => h10.2 j (by simpa using hj) hfr hah⟩⟩) (fun E' a' w' hs' hst' => ⟨rfl, _, E', h2, hs', by rw [h0] at hst'; exact hst'⟩) ops.size _ E a _ 0 (Nat.zero_le _) (fun i o _ _ => by rw [hno]; simp) (by simp) (by simp) (fun j oj hoj hlj => by
    exfalso
    rw [hno] at hlj
    cases hlj) ?_ (by rw [h0]; exact hst)
  rw [Array.toList_replicate, hc0, h0]
  exact ⟨hs.anc, VRs.kept (w := w) (w' := { w with drawn := w.drawn + 1 }) (Env.Le.refl E) (fun _ h => h) (fun _ _ => rfl) hs.vals,
    ⟨hs.rel.len, fun i o hi => ObjR.kept (w := w) (w' := { w with drawn := w.drawn + 1 }) (Env.Le.refl E) (fun _ h => h) (fun _ _ => rfl) (hs.rel.lt hi) (fun _ _ => rfl) (hs.rel.obj i o hi), hs.rel.sep, hs.rel.imm, hs.rel.ltI⟩,
    hs.gl.kept (w := w) (w' := { w with drawn := w.drawn + 1 }) (fun _ h => h) (fun _ _ => rfl), hs.nod⟩
def twoB (i : Nat) (l : List Oper) : Bool :=
  (l.all fun o => o.guard.isNone && oneB o) && Nat.blt (i + 1) l.length && (match l[i]? with
    | some o => o.after.toList.isEmpty
    | none => false)
theorem DrawVC.two (i : Nat) {P : Program} {Γ : Ty} {G : Gl} {N id : Nat} {ops : Array Oper} {s : LS} {K : Exit → LS → Prop} (hm : P.follows .mixedOrders = true) (hB : twoB i ops.toList = true)
    (h1 : AnyVC P G N (opsE (i + 1) i ops) s K) (h2 : AnyVC P G N (opsS i ops) s K) : DrawVC P Γ G N id ops s K := by
  refine ⟨fun X hX A E w a hA hs hJ => ?_⟩
  unfold twoB at hB
  rw [Bool.and_eq_true, Bool.and_eq_true] at hB
  obtain ⟨⟨b1, b2⟩, b3⟩ := hB
  have b2' : i + 1 + 1 ≤ ops.size := by simpa [Nat.blt] using b2
  have b2 : i + 1 < ops.size := by omega
  have hfree : ∃ o, ops[i]? = some o ∧ o.after = #[] := by
    rw [Array.getElem?_toList] at b3
    cases ho : ops[i]? with
    | none => rw [ho] at b3; cases b3
    | some o =>
      rw [ho] at b3
      refine ⟨o, rfl, ?_⟩
      have : o.after.toList = [] := by simpa using b3
      exact Array.toList_inj.1 this
  have hg : ∀ (k : Nat) (o : Oper), ops[k]? = some o → o.guard = none ∧ oneB o = true := by
    intro k o ho
    have hmem : o ∈ ops.toList := List.mem_of_getElem? (by rw [Array.getElem?_toList]; exact ho)
    have := List.all_eq_true.1 b1 o hmem
    rw [Bool.and_eq_true] at this
    exact ⟨by simpa using this.1, this.2⟩
  have s1 := sim_edge ops (i + 1) i
  have s2 := sim_swap ops i b2
  have w1 := h1 A E w a hA hs
  have w2 := h2 A E w a hA hs
  rw [s1.size] at w1
  rw [s2.size] at w2
  have same : ∀ π : Nat → Nat, Same π (Array.replicate ops.size false) (Array.replicate ops.size false) := fun π => ⟨rfl, fun m => by rw [no_listed, no_listed]⟩
  have hw := both_orders (onlyN_out _) s1 s2 (by omega : i ≠ i + 1) hg hfree ops.size _ _ _ a { w with drawn := w.drawn + 1 } (by simp) (same _) (same _) (no_listed _ _) (no_listed _ _) w1 w2
  exact wpIn_mono (wpIn_region_any hm (wpAny_lift (onlyN_out _) hX _ hw)) (liftQ_only fun a w h => h)
end Go.LX
end
section
set_option maxRecDepth 100000
set_option maxHeartbeats 2000000
set_option autoImplicit false
set_option linter.unusedVariables false
set_option linter.unusedSimpArgs false
namespace Go.LX
open Go.Proofs

theorem flL_at (l : List Lf) {k : Nat} (h : k < l.length) (d : Lf) : ((flL l).drop (((k : Nat) : Int).toNat * 5)).take 5 = enL (l.getD k d) := by
  rw [Int.toNat_natCast]
  induction l generalizing k with
  | nil => simp at h
  | cons a r ih =>
    match k with
    | 0 =>
      rw [Nat.zero_mul, List.drop_zero, flL, List.flatMap_cons]
      exact List.take_left' rfl
    | k + 1 =>
      rw [show (k + 1) * 5 = 5 + k * 5 by omega, ← List.drop_drop, flL, List.flatMap_cons, List.drop_left' (show (enL a).length = 5 from rfl), List.getD_cons_succ]
      exact ih (by simpa using h)
def lf0 : Lf := ⟨0, 0, [], [], []⟩
end Go.LX
end
section
set_option maxRecDepth 100000
set_option maxHeartbeats 2000000
set_option autoImplicit false
set_option linter.unusedVariables false
set_option linter.unusedSimpArgs false
namespace Go.LX
open Go.Proofs

def few9S : Spec := fun args H Q => match args, H with
  | [.sl 2 n cs f], [] => ∃ l : List Pr, n = l.length ∧ cs = flP l ∧ l.length ≤ 9223372036854775807 ∧ Q (.bool (decide (l.length ≤ 40 ∧ chkV l = 0))) []
  | _, _ => False
theorem few9_c : Meets Tryz.prog [] 12 few9S := by
  refine meets_of Γok Tryz.func12 rfl ?_
  intro args H Q h
  unfold few9S at h
  split at h
  case h_2 => exact h.elim
  rename_i n cs f
  obtain ⟨l, rfl, rfl, hl, h⟩ := h
  (refine sx_sound Γok _ ?_; conv => whnf)
  (repeat (first | (exact Out.same; conv => whnf) | (exact Out1.same; conv => whnf) | (refine QAnd.mk ?_ ?_; conv => whnf) | (apply QStepH.go; conv => whnf) | (refine Both.lit_true ?_; conv => whnf) | (refine Both.lit_false ?_; conv => whnf) | (apply QStep.go; conv => whnf) | (refine Need.au ?_; conv => whnf) | (refine ⟨_, rfl, ?_⟩; conv => whnf)))
  refine Both.dec (fun h1 => ?_) (fun h1 => ?_)
  · have e : decide (chkV l = 0) = decide (l.length ≤ 40 ∧ chkV l = 0) := decide_eq_decide.2 ⟨fun q => ⟨by omega, q⟩, fun q => q.2⟩
    (conv => whnf)
    (repeat (first | (refine CallVC.auto rchk_k ⟨l, rfl, rfl, hl, ?_⟩; conv => whnf) | (exact Out.same; conv => whnf) | (exact Out1.same; conv => whnf) | (refine QAnd.mk ?_ ?_; conv => whnf) | (apply QStepH.go; conv => whnf) | (refine Both.lit_true ?_; conv => whnf) | (refine Both.lit_false ?_; conv => whnf) | (apply QStep.go; conv => whnf) | (refine Need.au ?_; conv => whnf) | (refine ⟨_, rfl, ?_⟩; conv => whnf)))
    refine ⟨_, _, WeakV.drop rfl, ?_⟩
    exact (congrArg (fun b => Q (SV.bool b) []) e).mpr h
  · have e : false = decide (l.length ≤ 40 ∧ chkV l = 0) := (decide_eq_false (fun q => by omega)).symm
    (conv => whnf)
    (repeat (first | (exact Out.same; conv => whnf) | (exact Out1.same; conv => whnf) | (refine QAnd.mk ?_ ?_; conv => whnf) | (apply QStepH.go; conv => whnf) | (refine Both.lit_true ?_; conv => whnf) | (refine Both.lit_false ?_; conv => whnf) | (apply QStep.go; conv => whnf) | (refine Need.au ?_; conv => whnf) | (refine ⟨_, rfl, ?_⟩; conv => whnf)))
    refine ⟨_, _, WeakV.drop rfl, ?_⟩
    exact (congrArg (fun b => Q (SV.bool b) []) e).mpr h
theorem few9_k : Contract Tryz.prog [] 12 few9S := ⟨⟨⟨_, rfl, rfl, rfl⟩⟩, few9_c⟩
theorem chk_sort {l : List Pr} (h : chkV l = 0) : sortB l := by
  unfold chkV at h
  split at h
  · cases h
  · split at h
    · cases h
    · split at h
      · rename_i h3
        exact ordB_sort l h3
      · cases h
def ac : List Pr := [([97], []), ([99], [])]
theorem ac_sort : sortB ac := ordB_sort ac rfl
theorem ac_b : IsPlace ac [98] 1 := ⟨by decide, fun j hj => by
  obtain rfl : j = 0 := by omega
  rfl, fun j h1 h2 => by
  obtain rfl : j = 1 := by simp [ac] at h2; omega
  rfl⟩
theorem ac_d : IsPlace ac [100] 2 := ⟨by decide, fun j hj => by
  match j with
  | 0 => rfl
  | 1 => rfl
  | j + 2 => omega, fun j h1 h2 => by simp [ac] at h2; omega⟩
theorem ac_ok : ∀ p ∈ ac, okP p := fun p hp => by
  rcases List.mem_cons.1 hp with rfl | hp
  · exact ⟨by decide, by decide⟩
  · rw [List.mem_singleton.1 hp]
    exact ⟨by decide, by decide⟩
theorem awake9_c {y0 : CV} {cs0 : List CV} (hK : KAt y0 cs0) : Meets Tryz.prog [(0, y0 :: cs0)] 6 yesS := by
  refine meets_of Γok Tryz.func6 rfl ?_
  intro args H Q h
  unfold yesS at h
  split at h
  case h_2 => exact h.elim
  have e1 : absV ac [98] 1 = (true, [madeL ac 0, madeL ac 1], 0) := by
    rw [abs_yes (by decide) (by decide)]
    rfl
  have e2 : absV ac [100] 2 = (true, [madeL ac 1], 0) := by
    rw [abs_yes (by decide) (by decide)]
    rfl
  have c0 : decide ((0 : Int) = 0) = true := rfl
  have c2 : decide (((([madeL ac 0, madeL ac 1] : List Lf).length : Nat) : Int) = 2) = true := rfl
  have c1 : decide (((([madeL ac 1] : List Lf).length : Nat) : Int) = 1) = true := rfl
  have hat : ((flL [madeL ac 1]).drop ((0 : Int).toNat * 5)).take 5 = [CV.int .i64 1, .int .i64 2, .str [99], .str [], .sl 1 (pathP ac 1).length (strs (pathP ac 1)) false] := rfl
  have hix : ti50.size = 5 ∧ (0 : Int) ≤ 0 ∧ (0 : Int) < ((([madeL ac 1] : List Lf).length : Nat) : Int) := ⟨rfl, by omega, by decide⟩
  (refine sx_sound Γok _ ?_; conv => whnf)
  (repeat (first | (exact Out.same; conv => whnf) | (exact Out1.same; conv => whnf) | (refine QAnd.mk ?_ ?_; conv => whnf) | (apply QStepH.go; conv => whnf) | (refine Both.lit_true ?_; conv => whnf) | (refine Both.lit_false ?_; conv => whnf) | (apply QStep.go; conv => whnf) | (refine Need.au ?_; conv => whnf) | (refine ⟨_, rfl, ?_⟩; conv => whnf)))
  refine CallVC.auto (mabs_k hK) ⟨ac, rfl, rfl, by decide, ac_ok, ac_sort, fun k a L e hk he => ?_⟩
  obtain rfl : k = 1 := hk.eq ac_b
  obtain ⟨ra, he2⟩ := Prod.mk.inj (he.trans e1)
  obtain ⟨rL, re⟩ := Prod.mk.inj he2
  clear he he2
  subst ra rL re
  (conv => whnf)
  (repeat (first | (exact Out.same; conv => whnf) | (exact Out1.same; conv => whnf) | (refine QAnd.mk ?_ ?_; conv => whnf) | (apply QStepH.go; conv => whnf) | (refine Both.lit_true ?_; conv => whnf) | (refine Both.lit_false ?_; conv => whnf) | (apply QStep.go; conv => whnf) | (refine Need.au ?_; conv => whnf) | (refine ⟨_, rfl, ?_⟩; conv => whnf)))
  refine CallVC.auto (mabs_k hK) ⟨ac, rfl, rfl, by decide, ac_ok, ac_sort, fun k a L e hk he => ?_⟩
  obtain rfl : k = 2 := hk.eq ac_d
  obtain ⟨ra, he2⟩ := Prod.mk.inj (he.trans e2)
  obtain ⟨rL, re⟩ := Prod.mk.inj he2
  clear he he2
  subst ra rL re
  (conv => whnf)
  (repeat (first | (refine Both.of_true c0 ?_; conv => whnf) | (refine Both.of_true c2 ?_; conv => whnf) | (refine Both.of_true c1 ?_; conv => whnf) | (refine Need.mk hix ?_; conv => whnf) | (refine ⟨_, hat, ?_⟩; conv => whnf) | (exact Out.same; conv => whnf) | (exact Out1.same; conv => whnf) | (refine QAnd.mk ?_ ?_; conv => whnf) | (apply QStepH.go; conv => whnf) | (refine Both.lit_true ?_; conv => whnf) | (refine Both.lit_false ?_; conv => whnf) | (apply QStep.go; conv => whnf) | (refine Need.au ?_; conv => whnf) | (refine ⟨_, rfl, ?_⟩; conv => whnf)))
  exact ⟨_, _, WeakV.drop rfl, h⟩
theorem awake9_k {y0 : CV} {cs0 : List CV} (hK : KAt y0 cs0) : Contract Tryz.prog [(0, y0 :: cs0)] 6 yesS := ⟨⟨⟨_, rfl, rfl, rfl⟩⟩, awake9_c hK⟩
end Go.LX
end
section
set_option maxRecDepth 100000
set_option maxHeartbeats 1000000
set_option autoImplicit false
set_option linter.unusedVariables false
set_option linter.unusedSimpArgs false
namespace Go.LX
open Go.Proofs

theorem rd_yes {n : Nat} {s : List UInt8} (h : n ≤ s.length) : rdT 0 n s = s.take n ∧ rdE 0 n s = 0 ∧ rdS 0 n s = s.drop n := by
  have hok : rdOk 0 n s = true := decide_eq_true ⟨rfl, by omega, by omega⟩
  refine ⟨by simp [rdT, hok], ?_, by simp [rdS, hok]⟩
  unfold rdE
  rw [if_pos rfl, if_pos ⟨by omega, by omega⟩]
end Go.LX
end
section
set_option maxRecDepth 100000
set_option maxHeartbeats 2000000
set_option autoImplicit false
set_option linter.unusedVariables false
set_option linter.unusedSimpArgs false
namespace Go.LX
open Go.Proofs

structure okLf (x : Lf) : Prop where
  i : 0 ≤ x.i ∧ x.i ≤ 4096
  c : 0 ≤ x.c ∧ x.c ≤ 4096
  k : x.k.length ≤ 16
  v : x.v.length ≤ 64
  p : x.p.length ≤ 16
  d : ∀ s ∈ x.p, s.length = 32
def headL (x : Lf) : Bs := beb x.i.toNat 8 ++ beb x.c.toNat 8 ++ (beb x.k.length 2 ++ x.k) ++ (beb x.v.length 2 ++ x.v) ++ beb x.p.length 1
def putL (x : Lf) : Bs := headL x ++ x.p.flatten
def bytesX (a : Bool) (L : List Lf) : Bs := [if a then 2 else 1] ++ beb L.length 1 ++ (L.map putL).flatten
def fitsX (L : List Lf) : Prop := L.length ≤ 2 ∧ ∀ x ∈ L, okLf x
open Classical in
noncomputable def bytesV (a : Bool) (L : List Lf) : Bs × Int := if fitsX L then (bytesX a L, 0) else ([], 1)
def with1S : Spec := fun args H Q => match args, H with
  | [.str s], [] => Q (.bool (!decide ((s.length : Int) = 32))) []
  | _, _ => False
theorem with1_c : Meets Tryz.prog [] 67 with1S := by
  refine meets_of Γok Tryz.func67 rfl ?_
  intro args H Q h
  unfold with1S at h
  split at h
  case h_2 => exact h.elim
  (refine sx_sound Γok _ ?_; conv => whnf)
  (repeat (first | (exact Out.same; conv => whnf) | (exact Out1.same; conv => whnf) | (refine QAnd.mk ?_ ?_; conv => whnf) | (apply QStepH.go; conv => whnf) | (refine Both.lit_true ?_; conv => whnf) | (refine Both.lit_false ?_; conv => whnf) | (apply QStep.go; conv => whnf) | (refine Need.au ?_; conv => whnf) | (refine ⟨_, rfl, ?_⟩; conv => whnf)))
  exact ⟨_, _, WeakV.drop rfl, h⟩
theorem with1_k : Contract Tryz.prog [] 67 with1S := ⟨⟨⟨_, rfl, rfl, rfl⟩⟩, with1_c⟩
def idx1S : Spec := fun args H Q => match args, H with
  | [.sl 1 n cs f, .func (.func 67) []], [] => ∃ p : List Bs, cs = strs p ∧ n = p.length ∧ p.length ≤ 9223372036854775807 ∧ ∀ r : Int, (0 ≤ r ↔ ¬ ∀ s ∈ p, s.length = 32) → Q (.int .i64 r) []
  | _, _ => False
theorem idx1_c : Meets Tryz.prog [] 92 idx1S := by
  refine meets_of Γok Tryz.func92 rfl ?_
  intro args H Q h
  unfold idx1S at h
  split at h
  case h_2 => exact h.elim
  rename_i n cs f
  obtain ⟨p, rfl, rfl, hp, h⟩ := h
  (refine sx_sound Γok _ ?_; conv => whnf)
  (repeat (first | (exact Out.same; conv => whnf) | (exact Out1.same; conv => whnf) | (refine QAnd.mk ?_ ?_; conv => whnf) | (apply QStepH.go; conv => whnf) | (refine Both.lit_true ?_; conv => whnf) | (refine Both.lit_false ?_; conv => whnf) | (apply QStep.go; conv => whnf) | (refine Need.au ?_; conv => whnf) | (refine ⟨_, rfl, ?_⟩; conv => whnf)))
  refine loop_rule (fun k : Nat => ⟨[.sl 1 p.length (strs p) f, .func (.func 67) [], .any, .any, .any, .any, .any, .int .i64 ((p.length : Nat) : Int), .int .i64 (k : Int), .any, .any, .any, .any, .any, .any, .any, .any, .any, .any], []⟩) (fun k => k ≤ p.length ∧ ∀ j, j < k → (p.getD j []).length = 32) (fun k => p.length - k) 0 ⟨Nat.zero_le _, fun j hj => absurd hj (by omega)⟩ (Weak.auto ?_) ?_
  · (repeat' ((conv => whnf); first | exact True.intro | (refine And.intro ?_ ?_)))
    all_goals first | rfl | exact .eq rfl
  rintro k ⟨hk, hall⟩
  (refine sx_sound Γok _ ?_; conv => whnf)
  (repeat (first | (exact Out.same; conv => whnf) | (exact Out1.same; conv => whnf) | (refine QAnd.mk ?_ ?_; conv => whnf) | (apply QStepH.go; conv => whnf) | (refine Both.lit_true ?_; conv => whnf) | (refine Both.lit_false ?_; conv => whnf) | (apply QStep.go; conv => whnf) | (refine Need.au ?_; conv => whnf) | (refine ⟨_, rfl, ?_⟩; conv => whnf)))
  refine Both.dec (fun hlt => ?_) (fun hge => ?_)
  · have hkl : k < p.length := by omega
    have hat := strs_at p hkl
    have hk1 : IntKind.i64.wrap ((k : Int) + 1) = ((k + 1 : Nat) : Int) := by rw [wrap_i64 (by omega) (by omega)]; rfl
    by_cases hs : (p.getD k []).length = 32
    · have c1 : (!decide ((((p.getD k []).length : Nat) : Int) = 32)) = false := by rw [hs]; rfl
      (conv => whnf)
      (repeat (first | (refine ⟨_, hat, ?_⟩; conv => whnf) | (refine CallClo.auto with1_k ?_; conv => whnf) | (refine Both.of_false c1 ?_; conv => whnf) | (exact Out.same; conv => whnf) | (exact Out1.same; conv => whnf) | (refine QAnd.mk ?_ ?_; conv => whnf) | (apply QStepH.go; conv => whnf) | (refine Both.lit_true ?_; conv => whnf) | (refine Both.lit_false ?_; conv => whnf) | (apply QStep.go; conv => whnf) | (refine Need.au ?_; conv => whnf) | (refine ⟨_, rfl, ?_⟩; conv => whnf)))
      refine ⟨k + 1, ⟨hkl, getD_32 p hkl hs hall⟩, by omega, Weak.auto ?_⟩
      (repeat' ((conv => whnf); first | exact True.intro | (refine And.intro ?_ ?_)))
      all_goals first | rfl | exact .eq rfl | exact congrArg (SV.int .i64) hk1
    · have c1 : (!decide ((((p.getD k []).length : Nat) : Int) = 32)) = true := by rw [decide_eq_false (by omega)]; rfl
      have h := h (k : Int) ⟨fun _ q => hs (by
        have := q (p[k]) (List.getElem_mem hkl)
        rw [List.getD_eq_getElem?_getD, List.getElem?_eq_getElem hkl]
        exact this), fun _ => by omega⟩
      (conv => whnf)
      (repeat (first | (refine ⟨_, hat, ?_⟩; conv => whnf) | (refine CallClo.auto with1_k ?_; conv => whnf) | (refine Both.of_true c1 ?_; conv => whnf) | (exact Out.same; conv => whnf) | (exact Out1.same; conv => whnf) | (refine QAnd.mk ?_ ?_; conv => whnf) | (apply QStepH.go; conv => whnf) | (refine Both.lit_true ?_; conv => whnf) | (refine Both.lit_false ?_; conv => whnf) | (apply QStep.go; conv => whnf) | (refine Need.au ?_; conv => whnf) | (refine ⟨_, rfl, ?_⟩; conv => whnf)))
      exact ⟨_, _, WeakV.drop rfl, h⟩
  · have h := h (-1) ⟨fun q => absurd q (by decide), fun q => absurd (fun s hs => by
      obtain ⟨j, hj, rfl⟩ := List.mem_iff_getElem.1 hs
      have := hall j (by omega)
      rw [List.getD_eq_getElem?_getD, List.getElem?_eq_getElem hj] at this
      exact this) q⟩
    (conv => whnf)
    (repeat (first | (exact Out.same; conv => whnf) | (exact Out1.same; conv => whnf) | (refine QAnd.mk ?_ ?_; conv => whnf) | (apply QStepH.go; conv => whnf) | (refine Both.lit_true ?_; conv => whnf) | (refine Both.lit_false ?_; conv => whnf) | (apply QStep.go; conv => whnf) | (refine Need.au ?_; conv => whnf) | (refine ⟨_, rfl, ?_⟩; conv => whnf)))
    exact ⟨_, _, WeakV.drop rfl, h⟩
theorem idx1_k : Contract Tryz.prog [] 92 idx1S := ⟨⟨⟨_, rfl, rfl, rfl⟩⟩, idx1_c⟩
open Classical in
def con1S : Spec := fun args H Q => match args, H with
  | [.sl 1 n cs f, .func (.func 67) []], [] => ∃ p : List Bs, cs = strs p ∧ n = p.length ∧ p.length ≤ 9223372036854775807 ∧ Q (.bool (decide (¬ ∀ s ∈ p, s.length = 32))) []
  | _, _ => False
open Classical in
theorem con1_c : Meets Tryz.prog [] 66 con1S := by
  refine meets_of Γok Tryz.func66 rfl ?_
  intro args H Q h
  unfold con1S at h
  split at h
  case h_2 => exact h.elim
  rename_i n cs f
  obtain ⟨p, rfl, rfl, hp, h⟩ := h
  (refine sx_sound Γok _ ?_; conv => whnf)
  (repeat (first | (exact Out.same; conv => whnf) | (exact Out1.same; conv => whnf) | (refine QAnd.mk ?_ ?_; conv => whnf) | (apply QStepH.go; conv => whnf) | (refine Both.lit_true ?_; conv => whnf) | (refine Both.lit_false ?_; conv => whnf) | (apply QStep.go; conv => whnf) | (refine Need.au ?_; conv => whnf) | (refine ⟨_, rfl, ?_⟩; conv => whnf)))
  refine CallVC.auto idx1_k ⟨p, rfl, rfl, hp, fun r hr => ?_⟩
  have e : decide (0 ≤ r) = decide (¬ ∀ s ∈ p, s.length = 32) := decide_eq_decide.2 hr
  (conv => whnf)
  (repeat (first | (exact Out.same; conv => whnf) | (exact Out1.same; conv => whnf) | (refine QAnd.mk ?_ ?_; conv => whnf) | (apply QStepH.go; conv => whnf) | (refine Both.lit_true ?_; conv => whnf) | (refine Both.lit_false ?_; conv => whnf) | (apply QStep.go; conv => whnf) | (refine Need.au ?_; conv => whnf) | (refine ⟨_, rfl, ?_⟩; conv => whnf)))
  refine ⟨_, _, WeakV.drop rfl, ?_⟩
  exact (congrArg (fun b => Q (SV.bool b) []) e).mpr h
theorem con1_k : Contract Tryz.prog [] 66 con1S := ⟨⟨⟨_, rfl, rfl, rfl⟩⟩, con1_c⟩
open Classical in
def withS : Spec := fun args H Q => match args, H with
  | [.agg [.int .i64 i, .int .i64 c, .str k, .str v, .sl 1 n cs f]], [] => ∃ p : List Bs, cs = strs p ∧ n = p.length ∧ p.length ≤ 9223372036854775807 ∧ Q (.bool (decide (okLf ⟨i, c, k, v, p⟩))) []
  | _, _ => False
open Classical in
theorem with_c : Meets Tryz.prog [] 32 withS := by
  refine meets_of Γok Tryz.func32 rfl ?_
  intro args H Q h
  unfold withS at h
  split at h
  case h_2 => exact h.elim
  rename_i i c k v n cs f
  obtain ⟨p, rfl, rfl, hp, h⟩ := h
  by_cases hb : 0 ≤ i ∧ i ≤ 4096 ∧ 0 ≤ c ∧ c ≤ 4096 ∧ k.length ≤ 16 ∧ v.length ≤ 64 ∧ p.length ≤ 16
  case neg =>
    have hno : decide (okLf ⟨i, c, k, v, p⟩) = false := decide_eq_false fun q => hb ⟨q.i.1, q.i.2, q.c.1, q.c.2, q.k, q.v, q.p⟩
    rw [hno] at h
    (refine sx_sound Γok _ ?_; conv => whnf)
    (repeat (first | (exact Out.same; conv => whnf) | (exact Out1.same; conv => whnf) | (refine QAnd.mk ?_ ?_; conv => whnf) | (apply QStepH.go; conv => whnf) | (refine Both.lit_true ?_; conv => whnf) | (refine Both.lit_false ?_; conv => whnf) | (apply QStep.go; conv => whnf) | (refine Need.au ?_; conv => whnf) | (refine ⟨_, rfl, ?_⟩; conv => whnf)))
    refine Both.dec (fun h1 => ?_) (fun h1 => ?_)
    · (conv => whnf)
      (repeat (first | (exact Out.same; conv => whnf) | (exact Out1.same; conv => whnf) | (refine QAnd.mk ?_ ?_; conv => whnf) | (apply QStepH.go; conv => whnf) | (refine Both.lit_true ?_; conv => whnf) | (refine Both.lit_false ?_; conv => whnf) | (apply QStep.go; conv => whnf) | (refine Need.au ?_; conv => whnf) | (refine ⟨_, rfl, ?_⟩; conv => whnf)))
      exact ⟨_, _, WeakV.drop rfl, h⟩
    (conv => whnf)
    (repeat (first | (exact Out.same; conv => whnf) | (exact Out1.same; conv => whnf) | (refine QAnd.mk ?_ ?_; conv => whnf) | (apply QStepH.go; conv => whnf) | (refine Both.lit_true ?_; conv => whnf) | (refine Both.lit_false ?_; conv => whnf) | (apply QStep.go; conv => whnf) | (refine Need.au ?_; conv => whnf) | (refine ⟨_, rfl, ?_⟩; conv => whnf)))
    refine Both.dec (fun h2 => ?_) (fun h2 => ?_)
    · (conv => whnf)
      (repeat (first | (exact Out.same; conv => whnf) | (exact Out1.same; conv => whnf) | (refine QAnd.mk ?_ ?_; conv => whnf) | (apply QStepH.go; conv => whnf) | (refine Both.lit_true ?_; conv => whnf) | (refine Both.lit_false ?_; conv => whnf) | (apply QStep.go; conv => whnf) | (refine Need.au ?_; conv => whnf) | (refine ⟨_, rfl, ?_⟩; conv => whnf)))
      exact ⟨_, _, WeakV.drop rfl, h⟩
    (conv => whnf)
    (repeat (first | (exact Out.same; conv => whnf) | (exact Out1.same; conv => whnf) | (refine QAnd.mk ?_ ?_; conv => whnf) | (apply QStepH.go; conv => whnf) | (refine Both.lit_true ?_; conv => whnf) | (refine Both.lit_false ?_; conv => whnf) | (apply QStep.go; conv => whnf) | (refine Need.au ?_; conv => whnf) | (refine ⟨_, rfl, ?_⟩; conv => whnf)))
    refine Both.dec (fun h3 => ?_) (fun h3 => ?_)
    · (conv => whnf)
      (repeat (first | (exact Out.same; conv => whnf) | (exact Out1.same; conv => whnf) | (refine QAnd.mk ?_ ?_; conv => whnf) | (apply QStepH.go; conv => whnf) | (refine Both.lit_true ?_; conv => whnf) | (refine Both.lit_false ?_; conv => whnf) | (apply QStep.go; conv => whnf) | (refine Need.au ?_; conv => whnf) | (refine ⟨_, rfl, ?_⟩; conv => whnf)))
      exact ⟨_, _, WeakV.drop rfl, h⟩
    (conv => whnf)
    (repeat (first | (exact Out.same; conv => whnf) | (exact Out1.same; conv => whnf) | (refine QAnd.mk ?_ ?_; conv => whnf) | (apply QStepH.go; conv => whnf) | (refine Both.lit_true ?_; conv => whnf) | (refine Both.lit_false ?_; conv => whnf) | (apply QStep.go; conv => whnf) | (refine Need.au ?_; conv => whnf) | (refine ⟨_, rfl, ?_⟩; conv => whnf)))
    refine Both.dec (fun h4 => ?_) (fun h4 => ?_)
    · (conv => whnf)
      (repeat (first | (exact Out.same; conv => whnf) | (exact Out1.same; conv => whnf) | (refine QAnd.mk ?_ ?_; conv => whnf) | (apply QStepH.go; conv => whnf) | (refine Both.lit_true ?_; conv => whnf) | (refine Both.lit_false ?_; conv => whnf) | (apply QStep.go; conv => whnf) | (refine Need.au ?_; conv => whnf) | (refine ⟨_, rfl, ?_⟩; conv => whnf)))
      exact ⟨_, _, WeakV.drop rfl, h⟩
    (conv => whnf)
    (repeat (first | (exact Out.same; conv => whnf) | (exact Out1.same; conv => whnf) | (refine QAnd.mk ?_ ?_; conv => whnf) | (apply QStepH.go; conv => whnf) | (refine Both.lit_true ?_; conv => whnf) | (refine Both.lit_false ?_; conv => whnf) | (apply QStep.go; conv => whnf) | (refine Need.au ?_; conv => whnf) | (refine ⟨_, rfl, ?_⟩; conv => whnf)))
    refine Both.dec (fun h5 => ?_) (fun h5 => ?_)
    · (conv => whnf)
      (repeat (first | (exact Out.same; conv => whnf) | (exact Out1.same; conv => whnf) | (refine QAnd.mk ?_ ?_; conv => whnf) | (apply QStepH.go; conv => whnf) | (refine Both.lit_true ?_; conv => whnf) | (refine Both.lit_false ?_; conv => whnf) | (apply QStep.go; conv => whnf) | (refine Need.au ?_; conv => whnf) | (refine ⟨_, rfl, ?_⟩; conv => whnf)))
      exact ⟨_, _, WeakV.drop rfl, h⟩
    (conv => whnf)
    (repeat (first | (exact Out.same; conv => whnf) | (exact Out1.same; conv => whnf) | (refine QAnd.mk ?_ ?_; conv => whnf) | (apply QStepH.go; conv => whnf) | (refine Both.lit_true ?_; conv => whnf) | (refine Both.lit_false ?_; conv => whnf) | (apply QStep.go; conv => whnf) | (refine Need.au ?_; conv => whnf) | (refine ⟨_, rfl, ?_⟩; conv => whnf)))
    refine Both.dec (fun h6 => ?_) (fun h6 => ?_)
    · (conv => whnf)
      (repeat (first | (exact Out.same; conv => whnf) | (exact Out1.same; conv => whnf) | (refine QAnd.mk ?_ ?_; conv => whnf) | (apply QStepH.go; conv => whnf) | (refine Both.lit_true ?_; conv => whnf) | (refine Both.lit_false ?_; conv => whnf) | (apply QStep.go; conv => whnf) | (refine Need.au ?_; conv => whnf) | (refine ⟨_, rfl, ?_⟩; conv => whnf)))
      exact ⟨_, _, WeakV.drop rfl, h⟩
    have h7 : decide ((16 : Int) < ((p.length : Nat) : Int)) = true := decide_eq_true (by omega)
    (conv => whnf)
    (repeat (first | (refine Both.of_true h7 ?_; conv => whnf) | (exact Out.same; conv => whnf) | (exact Out1.same; conv => whnf) | (refine QAnd.mk ?_ ?_; conv => whnf) | (apply QStepH.go; conv => whnf) | (refine Both.lit_true ?_; conv => whnf) | (refine Both.lit_false ?_; conv => whnf) | (apply QStep.go; conv => whnf) | (refine Need.au ?_; conv => whnf) | (refine ⟨_, rfl, ?_⟩; conv => whnf)))
    exact ⟨_, _, WeakV.drop rfl, h⟩
  have e1 : decide (i < 0) = false := decide_eq_false (by omega)
  have e2 : decide (4096 < i) = false := decide_eq_false (by omega)
  have e3 : decide (c < 0) = false := decide_eq_false (by omega)
  have e4 : decide (4096 < c) = false := decide_eq_false (by omega)
  have e5 : decide ((16 : Int) < ((k.length : Nat) : Int)) = false := decide_eq_false (by omega)
  have e6 : decide ((64 : Int) < ((v.length : Nat) : Int)) = false := decide_eq_false (by omega)
  have e7 : decide ((16 : Int) < ((p.length : Nat) : Int)) = false := decide_eq_false (by omega)
  have e8 : (!decide (¬ ∀ s ∈ p, s.length = 32)) = decide (okLf ⟨i, c, k, v, p⟩) := by
    by_cases hd : ∀ s ∈ p, s.length = 32
    · rw [decide_eq_false (fun q => q hd), decide_eq_true (show okLf ⟨i, c, k, v, p⟩ from ⟨⟨hb.1, hb.2.1⟩, ⟨hb.2.2.1, hb.2.2.2.1⟩, hb.2.2.2.2.1, hb.2.2.2.2.2.1, hb.2.2.2.2.2.2, hd⟩)]
      rfl
    · rw [decide_eq_true hd, decide_eq_false (fun q : okLf ⟨i, c, k, v, p⟩ => hd q.d)]
      rfl
  (refine sx_sound Γok _ ?_; conv => whnf)
  (repeat (first | (refine Both.of_false e1 ?_; conv => whnf) | (refine Both.of_false e2 ?_; conv => whnf) | (refine Both.of_false e3 ?_; conv => whnf) | (refine Both.of_false e4 ?_; conv => whnf) | (refine Both.of_false e5 ?_; conv => whnf) | (refine Both.of_false e6 ?_; conv => whnf) | (refine Both.of_false e7 ?_; conv => whnf) | (refine CallVC.auto con1_k ⟨p, rfl, rfl, hp, ?_⟩; conv => whnf) | (exact Out.same; conv => whnf) | (exact Out1.same; conv => whnf) | (refine QAnd.mk ?_ ?_; conv => whnf) | (apply QStepH.go; conv => whnf) | (refine Both.lit_true ?_; conv => whnf) | (refine Both.lit_false ?_; conv => whnf) | (apply QStep.go; conv => whnf) | (refine Need.au ?_; conv => whnf) | (refine ⟨_, rfl, ?_⟩; conv => whnf)))
  refine ⟨_, _, WeakV.drop rfl, ?_⟩
  exact (congrArg (fun b => Q (SV.bool b) []) e8).mpr h
theorem with_k : Contract Tryz.prog [] 32 withS := ⟨⟨⟨_, rfl, rfl, rfl⟩⟩, with_c⟩
end Go.LX
end
section
set_option maxRecDepth 100000
set_option maxHeartbeats 2000000
set_option autoImplicit false
set_option linter.unusedVariables false
set_option linter.unusedSimpArgs false
namespace Go.LX
open Go.Proofs

theorem flat32 : ∀ {p : List Bs}, (∀ s ∈ p, s.length = 32) → p.flatten.length = 32 * p.length
  | [], _ => rfl
  | a :: r, h => by rw [List.flatten_cons, List.length_append, h a (List.mem_cons_self ..), flat32 (fun s hs => h s (List.mem_cons_of_mem _ hs)), List.length_cons]; omega
theorem headL_len {x : Lf} (h : okLf x) : (headL x).length ≤ 101 := by
  have h1 := h.k
  have h2 := h.v
  unfold headL
  simp only [List.length_append, beb_length]
  omega
theorem putL_len {x : Lf} (h : okLf x) : (putL x).length ≤ 613 := by
  have h1 := headL_len h
  have h2 := h.p
  unfold putL
  rw [List.length_append, flat32 h.d]
  omega
theorem puts_len : ∀ {L : List Lf}, (∀ x ∈ L, okLf x) → ((L.map putL).flatten).length ≤ 613 * L.length
  | [], _ => Nat.le_refl _
  | a :: r, h => by
    have h1 := putL_len (h a (List.mem_cons_self ..))
    have h2 := puts_len (fun x hx => h x (List.mem_cons_of_mem _ hx))
    rw [List.map_cons, List.flatten_cons, List.length_append, List.length_cons]
    omega
def bytesK (a : Bool) (L : List Lf) (k : Nat) : Bs := [if a then 2 else 1] ++ beb L.length 1 ++ ((L.take k).map putL).flatten
theorem bytesK_succ (a : Bool) {L : List Lf} {k : Nat} (h : k < L.length) : bytesK a L (k + 1) = bytesK a L k ++ putL L[k] := by
  unfold bytesK
  rw [List.take_succ_eq_append_getElem h, List.map_append, List.flatten_append, List.append_assoc, List.append_assoc, List.append_assoc]
  simp
theorem bytesK_all (a : Bool) (L : List Lf) : bytesK a L L.length = bytesX a L := by
  unfold bytesK bytesX
  rw [List.take_length]
def pbytesS : Spec := fun args H Q => match args, H with
  | [.agg [.bool a, .sl 5 n cs f]], [] => ∃ L : List Lf, cs = flL L ∧ n = L.length ∧ L.length ≤ 1000000 ∧ (∀ x ∈ L, x.p.length ≤ 9223372036854775807) ∧ ∀ s e, (s, e) = bytesV a L → Q (.tuple [.str s, .int .i64 e]) []
  | _, _ => False
end Go.LX
end
section
set_option maxRecDepth 100000
set_option maxHeartbeats 2000000
set_option autoImplicit false
set_option linter.unusedVariables false
set_option linter.unusedSimpArgs false
namespace Go.LX
open Go.Proofs

def rtext9S : Spec := fun args H Q => match args, H with
  | [.str s], [] => s.length ≤ 65535 ∧ Q (.str (beb s.length 2 ++ s)) []
  | _, _ => False
theorem rtext9_c : Meets Tryz.prog [] 82 rtext9S := by
  refine meets_of Γok Tryz.func82 rfl ?_
  intro args H Q h
  unfold rtext9S at h
  split at h
  case h_2 => exact h.elim
  rename_i s
  obtain ⟨hs, h⟩ := h
  have hw : IntKind.u64.wrap ((s.length : Nat) : Int) = ((s.length : Nat) : Int) := wrap_u64 (by omega) (by omega)
  have hc : (beb s.length 2).length + s.length ≤ 9223372036854775807 := by rw [beb_length]; omega
  (refine sx_sound Γok _ ?_; conv => whnf)
  (repeat (first | (refine CallVC.auto rb_k ⟨s.length, 2, hw, by omega, rfl, by omega, ?_⟩; conv => whnf) | (refine Need.mk hc ?_; conv => whnf) | (exact Out.same; conv => whnf) | (exact Out1.same; conv => whnf) | (refine QAnd.mk ?_ ?_; conv => whnf) | (apply QStepH.go; conv => whnf) | (refine Both.lit_true ?_; conv => whnf) | (refine Both.lit_false ?_; conv => whnf) | (apply QStep.go; conv => whnf) | (refine Need.au ?_; conv => whnf) | (refine ⟨_, rfl, ?_⟩; conv => whnf)))
  exact ⟨_, _, WeakV.drop rfl, h⟩
theorem rtext9_k : Contract Tryz.prog [] 82 rtext9S := ⟨⟨⟨_, rfl, rfl, rfl⟩⟩, rtext9_c⟩
theorem bytesK_lenK (a : Bool) {L : List Lf} {k : Nat} (h : ∀ j, j < k → okLf (L.getD j lf0)) (hk : k ≤ L.length) (h2 : L.length ≤ 2) : (bytesK a L k).length ≤ 2000 := by
  have := puts_len (L := L.take k) (fun x hx => by
    obtain ⟨t, ht, rfl⟩ := List.mem_iff_getElem.1 hx
    rw [List.getElem_take]
    rw [List.length_take] at ht
    have := h t (by omega)
    rw [List.getD_eq_getElem?_getD, List.getElem?_eq_getElem (by omega)] at this
    exact this)
  rw [List.length_take] at this
  unfold bytesK
  rw [List.length_append, List.length_append, beb_length]
  show 1 + 1 + _ ≤ _
  omega
open Classical in
theorem rbytes9_c : Meets Tryz.prog [] 50 pbytesS := by
  refine meets_of Γok Tryz.func50 rfl ?_
  intro args H Q h
  unfold pbytesS at h
  split at h
  case h_2 => exact h.elim
  rename_i a n cs f
  obtain ⟨L, rfl, rfl, hL, hp, h⟩ := h
  by_cases hbig : 2 < L.length
  · have h := h _ _ (show _ = bytesV a L from (if_neg (fun q : fitsX L => by have := q.1; omega)).symm)
    have c1 : decide ((2 : Int) < ((L.length : Nat) : Int)) = true := decide_eq_true (by omega)
    (refine sx_sound Γok _ ?_; conv => whnf)
    (repeat (first | (refine Both.of_true c1 ?_; conv => whnf) | (exact Out.same; conv => whnf) | (exact Out1.same; conv => whnf) | (refine QAnd.mk ?_ ?_; conv => whnf) | (apply QStepH.go; conv => whnf) | (refine Both.lit_true ?_; conv => whnf) | (refine Both.lit_false ?_; conv => whnf) | (apply QStep.go; conv => whnf) | (refine Need.au ?_; conv => whnf) | (refine ⟨_, rfl, ?_⟩; conv => whnf)))
    exact ⟨_, _, WeakV.drop rfl, h⟩
  have c1 : decide ((2 : Int) < ((L.length : Nat) : Int)) = false := decide_eq_false (by omega)
  have hbad : (∃ x ∈ L, ¬ okLf x) → Q (.tuple [.str [], .int .i64 1]) [] := fun ⟨x, hx, hn⟩ => h _ _ (show _ = bytesV a L from (if_neg (fun q : fitsX L => hn (q.2 x hx))).symm)
  have hgood : (∀ x ∈ L, okLf x) → Q (.tuple [.str (bytesX a L), .int .i64 0]) [] := fun q => h _ _ (show _ = bytesV a L from (if_pos (⟨by omega, q⟩ : fitsX L)).symm)
  clear h
  have hwl : IntKind.u64.wrap ((L.length : Nat) : Int) = ((L.length : Nat) : Int) := wrap_u64 (by omega) (by omega)
  have hl64 : L.length < 18446744073709551616 := by omega
  have h18 : (1 : Nat) ≤ 8 := by omega
  have h88 : (8 : Nat) ≤ 8 := by omega
  have hpg : ∀ k, k < L.length → (L.getD k lf0).p.length ≤ 9223372036854775807 := fun k hk => by
    rw [List.getD_eq_getElem?_getD, List.getElem?_eq_getElem hk]
    exact hp _ (List.getElem_mem hk)
  cases a with
  | true =>
    have ccat : (⟨#[2]⟩ : ByteArray).data.toList.length + (beb L.length 1).length ≤ 9223372036854775807 := by
      rw [beb_length]
      show 1 + 1 ≤ _
      omega
    have hstart : (⟨#[2]⟩ : ByteArray).data.toList ++ beb L.length 1 = bytesK true L 0 := by
      unfold bytesK
      rw [List.take_zero]
      simp
    (refine sx_sound Γok _ ?_; conv => whnf)
    (repeat (first | (refine Both.of_false c1 ?_; conv => whnf) | (refine CallVC.auto rb_k ⟨L.length, 1, hwl, hl64, rfl, h18, ?_⟩; conv => whnf) | (refine Need.mk ccat ?_; conv => whnf) | (exact Out.same; conv => whnf) | (exact Out1.same; conv => whnf) | (refine QAnd.mk ?_ ?_; conv => whnf) | (apply QStepH.go; conv => whnf) | (refine Both.lit_true ?_; conv => whnf) | (refine Both.lit_false ?_; conv => whnf) | (apply QStep.go; conv => whnf) | (refine Need.au ?_; conv => whnf) | (refine ⟨_, rfl, ?_⟩; conv => whnf)))
    refine loop_rule (fun k : Nat => ⟨[.any, .ptr 0 0, .any, .any, .str (bytesK true L k), .int .i64 (k : Int), .any, .any, .any, .any, .any, .any, .any, .any, .any, .any, .any, .any, .any, .any, .any, .any, .any, .any, .any, .any, .any, .any, .any, .any, .any, .any, .any, .any, .any, .any, .any, .any, .any, .any, .any, .any, .any, .any, .any, .any, .any, .any, .any, .any, .any, .any, .any, .any, .any, .any, .any, .any, .any, .any, .any, .any, .any, .any, .any, .any, .any, .any, .any, .any, .any, .any, .any, .any, .any, .any, .any, .any, .any, .any, .any, .any, .any, .any, .any, .any, .any, .any, .any, .any, .any, .any, .any, .any, .any, .any, .any, .any, .any, .any, .any, .any, .any, .any, .any, .any, .any, .any, .any, .any, .any, .any, .any, .any, .any, .any, .any, .any, .any, .any], [.cells [.bool true, .sl 5 L.length (flL L) f] 42]⟩) (fun k => k ≤ L.length ∧ ∀ j, j < k → okLf (L.getD j lf0)) (fun k => L.length - k) 0 ⟨Nat.zero_le _, fun j hj => absurd hj (by omega)⟩ (Weak.auto ?_) ?_
    · (repeat' ((conv => whnf); first | exact True.intro | (refine And.intro ?_ ?_)))
      all_goals first | rfl | exact .eq rfl | exact congrArg SV.str hstart
    rintro k ⟨hk, hall⟩
    have hXl := bytesK_lenK true hall hk (by omega)
    (refine sx_sound Γok _ ?_; conv => whnf)
    (repeat (first | (exact Out.same; conv => whnf) | (exact Out1.same; conv => whnf) | (refine QAnd.mk ?_ ?_; conv => whnf) | (apply QStepH.go; conv => whnf) | (refine Both.lit_true ?_; conv => whnf) | (refine Both.lit_false ?_; conv => whnf) | (apply QStep.go; conv => whnf) | (refine Need.au ?_; conv => whnf) | (refine ⟨_, rfl, ?_⟩; conv => whnf)))
    refine Both.dec (fun hlt => ?_) (fun hge => ?_)
    · have hkl : k < L.length := by omega
      have hat := flL_at L hkl lf0
      have hxp := hpg k hkl
      obtain ⟨x, hx⟩ : ∃ x, L.getD k lf0 = x := ⟨_, rfl⟩
      have hxg : L[k] = x := by rw [← hx, List.getD_eq_getElem?_getD, List.getElem?_eq_getElem hkl]; rfl
      have hxm : x ∈ L := by rw [← hxg]; exact List.getElem_mem hkl
      rw [hx] at hat hxp
      have hat : ((flL L).drop (((k : Nat) : Int).toNat * 5)).take 5 = [CV.int .i64 x.i, .int .i64 x.c, .str x.k, .str x.v, .sl 1 x.p.length (strs x.p) false] := hat
      have hix : ti50.size = 5 ∧ (0 : Int) ≤ (k : Int) ∧ (k : Int) < ((L.length : Nat) : Int) := ⟨rfl, by omega, by omega⟩
      have hk1 : IntKind.i64.wrap ((k : Int) + 1) = ((k + 1 : Nat) : Int) := by rw [wrap_i64 (by omega) (by omega)]; rfl
      have hbx : ¬ okLf x → Q (.tuple [.str [], .int .i64 1]) [] := fun q => hbad ⟨x, hxm, q⟩
      (conv => whnf)
      (repeat (first | (refine Need.mk hix ?_; conv => whnf) | (refine ⟨_, hat, ?_⟩; conv => whnf) | (exact Out.same; conv => whnf) | (exact Out1.same; conv => whnf) | (refine QAnd.mk ?_ ?_; conv => whnf) | (apply QStepH.go; conv => whnf) | (refine Both.lit_true ?_; conv => whnf) | (refine Both.lit_false ?_; conv => whnf) | (apply QStep.go; conv => whnf) | (refine Need.au ?_; conv => whnf) | (refine ⟨_, rfl, ?_⟩; conv => whnf)))
      refine Both.dec (fun b1 => ?_) (fun b1 => ?_)
      · have h := hbx (fun q => by have := q.i.1; omega)
        (conv => whnf)
        (repeat (first | (exact Out.same; conv => whnf) | (exact Out1.same; conv => whnf) | (refine QAnd.mk ?_ ?_; conv => whnf) | (apply QStepH.go; conv => whnf) | (refine Both.lit_true ?_; conv => whnf) | (refine Both.lit_false ?_; conv => whnf) | (apply QStep.go; conv => whnf) | (refine Need.au ?_; conv => whnf) | (refine ⟨_, rfl, ?_⟩; conv => whnf)))
        exact ⟨_, _, WeakV.drop rfl, h⟩
      (conv => whnf)
      (repeat (first | (exact Out.same; conv => whnf) | (exact Out1.same; conv => whnf) | (refine QAnd.mk ?_ ?_; conv => whnf) | (apply QStepH.go; conv => whnf) | (refine Both.lit_true ?_; conv => whnf) | (refine Both.lit_false ?_; conv => whnf) | (apply QStep.go; conv => whnf) | (refine Need.au ?_; conv => whnf) | (refine ⟨_, rfl, ?_⟩; conv => whnf)))
      refine Both.dec (fun b2 => ?_) (fun b2 => ?_)
      · have h := hbx (fun q => by have := q.i.2; omega)
        (conv => whnf)
        (repeat (first | (exact Out.same; conv => whnf) | (exact Out1.same; conv => whnf) | (refine QAnd.mk ?_ ?_; conv => whnf) | (apply QStepH.go; conv => whnf) | (refine Both.lit_true ?_; conv => whnf) | (refine Both.lit_false ?_; conv => whnf) | (apply QStep.go; conv => whnf) | (refine Need.au ?_; conv => whnf) | (refine ⟨_, rfl, ?_⟩; conv => whnf)))
        exact ⟨_, _, WeakV.drop rfl, h⟩
      (conv => whnf)
      (repeat (first | (exact Out.same; conv => whnf) | (exact Out1.same; conv => whnf) | (refine QAnd.mk ?_ ?_; conv => whnf) | (apply QStepH.go; conv => whnf) | (refine Both.lit_true ?_; conv => whnf) | (refine Both.lit_false ?_; conv => whnf) | (apply QStep.go; conv => whnf) | (refine Need.au ?_; conv => whnf) | (refine ⟨_, rfl, ?_⟩; conv => whnf)))
      refine Both.dec (fun b3 => ?_) (fun b3 => ?_)
      · have h := hbx (fun q => by have := q.c.1; omega)
        (conv => whnf)
        (repeat (first | (exact Out.same; conv => whnf) | (exact Out1.same; conv => whnf) | (refine QAnd.mk ?_ ?_; conv => whnf) | (apply QStepH.go; conv => whnf) | (refine Both.lit_true ?_; conv => whnf) | (refine Both.lit_false ?_; conv => whnf) | (apply QStep.go; conv => whnf) | (refine Need.au ?_; conv => whnf) | (refine ⟨_, rfl, ?_⟩; conv => whnf)))
        exact ⟨_, _, WeakV.drop rfl, h⟩
      (conv => whnf)
      (repeat (first | (exact Out.same; conv => whnf) | (exact Out1.same; conv => whnf) | (refine QAnd.mk ?_ ?_; conv => whnf) | (apply QStepH.go; conv => whnf) | (refine Both.lit_true ?_; conv => whnf) | (refine Both.lit_false ?_; conv => whnf) | (apply QStep.go; conv => whnf) | (refine Need.au ?_; conv => whnf) | (refine ⟨_, rfl, ?_⟩; conv => whnf)))
      refine Both.dec (fun b4 => ?_) (fun b4 => ?_)
      · have h := hbx (fun q => by have := q.c.2; omega)
        (conv => whnf)
        (repeat (first | (exact Out.same; conv => whnf) | (exact Out1.same; conv => whnf) | (refine QAnd.mk ?_ ?_; conv => whnf) | (apply QStepH.go; conv => whnf) | (refine Both.lit_true ?_; conv => whnf) | (refine Both.lit_false ?_; conv => whnf) | (apply QStep.go; conv => whnf) | (refine Need.au ?_; conv => whnf) | (refine ⟨_, rfl, ?_⟩; conv => whnf)))
        exact ⟨_, _, WeakV.drop rfl, h⟩
      (conv => whnf)
      (repeat (first | (exact Out.same; conv => whnf) | (exact Out1.same; conv => whnf) | (refine QAnd.mk ?_ ?_; conv => whnf) | (apply QStepH.go; conv => whnf) | (refine Both.lit_true ?_; conv => whnf) | (refine Both.lit_false ?_; conv => whnf) | (apply QStep.go; conv => whnf) | (refine Need.au ?_; conv => whnf) | (refine ⟨_, rfl, ?_⟩; conv => whnf)))
      refine Both.dec (fun b5 => ?_) (fun b5 => ?_)
      · have h := hbx (fun q => by have := q.k; omega)
        (conv => whnf)
        (repeat (first | (exact Out.same; conv => whnf) | (exact Out1.same; conv => whnf) | (refine QAnd.mk ?_ ?_; conv => whnf) | (apply QStepH.go; conv => whnf) | (refine Both.lit_true ?_; conv => whnf) | (refine Both.lit_false ?_; conv => whnf) | (apply QStep.go; conv => whnf) | (refine Need.au ?_; conv => whnf) | (refine ⟨_, rfl, ?_⟩; conv => whnf)))
        exact ⟨_, _, WeakV.drop rfl, h⟩
      (conv => whnf)
      (repeat (first | (exact Out.same; conv => whnf) | (exact Out1.same; conv => whnf) | (refine QAnd.mk ?_ ?_; conv => whnf) | (apply QStepH.go; conv => whnf) | (refine Both.lit_true ?_; conv => whnf) | (refine Both.lit_false ?_; conv => whnf) | (apply QStep.go; conv => whnf) | (refine Need.au ?_; conv => whnf) | (refine ⟨_, rfl, ?_⟩; conv => whnf)))
      refine Both.dec (fun b6 => ?_) (fun b6 => ?_)
      · have h := hbx (fun q => by have := q.v; omega)
        (conv => whnf)
        (repeat (first | (exact Out.same; conv => whnf) | (exact Out1.same; conv => whnf) | (refine QAnd.mk ?_ ?_; conv => whnf) | (apply QStepH.go; conv => whnf) | (refine Both.lit_true ?_; conv => whnf) | (refine Both.lit_false ?_; conv => whnf) | (apply QStep.go; conv => whnf) | (refine Need.au ?_; conv => whnf) | (refine ⟨_, rfl, ?_⟩; conv => whnf)))
        exact ⟨_, _, WeakV.drop rfl, h⟩
      (conv => whnf)
      (repeat (first | (exact Out.same; conv => whnf) | (exact Out1.same; conv => whnf) | (refine QAnd.mk ?_ ?_; conv => whnf) | (apply QStepH.go; conv => whnf) | (refine Both.lit_true ?_; conv => whnf) | (refine Both.lit_false ?_; conv => whnf) | (apply QStep.go; conv => whnf) | (refine Need.au ?_; conv => whnf) | (refine ⟨_, rfl, ?_⟩; conv => whnf)))
      refine Both.dec (fun b7 => ?_) (fun b7 => ?_)
      · have h := hbx (fun q => by have := q.p; omega)
        (conv => whnf)
        (repeat (first | (exact Out.same; conv => whnf) | (exact Out1.same; conv => whnf) | (refine QAnd.mk ?_ ?_; conv => whnf) | (apply QStepH.go; conv => whnf) | (refine Both.lit_true ?_; conv => whnf) | (refine Both.lit_false ?_; conv => whnf) | (apply QStep.go; conv => whnf) | (refine Need.au ?_; conv => whnf) | (refine ⟨_, rfl, ?_⟩; conv => whnf)))
        exact ⟨_, _, WeakV.drop rfl, h⟩
      (conv => whnf)
      (repeat (first | (exact Out.same; conv => whnf) | (exact Out1.same; conv => whnf) | (refine QAnd.mk ?_ ?_; conv => whnf) | (apply QStepH.go; conv => whnf) | (refine Both.lit_true ?_; conv => whnf) | (refine Both.lit_false ?_; conv => whnf) | (apply QStep.go; conv => whnf) | (refine Need.au ?_; conv => whnf) | (refine ⟨_, rfl, ?_⟩; conv => whnf)))
      have hwi : IntKind.u64.wrap x.i = ((x.i.toNat : Nat) : Int) := by rw [wrap_u64 (by omega) (by omega)]; omega
      have hwc : IntKind.u64.wrap x.c = ((x.c.toNat : Nat) : Int) := by rw [wrap_u64 (by omega) (by omega)]; omega
      have hwp : IntKind.u64.wrap ((x.p.length : Nat) : Int) = ((x.p.length : Nat) : Int) := wrap_u64 (by omega) (by omega)
      have li : x.i.toNat < 18446744073709551616 := by omega
      have lc : x.c.toNat < 18446744073709551616 := by omega
      have lp : x.p.length < 18446744073709551616 := by omega
      have lk : x.k.length ≤ 65535 := by omega
      have lv : x.v.length ≤ 65535 := by omega
      obtain ⟨X, hX⟩ : ∃ X, bytesK true L k = X := ⟨_, rfl⟩
      have hnF := bytesK_succ true hkl
      rw [hxg, hX] at hnF
      rw [hX] at hXl ⊢
      have d1 : X.length + (beb x.i.toNat 8).length ≤ 9223372036854775807 := by rw [beb_length]; omega
      have d2 : (X ++ beb x.i.toNat 8).length + (beb x.c.toNat 8).length ≤ 9223372036854775807 := by simp only [List.length_append, beb_length]; omega
      have d3 : (X ++ beb x.i.toNat 8 ++ beb x.c.toNat 8).length + (beb x.k.length 2 ++ x.k).length ≤ 9223372036854775807 := by simp only [List.length_append, beb_length]; omega
      have d4 : (X ++ beb x.i.toNat 8 ++ beb x.c.toNat 8 ++ (beb x.k.length 2 ++ x.k)).length + (beb x.v.length 2 ++ x.v).length ≤ 9223372036854775807 := by simp only [List.length_append, beb_length]; omega
      have d5 : (X ++ beb x.i.toNat 8 ++ beb x.c.toNat 8 ++ (beb x.k.length 2 ++ x.k) ++ (beb x.v.length 2 ++ x.v)).length + (beb x.p.length 1).length ≤ 9223372036854775807 := by simp only [List.length_append, beb_length]; omega
      have hhead : X ++ beb x.i.toNat 8 ++ beb x.c.toNat 8 ++ (beb x.k.length 2 ++ x.k) ++ (beb x.v.length 2 ++ x.v) ++ beb x.p.length 1 = X ++ headL x ++ (x.p.take 0).flatten := by
        unfold headL
        simp only [List.append_assoc, List.take_zero, List.flatten_nil, List.append_nil]
      have hhl : (headL x).length ≤ 101 := by
        unfold headL
        simp only [List.length_append, beb_length]
        omega
      (refine DrawVC.any Γok (by kernel_rfl) (by kernel_rfl) (by kernel_rfl) (by rfl) ?_; conv => whnf)
      (repeat (first | (refine CallVC.auto rb_k ⟨x.i.toNat, 8, hwi, li, rfl, h88, ?_⟩; conv => whnf) | (refine CallVC.auto rb_k ⟨x.c.toNat, 8, hwc, lc, rfl, h88, ?_⟩; conv => whnf) | (refine CallVC.auto rtext9_k ⟨lk, ?_⟩; conv => whnf) | (refine CallVC.auto rtext9_k ⟨lv, ?_⟩; conv => whnf) | (refine CallVC.auto rb_k ⟨x.p.length, 1, hwp, lp, rfl, h18, ?_⟩; conv => whnf) | (refine Need.mk d1 ?_; conv => whnf) | (refine Need.mk d2 ?_; conv => whnf) | (refine Need.mk d3 ?_; conv => whnf) | (refine Need.mk d4 ?_; conv => whnf) | (refine Need.mk d5 ?_; conv => whnf) | (exact Out.same; conv => whnf) | (exact Out1.same; conv => whnf) | (refine QAnd.mk ?_ ?_; conv => whnf) | (apply QStepH.go; conv => whnf) | (refine Both.lit_true ?_; conv => whnf) | (refine Both.lit_false ?_; conv => whnf) | (apply QStep.go; conv => whnf) | (refine Need.au ?_; conv => whnf) | (refine ⟨_, rfl, ?_⟩; conv => whnf)))
      refine loop_rule (fun j : Nat => ⟨[.any, .ptr 0 0, .any, .any, .str (X ++ headL x ++ (x.p.take j).flatten), .int .i64 (k : Int), .ptr 1 0, .int .i64 (j : Int), .any, .any, .any, .any, .any, .any, .any, .any, .any, .any, .any, .any, .any, .any, .any, .any, .any, .any, .any, .any, .any, .any, .any, .any, .any, .any, .any, .any, .any, .any, .any, .any, .any, .any, .any, .any, .any, .any, .any, .any, .any, .any, .any, .any, .any, .any, .any, .any, .any, .any, .any, .any, .any, .any, .any, .any, .any, .any, .any, .any, .any, .any, .any, .any, .any, .any, .any, .any, .any, .any, .any, .any, .any, .any, .any, .any, .any, .any, .any, .any, .any, .any, .any, .any, .any, .any, .any, .any, .any, .any, .any, .any, .any, .any, .any, .any, .any, .any, .any, .any, .any, .any, .any, .any, .any, .any, .any, .any, .any, .any, .any, .any], [.cells [.bool true, .sl 5 L.length (flL L) f] 42, .cells [.int .i64 x.i, .int .i64 x.c, .str x.k, .str x.v, .sl 1 x.p.length (strs x.p) false] 50]⟩) (fun j => j ≤ x.p.length ∧ ∀ t, t < j → (x.p.getD t []).length = 32) (fun j => x.p.length - j) 0 ⟨Nat.zero_le _, fun t ht => absurd ht (by omega)⟩ (Weak.auto ?_) ?_
      · (repeat' ((conv => whnf); first | exact True.intro | (refine And.intro ?_ ?_)))
        all_goals first | rfl | exact .eq rfl | exact congrArg SV.str hhead
      rintro j ⟨hj, hall2⟩
      have hfl : ((x.p.take j).flatten).length = 32 * j := by
        rw [flat32 (fun s hs => by
          obtain ⟨t, ht, rfl⟩ := List.mem_iff_getElem.1 hs
          rw [List.getElem_take]
          have := hall2 t (by rw [List.length_take] at ht; omega)
          rw [List.getD_eq_getElem?_getD, List.getElem?_eq_getElem (by rw [List.length_take] at ht; omega)] at this
          exact this), List.length_take, Nat.min_eq_left hj]
      (refine sx_sound Γok _ ?_; conv => whnf)
      (repeat (first | (exact Out.same; conv => whnf) | (exact Out1.same; conv => whnf) | (refine QAnd.mk ?_ ?_; conv => whnf) | (apply QStepH.go; conv => whnf) | (refine Both.lit_true ?_; conv => whnf) | (refine Both.lit_false ?_; conv => whnf) | (apply QStep.go; conv => whnf) | (refine Need.au ?_; conv => whnf) | (refine ⟨_, rfl, ?_⟩; conv => whnf)))
      refine Both.dec (fun hjl => ?_) (fun hjg => ?_)
      · have hjn : j < x.p.length := by omega
        have hat2 := strs_at x.p hjn
        have hj1 : IntKind.i64.wrap ((j : Int) + 1) = ((j + 1 : Nat) : Int) := by rw [wrap_i64 (by omega) (by omega)]; rfl
        have hgd : x.p.getD j [] = x.p[j] := by rw [List.getD_eq_getElem?_getD, List.getElem?_eq_getElem hjn]; rfl
        have hnext : X ++ headL x ++ (x.p.take j).flatten ++ x.p.getD j [] = X ++ headL x ++ (x.p.take (j + 1)).flatten := by
          rw [List.take_succ_eq_append_getElem hjn, List.flatten_append, hgd]
          simp
        by_cases hd : (x.p.getD j []).length = 32
        · have cd : (!decide ((((x.p.getD j []).length : Nat) : Int) = 32)) = false := by rw [hd]; rfl
          have dj : (X ++ headL x ++ (x.p.take j).flatten).length + (x.p.getD j []).length ≤ 9223372036854775807 := by rw [List.length_append, List.length_append, hfl]; omega
          (conv => whnf)
          (repeat (first | (refine ⟨_, hat2, ?_⟩; conv => whnf) | (refine Both.of_false cd ?_; conv => whnf) | (refine Need.mk dj ?_; conv => whnf) | (exact Out.same; conv => whnf) | (exact Out1.same; conv => whnf) | (refine QAnd.mk ?_ ?_; conv => whnf) | (apply QStepH.go; conv => whnf) | (refine Both.lit_true ?_; conv => whnf) | (refine Both.lit_false ?_; conv => whnf) | (apply QStep.go; conv => whnf) | (refine Need.au ?_; conv => whnf) | (refine ⟨_, rfl, ?_⟩; conv => whnf)))
          refine ⟨j + 1, ⟨hjn, getD_32 x.p hjn hd hall2⟩, by omega, Weak.auto ?_⟩
          (repeat' ((conv => whnf); first | exact True.intro | (refine And.intro ?_ ?_)))
          all_goals first | rfl | exact .eq rfl | exact congrArg (SV.int .i64) hj1 | exact congrArg SV.str hnext
        · have cd : (!decide ((((x.p.getD j []).length : Nat) : Int) = 32)) = true := by rw [decide_eq_false (by omega)]; rfl
          have h := hbx (fun q => hd (by rw [hgd]; exact q.d _ (List.getElem_mem hjn)))
          (conv => whnf)
          (repeat (first | (refine ⟨_, hat2, ?_⟩; conv => whnf) | (refine Both.of_true cd ?_; conv => whnf) | (exact Out.same; conv => whnf) | (exact Out1.same; conv => whnf) | (refine QAnd.mk ?_ ?_; conv => whnf) | (apply QStepH.go; conv => whnf) | (refine Both.lit_true ?_; conv => whnf) | (refine Both.lit_false ?_; conv => whnf) | (apply QStep.go; conv => whnf) | (refine Need.au ?_; conv => whnf) | (refine ⟨_, rfl, ?_⟩; conv => whnf)))
          exact ⟨_, _, WeakV.drop rfl, h⟩
      have hjn : j = x.p.length := by omega
      subst hjn
      have hxo : okLf x := ⟨⟨by omega, by omega⟩, ⟨by omega, by omega⟩, by omega, by omega, by omega, fun s hs => by
        obtain ⟨t, ht, rfl⟩ := List.mem_iff_getElem.1 hs
        have := hall2 t ht
        rw [List.getD_eq_getElem?_getD, List.getElem?_eq_getElem ht] at this
        exact this⟩
      have hnx : X ++ headL x ++ (x.p.take x.p.length).flatten = bytesK true L (k + 1) := by
        rw [hnF, List.take_length, List.append_assoc]
        rfl
      have hall3 : ∀ t, t < k + 1 → okLf (L.getD t lf0) := fun t ht => by
        rcases Nat.lt_or_ge t k with q | q
        · exact hall t q
        · rw [show t = k by omega, hx]
          exact hxo
      (conv => whnf)
      (repeat (first | (exact Out.same; conv => whnf) | (exact Out1.same; conv => whnf) | (refine QAnd.mk ?_ ?_; conv => whnf) | (apply QStepH.go; conv => whnf) | (refine Both.lit_true ?_; conv => whnf) | (refine Both.lit_false ?_; conv => whnf) | (apply QStep.go; conv => whnf) | (refine Need.au ?_; conv => whnf) | (refine ⟨_, rfl, ?_⟩; conv => whnf)))
      refine ⟨k + 1, ⟨hkl, hall3⟩, by omega, Weak.auto ?_⟩
      (repeat' ((conv => whnf); first | exact True.intro | (refine And.intro ?_ ?_)))
      all_goals first | rfl | exact .eq rfl | exact congrArg (SV.int .i64) hk1 | exact congrArg SV.str hnx
    have hkn : k = L.length := by omega
    subst hkn
    have h := hgood (fun x hx => by
      obtain ⟨t, ht, rfl⟩ := List.mem_iff_getElem.1 hx
      have := hall t ht
      rw [List.getD_eq_getElem?_getD, List.getElem?_eq_getElem ht] at this
      exact this)
    rw [← bytesK_all] at h
    (conv => whnf)
    (repeat (first | (exact Out.same; conv => whnf) | (exact Out1.same; conv => whnf) | (refine QAnd.mk ?_ ?_; conv => whnf) | (apply QStepH.go; conv => whnf) | (refine Both.lit_true ?_; conv => whnf) | (refine Both.lit_false ?_; conv => whnf) | (apply QStep.go; conv => whnf) | (refine Need.au ?_; conv => whnf) | (refine ⟨_, rfl, ?_⟩; conv => whnf)))
    exact ⟨_, _, WeakV.drop rfl, h⟩
  | false =>
    have ccat : (⟨#[1]⟩ : ByteArray).data.toList.length + (beb L.length 1).length ≤ 9223372036854775807 := by
      rw [beb_length]
      show 1 + 1 ≤ _
      omega
    have hstart : (⟨#[1]⟩ : ByteArray).data.toList ++ beb L.length 1 = bytesK false L 0 := by
      unfold bytesK
      rw [List.take_zero]
      simp
    (refine sx_sound Γok _ ?_; conv => whnf)
    (repeat (first | (refine Both.of_false c1 ?_; conv => whnf) | (refine CallVC.auto rb_k ⟨L.length, 1, hwl, hl64, rfl, h18, ?_⟩; conv => whnf) | (refine Need.mk ccat ?_; conv => whnf) | (exact Out.same; conv => whnf) | (exact Out1.same; conv => whnf) | (refine QAnd.mk ?_ ?_; conv => whnf) | (apply QStepH.go; conv => whnf) | (refine Both.lit_true ?_; conv => whnf) | (refine Both.lit_false ?_; conv => whnf) | (apply QStep.go; conv => whnf) | (refine Need.au ?_; conv => whnf) | (refine ⟨_, rfl, ?_⟩; conv => whnf)))
    refine loop_rule (fun k : Nat => ⟨[.any, .ptr 0 0, .any, .any, .str (bytesK false L k), .int .i64 (k : Int), .any, .any, .any, .any, .any, .any, .any, .any, .any, .any, .any, .any, .any, .any, .any, .any, .any, .any, .any, .any, .any, .any, .any, .any, .any, .any, .any, .any, .any, .any, .any, .any, .any, .any, .any, .any, .any, .any, .any, .any, .any, .any, .any, .any, .any, .any, .any, .any, .any, .any, .any, .any, .any, .any, .any, .any, .any, .any, .any, .any, .any, .any, .any, .any, .any, .any, .any, .any, .any, .any, .any, .any, .any, .any, .any, .any, .any, .any, .any, .any, .any, .any, .any, .any, .any, .any, .any, .any, .any, .any, .any, .any, .any, .any, .any, .any, .any, .any, .any, .any, .any, .any, .any, .any, .any, .any, .any, .any, .any, .any, .any, .any, .any, .any], [.cells [.bool false, .sl 5 L.length (flL L) f] 42]⟩) (fun k => k ≤ L.length ∧ ∀ j, j < k → okLf (L.getD j lf0)) (fun k => L.length - k) 0 ⟨Nat.zero_le _, fun j hj => absurd hj (by omega)⟩ (Weak.auto ?_) ?_
    · (repeat' ((conv => whnf); first | exact True.intro | (refine And.intro ?_ ?_)))
      all_goals first | rfl | exact .eq rfl | exact congrArg SV.str hstart
    rintro k ⟨hk, hall⟩
    have hXl := bytesK_lenK false hall hk (by omega)
    (refine sx_sound Γok _ ?_; conv => whnf)
    (repeat (first | (exact Out.same; conv => whnf) | (exact Out1.same; conv => whnf) | (refine QAnd.mk ?_ ?_; conv => whnf) | (apply QStepH.go; conv => whnf) | (refine Both.lit_true ?_; conv => whnf) | (refine Both.lit_false ?_; conv => whnf) | (apply QStep.go; conv => whnf) | (refine Need.au ?_; conv => whnf) | (refine ⟨_, rfl, ?_⟩; conv => whnf)))
    refine Both.dec (fun hlt => ?_) (fun hge => ?_)
    · have hkl : k < L.length := by omega
      have hat := flL_at L hkl lf0
      have hxp := hpg k hkl
      obtain ⟨x, hx⟩ : ∃ x, L.getD k lf0 = x := ⟨_, rfl⟩
      have hxg : L[k] = x := by rw [← hx, List.getD_eq_getElem?_getD, List.getElem?_eq_getElem hkl]; rfl
      have hxm : x ∈ L := by rw [← hxg]; exact List.getElem_mem hkl
      rw [hx] at hat hxp
      have hat : ((flL L).drop (((k : Nat) : Int).toNat * 5)).take 5 = [CV.int .i64 x.i, .int .i64 x.c, .str x.k, .str x.v, .sl 1 x.p.length (strs x.p) false] := hat
      have hix : ti50.size = 5 ∧ (0 : Int) ≤ (k : Int) ∧ (k : Int) < ((L.length : Nat) : Int) := ⟨rfl, by omega, by omega⟩
      have hk1 : IntKind.i64.wrap ((k : Int) + 1) = ((k + 1 : Nat) : Int) := by rw [wrap_i64 (by omega) (by omega)]; rfl
      have hbx : ¬ okLf x → Q (.tuple [.str [], .int .i64 1]) [] := fun q => hbad ⟨x, hxm, q⟩
      (conv => whnf)
      (repeat (first | (refine Need.mk hix ?_; conv => whnf) | (refine ⟨_, hat, ?_⟩; conv => whnf) | (exact Out.same; conv => whnf) | (exact Out1.same; conv => whnf) | (refine QAnd.mk ?_ ?_; conv => whnf) | (apply QStepH.go; conv => whnf) | (refine Both.lit_true ?_; conv => whnf) | (refine Both.lit_false ?_; conv => whnf) | (apply QStep.go; conv => whnf) | (refine Need.au ?_; conv => whnf) | (refine ⟨_, rfl, ?_⟩; conv => whnf)))
      refine Both.dec (fun b1 => ?_) (fun b1 => ?_)
      · have h := hbx (fun q => by have := q.i.1; omega)
        (conv => whnf)
        (repeat (first | (exact Out.same; conv => whnf) | (exact Out1.same; conv => whnf) | (refine QAnd.mk ?_ ?_; conv => whnf) | (apply QStepH.go; conv => whnf) | (refine Both.lit_true ?_; conv => whnf) | (refine Both.lit_false ?_; conv => whnf) | (apply QStep.go; conv => whnf) | (refine Need.au ?_; conv => whnf) | (refine ⟨_, rfl, ?_⟩; conv => whnf)))
        exact ⟨_, _, WeakV.drop rfl, h⟩
      (conv => whnf)
      (repeat (first | (exact Out.same; conv => whnf) | (exact Out1.same; conv => whnf) | (refine QAnd.mk ?_ ?_; conv => whnf) | (apply QStepH.go; conv => whnf) | (refine Both.lit_true ?_; conv => whnf) | (refine Both.lit_false ?_; conv => whnf) | (apply QStep.go; conv => whnf) | (refine Need.au ?_; conv => whnf) | (refine ⟨_, rfl, ?_⟩; conv => whnf)))
      refine Both.dec (fun b2 => ?_) (fun b2 => ?_)
      · have h := hbx (fun q => by have := q.i.2; omega)
        (conv => whnf)
        (repeat (first | (exact Out.same; conv => whnf) | (exact Out1.same; conv => whnf) | (refine QAnd.mk ?_ ?_; conv => whnf) | (apply QStepH.go; conv => whnf) | (refine Both.lit_true ?_; conv => whnf) | (refine Both.lit_false ?_; conv => whnf) | (apply QStep.go; conv => whnf) | (refine Need.au ?_; conv => whnf) | (refine ⟨_, rfl, ?_⟩; conv => whnf)))
        exact ⟨_, _, WeakV.drop rfl, h⟩
      (conv => whnf)
      (repeat (first | (exact Out.same; conv => whnf) | (exact Out1.same; conv => whnf) | (refine QAnd.mk ?_ ?_; conv => whnf) | (apply QStepH.go; conv => whnf) | (refine Both.lit_true ?_; conv => whnf) | (refine Both.lit_false ?_; conv => whnf) | (apply QStep.go; conv => whnf) | (refine Need.au ?_; conv => whnf) | (refine ⟨_, rfl, ?_⟩; conv => whnf)))
      refine Both.dec (fun b3 => ?_) (fun b3 => ?_)
      · have h := hbx (fun q => by have := q.c.1; omega)
        (conv => whnf)
        (repeat (first | (exact Out.same; conv => whnf) | (exact Out1.same; conv => whnf) | (refine QAnd.mk ?_ ?_; conv => whnf) | (apply QStepH.go; conv => whnf) | (refine Both.lit_true ?_; conv => whnf) | (refine Both.lit_false ?_; conv => whnf) | (apply QStep.go; conv => whnf) | (refine Need.au ?_; conv => whnf) | (refine ⟨_, rfl, ?_⟩; conv => whnf)))
        exact ⟨_, _, WeakV.drop rfl, h⟩
      (conv => whnf)
      (repeat (first | (exact Out.same; conv => whnf) | (exact Out1.same; conv => whnf) | (refine QAnd.mk ?_ ?_; conv => whnf) | (apply QStepH.go; conv => whnf) | (refine Both.lit_true ?_; conv => whnf) | (refine Both.lit_false ?_; conv => whnf) | (apply QStep.go; conv => whnf) | (refine Need.au ?_; conv => whnf) | (refine ⟨_, rfl, ?_⟩; conv => whnf)))
      refine Both.dec (fun b4 => ?_) (fun b4 => ?_)
      · have h := hbx (fun q => by have := q.c.2; omega)
        (conv => whnf)
        (repeat (first | (exact Out.same; conv => whnf) | (exact Out1.same; conv => whnf) | (refine QAnd.mk ?_ ?_; conv => whnf) | (apply QStepH.go; conv => whnf) | (refine Both.lit_true ?_; conv => whnf) | (refine Both.lit_false ?_; conv => whnf) | (apply QStep.go; conv => whnf) | (refine Need.au ?_; conv => whnf) | (refine ⟨_, rfl, ?_⟩; conv => whnf)))
        exact ⟨_, _, WeakV.drop rfl, h⟩
      (conv => whnf)
      (repeat (first | (exact Out.same; conv => whnf) | (exact Out1.same; conv => whnf) | (refine QAnd.mk ?_ ?_; conv => whnf) | (apply QStepH.go; conv => whnf) | (refine Both.lit_true ?_; conv => whnf) | (refine Both.lit_false ?_; conv => whnf) | (apply QStep.go; conv => whnf) | (refine Need.au ?_; conv => whnf) | (refine ⟨_, rfl, ?_⟩; conv => whnf)))
      refine Both.dec (fun b5 => ?_) (fun b5 => ?_)
      · have h := hbx (fun q => by have := q.k; omega)
        (conv => whnf)
        (repeat (first | (exact Out.same; conv => whnf) | (exact Out1.same; conv => whnf) | (refine QAnd.mk ?_ ?_; conv => whnf) | (apply QStepH.go; conv => whnf) | (refine Both.lit_true ?_; conv => whnf) | (refine Both.lit_false ?_; conv => whnf) | (apply QStep.go; conv => whnf) | (refine Need.au ?_; conv => whnf) | (refine ⟨_, rfl, ?_⟩; conv => whnf)))
        exact ⟨_, _, WeakV.drop rfl, h⟩
      (conv => whnf)
      (repeat (first | (exact Out.same; conv => whnf) | (exact Out1.same; conv => whnf) | (refine QAnd.mk ?_ ?_; conv => whnf) | (apply QStepH.go; conv => whnf) | (refine Both.lit_true ?_; conv => whnf) | (refine Both.lit_false ?_; conv => whnf) | (apply QStep.go; conv => whnf) | (refine Need.au ?_; conv => whnf) | (refine ⟨_, rfl, ?_⟩; conv => whnf)))
      refine Both.dec (fun b6 => ?_) (fun b6 => ?_)
      · have h := hbx (fun q => by have := q.v; omega)
        (conv => whnf)
        (repeat (first | (exact Out.same; conv => whnf) | (exact Out1.same; conv => whnf) | (refine QAnd.mk ?_ ?_; conv => whnf) | (apply QStepH.go; conv => whnf) | (refine Both.lit_true ?_; conv => whnf) | (refine Both.lit_false ?_; conv => whnf) | (apply QStep.go; conv => whnf) | (refine Need.au ?_; conv => whnf) | (refine ⟨_, rfl, ?_⟩; conv => whnf)))
        exact ⟨_, _, WeakV.drop rfl, h⟩
      (conv => whnf)
      (repeat (first | (exact Out.same; conv => whnf) | (exact Out1.same; conv => whnf) | (refine QAnd.mk ?_ ?_; conv => whnf) | (apply QStepH.go; conv => whnf) | (refine Both.lit_true ?_; conv => whnf) | (refine Both.lit_false ?_; conv => whnf) | (apply QStep.go; conv => whnf) | (refine Need.au ?_; conv => whnf) | (refine ⟨_, rfl, ?_⟩; conv => whnf)))
      refine Both.dec (fun b7 => ?_) (fun b7 => ?_)
      · have h := hbx (fun q => by have := q.p; omega)
        (conv => whnf)
        (repeat (first | (exact Out.same; conv => whnf) | (exact Out1.same; conv => whnf) | (refine QAnd.mk ?_ ?_; conv => whnf) | (apply QStepH.go; conv => whnf) | (refine Both.lit_true ?_; conv => whnf) | (refine Both.lit_false ?_; conv => whnf) | (apply QStep.go; conv => whnf) | (refine Need.au ?_; conv => whnf) | (refine ⟨_, rfl, ?_⟩; conv => whnf)))
        exact ⟨_, _, WeakV.drop rfl, h⟩
      (conv => whnf)
      (repeat (first | (exact Out.same; conv => whnf) | (exact Out1.same; conv => whnf) | (refine QAnd.mk ?_ ?_; conv => whnf) | (apply QStepH.go; conv => whnf) | (refine Both.lit_true ?_; conv => whnf) | (refine Both.lit_false ?_; conv => whnf) | (apply QStep.go; conv => whnf) | (refine Need.au ?_; conv => whnf) | (refine ⟨_, rfl, ?_⟩; conv => whnf)))
      have hwi : IntKind.u64.wrap x.i = ((x.i.toNat : Nat) : Int) := by rw [wrap_u64 (by omega) (by omega)]; omega
      have hwc : IntKind.u64.wrap x.c = ((x.c.toNat : Nat) : Int) := by rw [wrap_u64 (by omega) (by omega)]; omega
      have hwp : IntKind.u64.wrap ((x.p.length : Nat) : Int) = ((x.p.length : Nat) : Int) := wrap_u64 (by omega) (by omega)
      have li : x.i.toNat < 18446744073709551616 := by omega
      have lc : x.c.toNat < 18446744073709551616 := by omega
      have lp : x.p.length < 18446744073709551616 := by omega
      have lk : x.k.length ≤ 65535 := by omega
      have lv : x.v.length ≤ 65535 := by omega
      obtain ⟨X, hX⟩ : ∃ X, bytesK false L k = X := ⟨_, rfl⟩
      have hnF := bytesK_succ false hkl
      rw [hxg, hX] at hnF
      rw [hX] at hXl ⊢
      have d1 : X.length + (beb x.i.toNat 8).length ≤ 9223372036854775807 := by rw [beb_length]; omega
      have d2 : (X ++ beb x.i.toNat 8).length + (beb x.c.toNat 8).length ≤ 9223372036854775807 := by simp only [List.length_append, beb_length]; omega
      have d3 : (X ++ beb x.i.toNat 8 ++ beb x.c.toNat 8).length + (beb x.k.length 2 ++ x.k).length ≤ 9223372036854775807 := by simp only [List.length_append, beb_length]; omega
      have d4 : (X ++ beb x.i.toNat 8 ++ beb x.c.toNat 8 ++ (beb x.k.length 2 ++ x.k)).length + (beb x.v.length 2 ++ x.v).length ≤ 9223372036854775807 := by simp only [List.length_append, beb_length]; omega
      have d5 : (X ++ beb x.i.toNat 8 ++ beb x.c.toNat 8 ++ (beb x.k.length 2 ++ x.k) ++ (beb x.v.length 2 ++ x.v)).length + (beb x.p.length 1).length ≤ 9223372036854775807 := by simp only [List.length_append, beb_length]; omega
      have hhead : X ++ beb x.i.toNat 8 ++ beb x.c.toNat 8 ++ (beb x.k.length 2 ++ x.k) ++ (beb x.v.length 2 ++ x.v) ++ beb x.p.length 1 = X ++ headL x ++ (x.p.take 0).flatten := by
        unfold headL
        simp only [List.append_assoc, List.take_zero, List.flatten_nil, List.append_nil]
      have hhl : (headL x).length ≤ 101 := by
        unfold headL
        simp only [List.length_append, beb_length]
        omega
      (refine DrawVC.any Γok (by kernel_rfl) (by kernel_rfl) (by kernel_rfl) (by rfl) ?_; conv => whnf)
      (repeat (first | (refine CallVC.auto rb_k ⟨x.i.toNat, 8, hwi, li, rfl, h88, ?_⟩; conv => whnf) | (refine CallVC.auto rb_k ⟨x.c.toNat, 8, hwc, lc, rfl, h88, ?_⟩; conv => whnf) | (refine CallVC.auto rtext9_k ⟨lk, ?_⟩; conv => whnf) | (refine CallVC.auto rtext9_k ⟨lv, ?_⟩; conv => whnf) | (refine CallVC.auto rb_k ⟨x.p.length, 1, hwp, lp, rfl, h18, ?_⟩; conv => whnf) | (refine Need.mk d1 ?_; conv => whnf) | (refine Need.mk d2 ?_; conv => whnf) | (refine Need.mk d3 ?_; conv => whnf) | (refine Need.mk d4 ?_; conv => whnf) | (refine Need.mk d5 ?_; conv => whnf) | (exact Out.same; conv => whnf) | (exact Out1.same; conv => whnf) | (refine QAnd.mk ?_ ?_; conv => whnf) | (apply QStepH.go; conv => whnf) | (refine Both.lit_true ?_; conv => whnf) | (refine Both.lit_false ?_; conv => whnf) | (apply QStep.go; conv => whnf) | (refine Need.au ?_; conv => whnf) | (refine ⟨_, rfl, ?_⟩; conv => whnf)))
      refine loop_rule (fun j : Nat => ⟨[.any, .ptr 0 0, .any, .any, .str (X ++ headL x ++ (x.p.take j).flatten), .int .i64 (k : Int), .ptr 1 0, .int .i64 (j : Int), .any, .any, .any, .any, .any, .any, .any, .any, .any, .any, .any, .any, .any, .any, .any, .any, .any, .any, .any, .any, .any, .any, .any, .any, .any, .any, .any, .any, .any, .any, .any, .any, .any, .any, .any, .any, .any, .any, .any, .any, .any, .any, .any, .any, .any, .any, .any, .any, .any, .any, .any, .any, .any, .any, .any, .any, .any, .any, .any, .any, .any, .any, .any, .any, .any, .any, .any, .any, .any, .any, .any, .any, .any, .any, .any, .any, .any, .any, .any, .any, .any, .any, .any, .any, .any, .any, .any, .any, .any, .any, .any, .any, .any, .any, .any, .any, .any, .any, .any, .any, .any, .any, .any, .any, .any, .any, .any, .any, .any, .any, .any, .any], [.cells [.bool false, .sl 5 L.length (flL L) f] 42, .cells [.int .i64 x.i, .int .i64 x.c, .str x.k, .str x.v, .sl 1 x.p.length (strs x.p) false] 50]⟩) (fun j => j ≤ x.p.length ∧ ∀ t, t < j → (x.p.getD t []).length = 32) (fun j => x.p.length - j) 0 ⟨Nat.zero_le _, fun t ht => absurd ht (by omega)⟩ (Weak.auto ?_) ?_
      · (repeat' ((conv => whnf); first | exact True.intro | (refine And.intro ?_ ?_)))
        all_goals first | rfl | exact .eq rfl | exact congrArg SV.str hhead
      rintro j ⟨hj, hall2⟩
      have hfl : ((x.p.take j).flatten).length = 32 * j := by
        rw [flat32 (fun s hs => by
          obtain ⟨t, ht, rfl⟩ := List.mem_iff_getElem.1 hs
          rw [List.getElem_take]
          have := hall2 t (by rw [List.length_take] at ht; omega)
          rw [List.getD_eq_getElem?_getD, List.getElem?_eq_getElem (by rw [List.length_take] at ht; omega)] at this
          exact this), List.length_take, Nat.min_eq_left hj]
      (refine sx_sound Γok _ ?_; conv => whnf)
      (repeat (first | (exact Out.same; conv => whnf) | (exact Out1.same; conv => whnf) | (refine QAnd.mk ?_ ?_; conv => whnf) | (apply QStepH.go; conv => whnf) | (refine Both.lit_true ?_; conv => whnf) | (refine Both.lit_false ?_; conv => whnf) | (apply QStep.go; conv => whnf) | (refine Need.au ?_; conv => whnf) | (refine ⟨_, rfl, ?_⟩; conv => whnf)))
      refine Both.dec (fun hjl => ?_) (fun hjg => ?_)
      · have hjn : j < x.p.length := by omega
        have hat2 := strs_at x.p hjn
        have hj1 : IntKind.i64.wrap ((j : Int) + 1) = ((j + 1 : Nat) : Int) := by rw [wrap_i64 (by omega) (by omega)]; rfl
        have hgd : x.p.getD j [] = x.p[j] := by rw [List.getD_eq_getElem?_getD, List.getElem?_eq_getElem hjn]; rfl
        have hnext : X ++ headL x ++ (x.p.take j).flatten ++ x.p.getD j [] = X ++ headL x ++ (x.p.take (j + 1)).flatten := by
          rw [List.take_succ_eq_append_getElem hjn, List.flatten_append, hgd]
          simp
        by_cases hd : (x.p.getD j []).length = 32
        · have cd : (!decide ((((x.p.getD j []).length : Nat) : Int) = 32)) = false := by rw [hd]; rfl
          have dj : (X ++ headL x ++ (x.p.take j).flatten).length + (x.p.getD j []).length ≤ 9223372036854775807 := by rw [List.length_append, List.length_append, hfl]; omega
          (conv => whnf)
          (repeat (first | (refine ⟨_, hat2, ?_⟩; conv => whnf) | (refine Both.of_false cd ?_; conv => whnf) | (refine Need.mk dj ?_; conv => whnf) | (exact Out.same; conv => whnf) | (exact Out1.same; conv => whnf) | (refine QAnd.mk ?_ ?_; conv => whnf) | (apply QStepH.go; conv => whnf) | (refine Both.lit_true ?_; conv => whnf) | (refine Both.lit_false ?_; conv => whnf) | (apply QStep.go; conv => whnf) | (refine Need.au ?_; conv => whnf) | (refine ⟨_, rfl, ?_⟩; conv => whnf)))
          refine ⟨j + 1, ⟨hjn, getD_32 x.p hjn hd hall2⟩, by omega, Weak.auto ?_⟩
          (repeat' ((conv => whnf); first | exact True.intro | (refine And.intro ?_ ?_)))
          all_goals first | rfl | exact .eq rfl | exact congrArg (SV.int .i64) hj1 | exact congrArg SV.str hnext
        · have cd : (!decide ((((x.p.getD j []).length : Nat) : Int) = 32)) = true := by rw [decide_eq_false (by omega)]; rfl
          have h := hbx (fun q => hd (by rw [hgd]; exact q.d _ (List.getElem_mem hjn)))
          (conv => whnf)
          (repeat (first | (refine ⟨_, hat2, ?_⟩; conv => whnf) | (refine Both.of_true cd ?_; conv => whnf) | (exact Out.same; conv => whnf) | (exact Out1.same; conv => whnf) | (refine QAnd.mk ?_ ?_; conv => whnf) | (apply QStepH.go; conv => whnf) | (refine Both.lit_true ?_; conv => whnf) | (refine Both.lit_false ?_; conv => whnf) | (apply QStep.go; conv => whnf) | (refine Need.au ?_; conv => whnf) | (refine ⟨_, rfl, ?_⟩; conv => whnf)))
          exact ⟨_, _, WeakV.drop rfl, h⟩
      have hjn : j = x.p.length := by omega
      subst hjn
      have hxo : okLf x := ⟨⟨by omega, by omega⟩, ⟨by omega, by omega⟩, by omega, by omega, by omega, fun s hs => by
        obtain ⟨t, ht, rfl⟩ := List.mem_iff_getElem.1 hs
        have := hall2 t ht
        rw [List.getD_eq_getElem?_getD, List.getElem?_eq_getElem ht] at this
        exact this⟩
      have hnx : X ++ headL x ++ (x.p.take x.p.length).flatten = bytesK false L (k + 1) := by
        rw [hnF, List.take_length, List.append_assoc]
        rfl
      have hall3 : ∀ t, t < k + 1 → okLf (L.getD t lf0) := fun t ht => by
        rcases Nat.lt_or_ge t k with q | q
        · exact hall t q
        · rw [show t = k by omega, hx]
          exact hxo
      (conv => whnf)
      (repeat (first | (exact Out.same; conv => whnf) | (exact Out1.same; conv => whnf) | (refine QAnd.mk ?_ ?_; conv => whnf) | (apply QStepH.go; conv => whnf) | (refine Both.lit_true ?_; conv => whnf) | (refine Both.lit_false ?_; conv => whnf) | (apply QStep.go; conv => whnf) | (refine Need.au ?_; conv => whnf) | (refine ⟨_, rfl, ?_⟩; conv => whnf)))
      refine ⟨k + 1, ⟨hkl, hall3⟩, by omega, Weak.auto ?_⟩
      (repeat' ((conv => whnf); first | exact True.intro | (refine And.intro ?_ ?_)))
      all_goals first | rfl | exact .eq rfl | exact congrArg (SV.int .i64) hk1 | exact congrArg SV.str hnx
    have hkn : k = L.length := by omega
    subst hkn
    have h := hgood (fun x hx => by
      obtain ⟨t, ht, rfl⟩ := List.mem_iff_getElem.1 hx
      have := hall t ht
      rw [List.getD_eq_getElem?_getD, List.getElem?_eq_getElem ht] at this
      exact this)
    rw [← bytesK_all] at h
    (conv => whnf)
    (repeat (first | (exact Out.same; conv => whnf) | (exact Out1.same; conv => whnf) | (refine QAnd.mk ?_ ?_; conv => whnf) | (apply QStepH.go; conv => whnf) | (refine Both.lit_true ?_; conv => whnf) | (refine Both.lit_false ?_; conv => whnf) | (apply QStep.go; conv => whnf) | (refine Need.au ?_; conv => whnf) | (refine ⟨_, rfl, ?_⟩; conv => whnf)))
    exact ⟨_, _, WeakV.drop rfl, h⟩
theorem rbytes9_k : Contract Tryz.prog [] 50 pbytesS := ⟨⟨⟨_, rfl, rfl, rfl⟩⟩, rbytes9_c⟩
end Go.LX
end
section
set_option maxRecDepth 100000
set_option maxHeartbeats 2000000
set_option autoImplicit false
set_option linter.unusedVariables false
set_option linter.unusedSimpArgs false
namespace Go.LX
open Go.Proofs

theorem bev_inj9 : ∀ (x y : List UInt8), x.length = y.length → bev x = bev y → x = y
  | [], [], _, _ => rfl
  | a :: x, b :: y, hl, h => by
    have hl : x.length = y.length := by simpa using hl
    rw [bev_cons, bev_cons, hl] at h
    have hx := bev_lt x
    have hy := bev_lt y
    rw [hl] at hx
    have hp : 0 < 256 ^ y.length := Nat.pow_pos (by omega)
    generalize 256 ^ y.length = p at *
    have h1 : a.toNat = b.toNat := by
      have e1 : (a.toNat * p + bev x) / p = a.toNat := by rw [Nat.mul_comm, Nat.mul_add_div hp, Nat.div_eq_of_lt hx, Nat.add_zero]
      have e2 : (b.toNat * p + bev y) / p = b.toNat := by rw [Nat.mul_comm, Nat.mul_add_div hp, Nat.div_eq_of_lt hy, Nat.add_zero]
      rw [← e1, ← e2, h]
    rw [h1] at h
    rw [UInt8.toNat_inj.1 h1, bev_inj9 x y hl (by omega)]
theorem beb_bev9 {l : List UInt8} {k : Nat} (h : l.length = k) : beb (bev l) k = l := by
  subst h
  exact bev_inj9 _ _ (beb_length _ _) (bev_beb _ _ (bev_lt l))
theorem rd_zero {e : Int} {n : Nat} {s : Bs} : rdE e n s = 0 ↔ e = 0 ∧ n ≤ s.length := by
  unfold rdE
  by_cases he : e = 0
  · rw [if_pos he]
    by_cases h : n ≤ s.length
    · rw [if_pos ⟨by omega, by omega⟩]
      exact ⟨fun _ => ⟨he, h⟩, fun _ => rfl⟩
    · rw [if_neg (by omega)]
      exact ⟨fun q => absurd q (by decide), fun q => absurd q.2 h⟩
  · rw [if_neg he]
    exact ⟨fun q => absurd q he, fun q => q.1⟩
def smallF (e : Int) (s : Bs) : Nat × Int × Bs := if 4096 < rdV e 8 s then (0, (if rdE e 8 s = 0 then 5 else rdE e 8 s), rdS e 8 s) else (rdV e 8 s, rdE e 8 s, rdS e 8 s)
def textF (e : Int) (s : Bs) : Bs × Int × Bs := (rdT (rdE e 2 s) (rdV e 2 s) (rdS e 2 s), rdE (rdE e 2 s) (rdV e 2 s) (rdS e 2 s), rdS (rdE e 2 s) (rdV e 2 s) (rdS e 2 s))
def byteF (e : Int) (s : Bs) : Nat × Int × Bs := (rdV e 1 s, rdE e 1 s, rdS e 1 s)
def pathF : Nat → Int → Bs → List Bs → List Bs × Int × Bs
  | 0, e, s, acc => (acc, e, s)
  | n + 1, e, s, acc => if e = 0 then pathF n (rdE e 32 s) (rdS e 32 s) (acc ++ [rdT e 32 s]) else (acc, e, s)
theorem num_iff {k : Nat} {e : Int} {s s1 : Bs} {v : Nat} (hk : k ≤ 8) : (rdV e k s, rdE e k s, rdS e k s) = (v, 0, s1) ↔ e = 0 ∧ v < 256 ^ k ∧ s = beb v k ++ s1 := by
  constructor
  · intro h
    obtain ⟨h1, h2⟩ := Prod.mk.inj h
    obtain ⟨h2, h3⟩ := Prod.mk.inj h2
    obtain ⟨rfl, hl⟩ := rd_zero.1 h2
    obtain ⟨q1, q2, q3⟩ := rd_yes hl
    have hv : bev (s.take k) = v := by rw [← h1]; show _ = bev (rdT 0 (k : Int) s); rw [q1]
    have htl : (s.take k).length = k := by rw [List.length_take]; omega
    refine ⟨rfl, ?_, ?_⟩
    · have := bev_lt (s.take k)
      rw [htl] at this
      omega
    · rw [← h3, q3, ← hv, beb_bev9 htl, List.take_append_drop]
  · rintro ⟨rfl, hv, rfl⟩
    have hl : k ≤ (beb v k ++ s1).length := by rw [List.length_append, beb_length]; omega
    obtain ⟨q1, q2, q3⟩ := rd_yes hl
    have e1 : rdV 0 k (beb v k ++ s1) = v := by
      show bev (rdT 0 (k : Int) _) = v
      rw [q1, List.take_left' (beb_length v k), bev_beb k v hv]
    rw [e1, q2, q3, List.drop_left' (beb_length v k)]
theorem small_iff {e : Int} {s s1 : Bs} {v : Nat} : smallF e s = (v, 0, s1) ↔ e = 0 ∧ v ≤ 4096 ∧ s = beb v 8 ++ s1 := by
  unfold smallF
  by_cases h : 4096 < rdV e 8 s
  · rw [if_pos h]
    constructor
    · intro q
      have := (Prod.mk.inj (Prod.mk.inj q).2).1
      split at this
      · cases this
      · rename_i hn
        exact absurd this hn
    · rintro ⟨rfl, hv, rfl⟩
      have := (num_iff (k := 8) (e := 0) (s1 := s1) (v := v) (by omega)).2 ⟨rfl, Nat.lt_of_le_of_lt hv (by decide), rfl⟩
      have := (Prod.mk.inj this).1
      have h : 4096 < rdV 0 ((8 : Nat) : Int) (beb v 8 ++ s1) := h
      omega
  · rw [if_neg h]
    have h8 := num_iff (k := 8) (e := e) (s := s) (s1 := s1) (v := v) (by omega)
    constructor
    · intro q
      have q1 : rdV e 8 s = v := (Prod.mk.inj q).1
      obtain ⟨a, b, c⟩ := h8.1 q
      exact ⟨a, by omega, c⟩
    · rintro ⟨a, b, c⟩
      exact h8.2 ⟨a, Nat.lt_of_le_of_lt b (by decide), c⟩
theorem byte_iff {e : Int} {s s1 : Bs} {v : Nat} : byteF e s = (v, 0, s1) ↔ e = 0 ∧ v < 256 ∧ s = beb v 1 ++ s1 := num_iff (k := 1) (by omega)
theorem raw_iff9 {e : Int} {n : Nat} {s t s1 : Bs} : (rdT e n s, rdE e n s, rdS e n s) = (t, 0, s1) ↔ e = 0 ∧ t.length = n ∧ s = t ++ s1 := by
  constructor
  · intro h
    obtain ⟨h1, h2⟩ := Prod.mk.inj h
    obtain ⟨h2, h3⟩ := Prod.mk.inj h2
    obtain ⟨rfl, hl⟩ := rd_zero.1 h2
    obtain ⟨q1, q2, q3⟩ := rd_yes hl
    rw [← h1, ← h3, q1, q3]
    exact ⟨rfl, by rw [List.length_take]; omega, (List.take_append_drop n s).symm⟩
  · rintro ⟨rfl, ht, rfl⟩
    obtain ⟨q1, q2, q3⟩ := rd_yes (n := n) (s := t ++ s1) (by rw [List.length_append]; omega)
    rw [q1, q2, q3, List.take_left' ht, List.drop_left' ht]
theorem text_iff {e : Int} {s t s1 : Bs} : textF e s = (t, 0, s1) ↔ e = 0 ∧ t.length < 65536 ∧ s = beb t.length 2 ++ t ++ s1 := by
  unfold textF
  constructor
  · intro h
    obtain ⟨h1, h2, h3⟩ := raw_iff9.1 h
    obtain ⟨a, b, c⟩ := (num_iff (k := 2) (e := e) (s := s) (s1 := rdS e 2 s) (v := rdV e 2 s) (by omega)).1 (by
      show (rdV e 2 s, rdE e 2 s, rdS e 2 s) = _
      rw [h1])
    refine ⟨a, by rw [h2]; exact b, ?_⟩
    rw [h3] at c
    rw [h2, List.append_assoc]
    exact c
  · rintro ⟨rfl, hl, hs⟩
    rw [List.append_assoc] at hs
    have h2 := (num_iff (k := 2) (e := 0) (s := s) (s1 := t ++ s1) (v := t.length) (by omega)).2 ⟨rfl, hl, hs⟩
    obtain ⟨a, b⟩ := Prod.mk.inj h2
    obtain ⟨b, c⟩ := Prod.mk.inj b
    have a : rdV 0 2 s = t.length := a
    have b : rdE 0 2 s = 0 := b
    have c : rdS 0 2 s = t ++ s1 := c
    rw [a, b, c]
    exact raw_iff9.2 ⟨rfl, rfl, rfl⟩
theorem path_iff : ∀ (n : Nat) (e : Int) (s : Bs) (acc q : List Bs) (s1 : Bs), pathF n e s acc = (q, 0, s1) ↔ e = 0 ∧ ∃ p, q = acc ++ p ∧ p.length = n ∧ (∀ d ∈ p, d.length = 32) ∧ s = p.flatten ++ s1
  | 0, e, s, acc, q, s1 => by
    constructor
    · intro h
      obtain ⟨h1, h2⟩ := Prod.mk.inj h
      obtain ⟨h2, h3⟩ := Prod.mk.inj h2
      exact ⟨h2, [], by rw [List.append_nil]; exact h1.symm, rfl, fun d hd => (by cases hd), by rw [h3]; rfl⟩
    · rintro ⟨rfl, p, rfl, hp, _, rfl⟩
      obtain rfl := List.eq_nil_of_length_eq_zero hp
      rw [List.append_nil]
      rfl
  | n + 1, e, s, acc, q, s1 => by
    rw [pathF]
    by_cases he : e = 0
    · rw [if_pos he, path_iff n]
      subst he
      constructor
      · rintro ⟨h1, p, rfl, hp, hd, hs⟩
        have h1 : rdE 0 ((32 : Nat) : Int) s = 0 := h1
        obtain ⟨_, ht, hs2⟩ := (raw_iff9 (e := 0) (n := 32) (s := s) (t := rdT 0 32 s) (s1 := rdS 0 32 s)).1 (by rw [h1]; rfl)
        refine ⟨rfl, rdT 0 32 s :: p, by simp, by rw [List.length_cons, hp], fun d hd2 => ?_, ?_⟩
        · rcases List.mem_cons.1 hd2 with rfl | hd2
          · exact ht
          · exact hd d hd2
        · rw [List.flatten_cons, List.append_assoc, ← hs]
          exact hs2
      · rintro ⟨_, p, rfl, hp, hd, rfl⟩
        match p, hp with
        | d :: p, hp =>
          have h32 := hd d (List.mem_cons_self ..)
          have h := (raw_iff9 (e := 0) (n := 32) (s := (d :: p).flatten ++ s1) (t := d) (s1 := p.flatten ++ s1)).2 ⟨rfl, h32, by rw [List.flatten_cons, List.append_assoc]⟩
          obtain ⟨a, b⟩ := Prod.mk.inj h
          obtain ⟨b, c⟩ := Prod.mk.inj b
          have a : rdT 0 32 ((d :: p).flatten ++ s1) = d := a
          have b : rdE 0 32 ((d :: p).flatten ++ s1) = 0 := b
          have c : rdS 0 32 ((d :: p).flatten ++ s1) = p.flatten ++ s1 := c
          rw [a, b, c]
          exact ⟨rfl, p, by simp, by simpa using hp, fun x hx => hd x (List.mem_cons_of_mem _ hx), rfl⟩
    · rw [if_neg he]
      constructor
      · intro h
        exact absurd (Prod.mk.inj (Prod.mk.inj h).2).1 he
      · intro h
        exact absurd h.1 he
open Classical in
noncomputable def leafF (e : Int) (s : Bs) : Lf × Int × Bs :=
  let A := smallF e s
  let B := smallF A.2.1 A.2.2
  let K := textF B.2.1 B.2.2
  let V := textF K.2.1 K.2.2
  let N := byteF V.2.1 V.2.2
  let P := pathF N.1 N.2.1 N.2.2 []
  (⟨(A.1 : Int), (B.1 : Int), K.1, V.1, P.1⟩, (if okLf ⟨(A.1 : Int), (B.1 : Int), K.1, V.1, P.1⟩ then P.2.1 else if P.2.1 = 0 then 5 else P.2.1), P.2.2)
theorem trip {α β : Type} {x : α × Int × β} (h : x.2.1 = 0) : x = (x.1, 0, x.2.2) := by
  obtain ⟨a, b, c⟩ := x
  have h : b = 0 := h
  subst h
  rfl
theorem leaf_iff {e : Int} {s s1 : Bs} {x : Lf} : leafF e s = (x, 0, s1) ↔ e = 0 ∧ okLf x ∧ s = putL x ++ s1 := by
  unfold leafF
  obtain ⟨A, hA⟩ : ∃ A, smallF e s = A := ⟨_, rfl⟩
  rw [hA]
  dsimp only
  obtain ⟨B, hB⟩ : ∃ B, smallF A.2.1 A.2.2 = B := ⟨_, rfl⟩
  rw [hB]
  obtain ⟨K, hK⟩ : ∃ K, textF B.2.1 B.2.2 = K := ⟨_, rfl⟩
  rw [hK]
  obtain ⟨V, hV⟩ : ∃ V, textF K.2.1 K.2.2 = V := ⟨_, rfl⟩
  rw [hV]
  obtain ⟨N, hN⟩ : ∃ N, byteF V.2.1 V.2.2 = N := ⟨_, rfl⟩
  rw [hN]
  obtain ⟨P, hP⟩ : ∃ P, pathF N.1 N.2.1 N.2.2 [] = P := ⟨_, rfl⟩
  rw [hP]
  constructor
  · intro h
    obtain ⟨h1, h2⟩ := Prod.mk.inj h
    obtain ⟨h2, h3⟩ := Prod.mk.inj h2
    by_cases hok : okLf ⟨(A.1 : Int), (B.1 : Int), K.1, V.1, P.1⟩
    case neg =>
      rw [if_neg hok] at h2
      split at h2
      · cases h2
      · rename_i q
        exact absurd h2 q
    rw [if_pos hok] at h2
    obtain ⟨p0, p, p1, p2, p3, p4⟩ := (path_iff _ _ _ _ _ _).1 (hP.trans (trip h2))
    obtain ⟨n0, n1, n2⟩ := byte_iff.1 (hN.trans (trip p0))
    obtain ⟨v0, v1, v2⟩ := text_iff.1 (hV.trans (trip n0))
    obtain ⟨k0, k1, k2⟩ := text_iff.1 (hK.trans (trip v0))
    obtain ⟨b0, b1, b2⟩ := small_iff.1 (hB.trans (trip k0))
    obtain ⟨a0, a1, a2⟩ := small_iff.1 (hA.trans (trip b0))
    rw [List.nil_append] at p1
    refine ⟨a0, by rw [← h1]; exact hok, ?_⟩
    rw [a2, b2, k2, v2, n2, p4, ← h1, h3]
    unfold putL headL
    rw [Int.toNat_natCast, Int.toNat_natCast]
    dsimp only
    rw [p1, p2]
    simp only [List.append_assoc]
  · rintro ⟨rfl, hx, rfl⟩
    have hi := hx.i
    have hc := hx.c
    have ek := hx.k
    have ev := hx.v
    have ep := hx.p
    have a : smallF 0 (putL x ++ s1) = (x.i.toNat, 0, beb x.c.toNat 8 ++ (beb x.k.length 2 ++ x.k ++ (beb x.v.length 2 ++ x.v ++ (beb x.p.length 1 ++ (x.p.flatten ++ s1))))) :=
      small_iff.2 ⟨rfl, by omega, by unfold putL headL; simp only [List.append_assoc]⟩
    obtain rfl := hA.symm.trans a
    obtain rfl := hB.symm.trans ((small_iff (v := x.c.toNat) (s1 := beb x.k.length 2 ++ x.k ++ (beb x.v.length 2 ++ x.v ++ (beb x.p.length 1 ++ (x.p.flatten ++ s1))))).2 ⟨rfl, by omega, rfl⟩)
    obtain rfl := hK.symm.trans ((text_iff (t := x.k) (s1 := beb x.v.length 2 ++ x.v ++ (beb x.p.length 1 ++ (x.p.flatten ++ s1)))).2 ⟨rfl, by omega, rfl⟩)
    obtain rfl := hV.symm.trans ((text_iff (t := x.v) (s1 := beb x.p.length 1 ++ (x.p.flatten ++ s1))).2 ⟨rfl, by omega, rfl⟩)
    obtain rfl := hN.symm.trans ((byte_iff (v := x.p.length) (s1 := x.p.flatten ++ s1)).2 ⟨rfl, by omega, rfl⟩)
    obtain rfl := hP.symm.trans ((path_iff x.p.length 0 (x.p.flatten ++ s1) [] x.p s1).2 ⟨rfl, x.p, rfl, rfl, hx.d, rfl⟩)
    have e : (⟨((x.i.toNat : Nat) : Int), ((x.c.toNat : Nat) : Int), x.k, x.v, x.p⟩ : Lf) = x := by
      obtain ⟨i, c, k, v, p⟩ := x
      have h1 : ((i.toNat : Nat) : Int) = i := Int.toNat_of_nonneg hi.1
      have h2 : ((c.toNat : Nat) : Int) = c := Int.toNat_of_nonneg hc.1
      show (⟨((i.toNat : Nat) : Int), ((c.toNat : Nat) : Int), k, v, p⟩ : Lf) = _
      rw [h1, h2]
    dsimp only
    rw [e, if_pos hx]
noncomputable def leavesF : Nat → Int → Bs → List Lf → List Lf × Int × Bs
  | 0, e, s, acc => (acc, e, s)
  | n + 1, e, s, acc => leavesF n (leafF e s).2.1 (leafF e s).2.2 (acc ++ [(leafF e s).1])
theorem leaves_iff : ∀ (n : Nat) (e : Int) (s : Bs) (acc q : List Lf) (s1 : Bs), leavesF n e s acc = (q, 0, s1) ↔ e = 0 ∧ ∃ L, q = acc ++ L ∧ L.length = n ∧ (∀ x ∈ L, okLf x) ∧ s = (L.map putL).flatten ++ s1
  | 0, e, s, acc, q, s1 => by
    constructor
    · intro h
      obtain ⟨h1, h2⟩ := Prod.mk.inj h
      obtain ⟨h2, h3⟩ := Prod.mk.inj h2
      exact ⟨h2, [], by rw [List.append_nil]; exact h1.symm, rfl, fun d hd => (by cases hd), by rw [h3]; rfl⟩
    · rintro ⟨rfl, p, rfl, hp, _, rfl⟩
      obtain rfl := List.eq_nil_of_length_eq_zero hp
      rw [List.append_nil]
      rfl
  | n + 1, e, s, acc, q, s1 => by
    rw [leavesF, leaves_iff n]
    constructor
    · rintro ⟨h1, L, rfl, hL, hok, hs⟩
      obtain ⟨e0, hx, hs2⟩ := leaf_iff.1 (trip h1)
      refine ⟨e0, (leafF e s).1 :: L, by simp, by rw [List.length_cons, hL], fun x hx2 => ?_, ?_⟩
      · rcases List.mem_cons.1 hx2 with rfl | hx2
        · exact hx
        · exact hok x hx2
      · rw [List.map_cons, List.flatten_cons, List.append_assoc, ← hs]
        exact hs2
    · rintro ⟨rfl, L, rfl, hL, hok, rfl⟩
      match L, hL with
      | x :: L, hL =>
        have h := (leaf_iff (e := 0) (s := ((x :: L).map putL).flatten ++ s1) (x := x) (s1 := (L.map putL).flatten ++ s1)).2 ⟨rfl, hok x (List.mem_cons_self ..), by rw [List.map_cons, List.flatten_cons, List.append_assoc]⟩
        rw [h]
        exact ⟨rfl, L, by simp, by simpa using hL, fun y hy => hok y (List.mem_cons_of_mem _ hy), rfl⟩
theorem end_iff {e : Int} {s : Bs} : rdEnd e s = 0 ↔ e = 0 ∧ s = [] := by
  unfold rdEnd rdLeft
  by_cases he : e = 0
  · rw [if_pos he]
    by_cases hs : s = []
    · subst hs
      rw [if_neg (by simp)]
      exact ⟨fun q => ⟨q, rfl⟩, fun q => q.1⟩
    · have : 0 < s.length := List.length_pos_iff.2 hs
      rw [if_pos (by omega)]
      exact ⟨fun q => absurd q (by decide), fun q => absurd q.2 hs⟩
  · rw [if_neg he, if_neg (by decide)]
    exact ⟨fun q => absurd q he, fun q => q.1⟩
open Classical in
noncomputable def parseV (s : Bs) : (Bool × List Lf) × Int := if h : ∃ r : Bool × List Lf, fitsX r.2 ∧ bytesX r.1 r.2 = s then (h.choose, 0) else ((false, []), 5)
theorem parts_iff {a : Bool} {L : List Lf} {s : Bs} (hf : fitsX L) : bytesX a L = s ↔ byteF 0 s = ((if a then 2 else 1), 0, beb L.length 1 ++ (L.map putL).flatten) := by
  have h := byte_iff (e := 0) (s := s) (s1 := beb L.length 1 ++ (L.map putL).flatten) (v := if a then 2 else 1)
  rw [h]
  unfold bytesX
  cases a
  · exact ⟨fun q => ⟨rfl, by decide, by rw [← q]; rfl⟩, fun q => q.2.2.symm⟩
  · exact ⟨fun q => ⟨rfl, by decide, by rw [← q]; rfl⟩, fun q => q.2.2.symm⟩
theorem bytesX_inj {a b : Bool} {L M : List Lf} (hL : fitsX L) (hM : fitsX M) (h : bytesX a L = bytesX b M) : a = b ∧ L = M := by
  have h1 := (parts_iff (s := bytesX b M) hL).1 h
  have h2 := (parts_iff (s := bytesX b M) hM).1 rfl
  obtain ⟨q1, q2⟩ := Prod.mk.inj (h1.symm.trans h2)
  obtain ⟨_, q3⟩ := Prod.mk.inj q2
  have l1 := hL.1
  have l2 := hM.1
  have n1 := (byte_iff (e := 0) (s := beb L.length 1 ++ (L.map putL).flatten) (s1 := (L.map putL).flatten) (v := L.length)).2 ⟨rfl, by omega, rfl⟩
  have n2 := (byte_iff (e := 0) (s := beb L.length 1 ++ (L.map putL).flatten) (s1 := (M.map putL).flatten) (v := M.length)).2 ⟨rfl, by omega, q3⟩
  obtain ⟨q4, q5⟩ := Prod.mk.inj (n1.symm.trans n2)
  obtain ⟨_, q6⟩ := Prod.mk.inj q5
  have t1 := (leaves_iff L.length 0 ((L.map putL).flatten) [] L []).2 ⟨rfl, L, rfl, rfl, hL.2, (List.append_nil _).symm⟩
  have t2 := (leaves_iff L.length 0 ((L.map putL).flatten) [] M []).2 ⟨rfl, M, rfl, q4.symm, hM.2, by rw [List.append_nil]; exact q6⟩
  refine ⟨?_, (Prod.mk.inj (t1.symm.trans t2)).1⟩
  cases a <;> cases b <;> first | rfl | cases q1
theorem parseV_yes {a : Bool} {L : List Lf} {s : Bs} (hf : fitsX L) (h : bytesX a L = s) : parseV s = ((a, L), 0) := by
  have hex : ∃ r : Bool × List Lf, fitsX r.2 ∧ bytesX r.1 r.2 = s := ⟨(a, L), hf, h⟩
  have hc := hex.choose_spec
  unfold parseV
  rw [dif_pos hex]
  obtain ⟨q1, q2⟩ := bytesX_inj hc.1 hf (hc.2.trans h.symm)
  rw [show hex.choose = (a, L) from Prod.ext q1 q2]
theorem parseV_no {s : Bs} (h : ¬ ∃ r : Bool × List Lf, fitsX r.2 ∧ bytesX r.1 r.2 = s) : parseV s = ((false, []), 5) := dif_neg h
end Go.LX
end
section
set_option maxRecDepth 100000
set_option maxHeartbeats 2000000
set_option autoImplicit false
set_option linter.unusedVariables false
set_option linter.unusedSimpArgs false
namespace Go.LX
open Go.Proofs

theorem LoopVC.postWeak {P : Program} {G : Gl} {N : Nat} {c : Code} {s : LS} {K : Exit → LS → Prop} (h : LoopVC P G N c s fun e s' => ∃ s2, Weak G N s' s2 ∧ K e s2) : LoopVC P G N c s K := ⟨fun X hX => WpX.postWeak (h.out X hX)⟩
def small9S : Spec := fun args H Q => match args, H with
  | [.ptr 0 0, .int .u64 m], [.cells [.int .i64 e, .str s] 129] => m = 4096 ∧ s.length < 1000000 ∧ Q (.int .i64 ((smallF e s).1 : Int)) (rd (smallF e s).2.1 (smallF e s).2.2)
  | _, _ => False
theorem small9_c : Meets Tryz.prog [] 75 small9S := by
  refine meets_of Γok Tryz.func75 rfl ?_
  intro args H Q h
  unfold small9S at h
  split at h
  case h_2 => exact h.elim
  rename_i m e s
  obtain ⟨rfl, hs, h⟩ := h
  unfold smallF at h
  (refine sx_sound Γok _ ?_; conv => whnf)
  (repeat (first | (refine CallVC.auto rnum_k (Need.mk hs ?_); conv => whnf) | (exact Out.same; conv => whnf) | (exact Out1.same; conv => whnf) | (refine QAnd.mk ?_ ?_; conv => whnf) | (apply QStepH.go; conv => whnf) | (refine Both.lit_true ?_; conv => whnf) | (refine Both.lit_false ?_; conv => whnf) | (apply QStep.go; conv => whnf) | (refine Need.au ?_; conv => whnf) | (refine ⟨_, rfl, ?_⟩; conv => whnf)))
  refine Both.dec (fun h1 => ?_) (fun h1 => ?_)
  · rw [if_pos (by omega)] at h
    (conv => whnf)
    (repeat (first | (exact Out.same; conv => whnf) | (exact Out1.same; conv => whnf) | (refine QAnd.mk ?_ ?_; conv => whnf) | (apply QStepH.go; conv => whnf) | (refine Both.lit_true ?_; conv => whnf) | (refine Both.lit_false ?_; conv => whnf) | (apply QStep.go; conv => whnf) | (refine Need.au ?_; conv => whnf) | (refine ⟨_, rfl, ?_⟩; conv => whnf)))
    refine CallVC.auto failA_k (fun e' he' => ?_)
    subst he'
    (conv => whnf)
    (repeat (first | (exact Out.same; conv => whnf) | (exact Out1.same; conv => whnf) | (refine QAnd.mk ?_ ?_; conv => whnf) | (apply QStepH.go; conv => whnf) | (refine Both.lit_true ?_; conv => whnf) | (refine Both.lit_false ?_; conv => whnf) | (apply QStep.go; conv => whnf) | (refine Need.au ?_; conv => whnf) | (refine ⟨_, rfl, ?_⟩; conv => whnf)))
    refine ⟨_, _, WeakV.auto ?_, h⟩
    (repeat' ((conv => whnf); first | exact True.intro | (refine And.intro ?_ ?_)))
    all_goals first | rfl | exact .eq rfl
  · rw [if_neg (by omega)] at h
    have hw : IntKind.i64.wrap ((rdV e 8 s : Nat) : Int) = ((rdV e 8 s : Nat) : Int) := wrap_i64 (by omega) (by omega)
    (conv => whnf)
    (repeat (first | (exact Out.same; conv => whnf) | (exact Out1.same; conv => whnf) | (refine QAnd.mk ?_ ?_; conv => whnf) | (apply QStepH.go; conv => whnf) | (refine Both.lit_true ?_; conv => whnf) | (refine Both.lit_false ?_; conv => whnf) | (apply QStep.go; conv => whnf) | (refine Need.au ?_; conv => whnf) | (refine ⟨_, rfl, ?_⟩; conv => whnf)))
    refine ⟨_, _, WeakV.auto ?_, h⟩
    (repeat' ((conv => whnf); first | exact True.intro | (refine And.intro ?_ ?_)))
    all_goals first | rfl | exact .eq rfl | exact congrArg (SV.int .i64) hw
theorem small9_k : Contract Tryz.prog [] 75 small9S := ⟨⟨⟨_, rfl, rfl, rfl⟩⟩, small9_c⟩
theorem smallF_len (e : Int) (s : Bs) : (smallF e s).2.2.length ≤ s.length := by
  unfold smallF
  split <;> exact rdS_len e 8 s
theorem textF_len (e : Int) (s : Bs) : (textF e s).2.2.length ≤ s.length := Nat.le_trans (rdS_len _ _ _) (rdS_len _ _ _)
theorem byteF_len (e : Int) (s : Bs) : (byteF e s).2.2.length ≤ s.length := rdS_len _ _ _
theorem pathF_len : ∀ (n : Nat) (e : Int) (s : Bs) (acc : List Bs), (pathF n e s acc).2.2.length ≤ s.length ∧ (pathF n e s acc).1.length ≤ acc.length + n
  | 0, e, s, acc => ⟨Nat.le_refl _, Nat.le_refl _⟩
  | n + 1, e, s, acc => by
    rw [pathF]
    by_cases he : e = 0
    · rw [if_pos he]
      have := pathF_len n (rdE e 32 s) (rdS e 32 s) (acc ++ [rdT e 32 s])
      rw [List.length_append, List.length_singleton] at this
      exact ⟨Nat.le_trans this.1 (rdS_len _ _ _), by omega⟩
    · rw [if_neg he]
      exact ⟨Nat.le_refl _, by show acc.length ≤ _; omega⟩
def rtextFS : Spec := fun args H Q => match args, H with
  | [.ptr 0 0], [.cells [.int .i64 e, .str s] 129] => s.length < 1000000 ∧ Q (.str (textF e s).1) (rd (textF e s).2.1 (textF e s).2.2)
  | _, _ => False
theorem rtextF_k : Contract Tryz.prog [] 76 rtextFS := rtext_k.imp fun args H Q h => by
  unfold rtextFS at h
  split at h
  case h_2 => exact h.elim
  exact Need.mk h.1 h.2
def rbyteFS : Spec := fun args H Q => match args, H with
  | [.ptr 0 0], [.cells [.int .i64 e, .str s] 129] => s.length < 1000000 ∧ Q (.int .i64 ((byteF e s).1 : Int)) (rd (byteF e s).2.1 (byteF e s).2.2)
  | _, _ => False
theorem rbyteF_k : Contract Tryz.prog [] 41 rbyteFS := rbyte_k.imp fun args H Q h => by
  unfold rbyteFS at h
  split at h
  case h_2 => exact h.elim
  exact Need.mk h.1 h.2
theorem far5 {i c : Int} {k v : Bs} {s n : Nat} {cs : List CV} {f : Bool} : ∀ y ∈ [SV.int .i64 i, SV.int .i64 c, SV.str k, SV.str v, SV.sl s n cs f], isFar y := by
  intro y hy
  simp only [List.mem_cons, List.mem_nil_iff, or_false] at hy
  rcases hy with rfl | rfl | rfl | rfl | rfl <;> trivial
def leaf9S : Spec := fun args H Q => match args, H with
  | [.ptr 0 0], [.cells [.int .i64 e, .str s] 129] => Need (s.length < 1000000) (Q (lfSV (leafF e s).1) (rd (leafF e s).2.1 (leafF e s).2.2))
  | _, _ => False
open Classical in
theorem leaf9_c : Meets Tryz.prog [] 42 leaf9S := by
  refine meets_of Γok Tryz.func42 rfl ?_
  intro args H Q h
  unfold leaf9S at h
  split at h
  case h_2 => exact h.elim
  rename_i e s
  obtain ⟨hs, h⟩ := h
  unfold leafF at h
  have l1 := smallF_len e s
  obtain ⟨A, hA⟩ : ∃ A, smallF e s = A := ⟨_, rfl⟩
  rw [hA] at h l1
  dsimp only at h
  have l2 := smallF_len A.2.1 A.2.2
  obtain ⟨B, hB⟩ : ∃ B, smallF A.2.1 A.2.2 = B := ⟨_, rfl⟩
  rw [hB] at h l2
  have l3 := textF_len B.2.1 B.2.2
  obtain ⟨K, hK⟩ : ∃ K, textF B.2.1 B.2.2 = K := ⟨_, rfl⟩
  rw [hK] at h l3
  have l4 := textF_len K.2.1 K.2.2
  obtain ⟨V, hV⟩ : ∃ V, textF K.2.1 K.2.2 = V := ⟨_, rfl⟩
  rw [hV] at h l4
  have l5 := byteF_len V.2.1 V.2.2
  have hN0 := rdV_lt1 V.2.1 V.2.2
  obtain ⟨N, hN⟩ : ∃ N, byteF V.2.1 V.2.2 = N := ⟨_, rfl⟩
  have hN1 : N.1 < 256 := by rw [← hN]; exact hN0
  rw [hN] at h l5
  obtain ⟨P, hP⟩ : ∃ P, pathF N.1 N.2.1 N.2.2 [] = P := ⟨_, rfl⟩
  have hPl := pathF_len N.1 N.2.1 N.2.2 []
  rw [hP] at h hPl
  have hPp : P.1.length ≤ 9223372036854775807 := by have := hPl.2; simp only [List.length_nil] at this; omega
  have s1 : A.2.2.length < 1000000 := by omega
  have s2 : B.2.2.length < 1000000 := by omega
  have s3 : K.2.2.length < 1000000 := by omega
  have s4 : V.2.2.length < 1000000 := by omega
  have s5 : N.2.2.length < 1000000 := by omega
  (refine sx_sound Γok _ ?_; conv => whnf)
  (repeat (first | (exact Out.same; conv => whnf) | (exact Out1.same; conv => whnf) | (refine QAnd.mk ?_ ?_; conv => whnf) | (apply QStepH.go; conv => whnf) | (refine Both.lit_true ?_; conv => whnf) | (refine Both.lit_false ?_; conv => whnf) | (apply QStep.go; conv => whnf) | (refine Need.au ?_; conv => whnf) | (refine ⟨_, rfl, ?_⟩; conv => whnf)))
  refine CallVC.auto small9_k ⟨rfl, hs, ?_⟩
  rw [hA]
  (conv => whnf)
  (repeat (first | (exact Out.same; conv => whnf) | (exact Out1.same; conv => whnf) | (refine QAnd.mk ?_ ?_; conv => whnf) | (apply QStepH.go; conv => whnf) | (refine Both.lit_true ?_; conv => whnf) | (refine Both.lit_false ?_; conv => whnf) | (apply QStep.go; conv => whnf) | (refine Need.au ?_; conv => whnf) | (refine ⟨_, rfl, ?_⟩; conv => whnf)))
  refine CallVC.auto small9_k ⟨rfl, s1, ?_⟩
  rw [hB]
  (conv => whnf)
  (repeat (first | (exact Out.same; conv => whnf) | (exact Out1.same; conv => whnf) | (refine QAnd.mk ?_ ?_; conv => whnf) | (apply QStepH.go; conv => whnf) | (refine Both.lit_true ?_; conv => whnf) | (refine Both.lit_false ?_; conv => whnf) | (apply QStep.go; conv => whnf) | (refine Need.au ?_; conv => whnf) | (refine ⟨_, rfl, ?_⟩; conv => whnf)))
  refine CallVC.auto rtextF_k ⟨s2, ?_⟩
  rw [hK]
  (conv => whnf)
  (repeat (first | (exact Out.same; conv => whnf) | (exact Out1.same; conv => whnf) | (refine QAnd.mk ?_ ?_; conv => whnf) | (apply QStepH.go; conv => whnf) | (refine Both.lit_true ?_; conv => whnf) | (refine Both.lit_false ?_; conv => whnf) | (apply QStep.go; conv => whnf) | (refine Need.au ?_; conv => whnf) | (refine ⟨_, rfl, ?_⟩; conv => whnf)))
  refine CallVC.auto rtextF_k ⟨s3, ?_⟩
  rw [hV]
  (conv => whnf)
  (repeat (first | (exact Out.same; conv => whnf) | (exact Out1.same; conv => whnf) | (refine QAnd.mk ?_ ?_; conv => whnf) | (apply QStepH.go; conv => whnf) | (refine Both.lit_true ?_; conv => whnf) | (refine Both.lit_false ?_; conv => whnf) | (apply QStep.go; conv => whnf) | (refine Need.au ?_; conv => whnf) | (refine ⟨_, rfl, ?_⟩; conv => whnf)))
  refine CallVC.auto rbyteF_k ⟨s4, ?_⟩
  rw [hN]
  (conv => whnf)
  (repeat (first | (exact Out.same; conv => whnf) | (exact Out1.same; conv => whnf) | (refine QAnd.mk ?_ ?_; conv => whnf) | (apply QStepH.go; conv => whnf) | (refine Both.lit_true ?_; conv => whnf) | (refine Both.lit_false ?_; conv => whnf) | (apply QStep.go; conv => whnf) | (refine Need.au ?_; conv => whnf) | (refine ⟨_, rfl, ?_⟩; conv => whnf)))
  refine LoopVC.postWeak ?_
  refine loop_rule (fun x : Nat × Int × Bs × List Bs => match x with | (n, e, s, acc) => ⟨[.ptr 0 0, .any, .ptr 1 0, .ptr 2 0, .int .i64 (n : Int), .any, .any, .any, .any, .any, .any, .any, .any, .any, .any, .any, .any, .any, .any, .any, .any, .any, .any, .any, .any, .any, .any, .any, .any, .any, .any, .any, .any, .any, .any, .any, .any, .any, .any, .any, .any, .any, .any, .any, .any, .any], [.cells [.int .i64 e, .str s] 129, .cells [.int .i64 0, .int .i64 0, .str [], .str [], .nilsl] 50, .cells [.int .i64 (A.1 : Int), .int .i64 (B.1 : Int), .str K.1, .str V.1, .own 3] 50, .own 9 1 acc.length (strs acc) true]⟩) (fun x => match x with | (n, e, s, acc) => pathF n e s acc = P ∧ s.length < 1000000 ∧ acc.length + n ≤ 255) (fun x => match x with | (n, e, s, acc) => n) (N.1, N.2.1, N.2.2, []) ⟨hP, s5, by show 0 + N.1 ≤ 255; omega⟩ ((Weak.ownNil 2 4 9 1 rfl rfl).trans (Weak.auto ?_)) ?_
  · (repeat' ((conv => whnf); first | exact True.intro | (refine And.intro ?_ ?_)))
    all_goals first | rfl | exact .eq rfl
  rintro ⟨n, e, t, acc⟩ ⟨hI, ht, hna⟩
  (refine sx_sound Γok _ ?_; conv => whnf)
  (repeat (first | (exact Out.same; conv => whnf) | (exact Out1.same; conv => whnf) | (refine QAnd.mk ?_ ?_; conv => whnf) | (apply QStepH.go; conv => whnf) | (refine Both.lit_true ?_; conv => whnf) | (refine Both.lit_false ?_; conv => whnf) | (apply QStep.go; conv => whnf) | (refine Need.au ?_; conv => whnf) | (refine ⟨_, rfl, ?_⟩; conv => whnf)))
  refine Both.dec (fun h1 => ?_) (fun h1 => ?_)
  · obtain ⟨n, rfl⟩ : ∃ n', n = n' + 1 := ⟨n - 1, by omega⟩
    rw [pathF] at hI
    have hn1 : IntKind.i64.wrap (((n + 1 : Nat) : Int) - 1) = (n : Int) := by rw [wrap_i64 (by omega) (by omega)]; omega
    have hcap : (acc.length + 1) * ti9.bytes ≤ 140737488355328 := by
      show (acc.length + 1) * 16 ≤ _
      omega
    have hsl := rdS_len e 32 t
    (conv => whnf)
    (repeat (first | (exact Out.same; conv => whnf) | (exact Out1.same; conv => whnf) | (refine QAnd.mk ?_ ?_; conv => whnf) | (apply QStepH.go; conv => whnf) | (refine Both.lit_true ?_; conv => whnf) | (refine Both.lit_false ?_; conv => whnf) | (apply QStep.go; conv => whnf) | (refine Need.au ?_; conv => whnf) | (refine ⟨_, rfl, ?_⟩; conv => whnf) | (refine CallVC.auto errA_k ?_; conv => whnf)))
    refine Both.dec (fun h2 => ?_) (fun h2 => ?_)
    · rw [if_pos h2] at hI
      have hA1 : (rdS e 32 t).length < 1000000 := by omega
      have hB1 : (acc ++ [rdT e 32 t]).length + n ≤ 255 := by rw [List.length_append, List.length_singleton]; omega
      have end1 : LObj.own 9 1 (acc.length + 1) (strs acc ++ [CV.str (rdT e 32 t)]) true = .own 9 1 (acc ++ [rdT e 32 t]).length (strs (acc ++ [rdT e 32 t])) true := by
        rw [List.length_append, ← strs_app]
        rfl
      (conv => whnf)
      (refine DrawVC.any Γok (by kernel_rfl) (by kernel_rfl) (by kernel_rfl) (by rfl) ?_; conv => whnf)
      (repeat (first | (refine CallVC.auto rraw_k ⟨ht, ?_⟩; conv => whnf) | (refine Need.mk hcap ?_; conv => whnf) | (exact Out.same; conv => whnf) | (exact Out1.same; conv => whnf) | (refine QAnd.mk ?_ ?_; conv => whnf) | (apply QStepH.go; conv => whnf) | (refine Both.lit_true ?_; conv => whnf) | (refine Both.lit_false ?_; conv => whnf) | (apply QStep.go; conv => whnf) | (refine Need.au ?_; conv => whnf) | (refine ⟨_, rfl, ?_⟩; conv => whnf)))
      refine ⟨(n, rdE e 32 t, rdS e 32 t, acc ++ [rdT e 32 t]), ⟨hI, hA1, hB1⟩, Nat.lt_succ_self n, Weak.auto ?_⟩
      (repeat' ((conv => whnf); first | exact True.intro | (refine And.intro ?_ ?_)))
      all_goals first | rfl | exact .eq rfl | exact congrArg (SV.int .i64) hn1 | exact end1 | exact .eq end1
    · rw [if_neg h2] at hI
      subst hI
      have hap : acc.length ≤ 9223372036854775807 := by omega
      (conv => whnf)
      (repeat (first | (exact Out.same; conv => whnf) | (exact Out1.same; conv => whnf) | (refine QAnd.mk ?_ ?_; conv => whnf) | (apply QStepH.go; conv => whnf) | (refine Both.lit_true ?_; conv => whnf) | (refine Both.lit_false ?_; conv => whnf) | (apply QStep.go; conv => whnf) | (refine Need.au ?_; conv => whnf) | (refine ⟨_, rfl, ?_⟩; conv => whnf)))
      refine ⟨_, Weak.pub 3 2 rfl rfl, ?_⟩
      (conv => whnf)
      (repeat (first | (refine CallVC.auto with_k ⟨acc, rfl, rfl, hap, ?_⟩; conv => whnf) | (exact Out.same; conv => whnf) | (exact Out1.same; conv => whnf) | (refine QAnd.mk ?_ ?_; conv => whnf) | (apply QStepH.go; conv => whnf) | (refine Both.lit_true ?_; conv => whnf) | (refine Both.lit_false ?_; conv => whnf) | (apply QStep.go; conv => whnf) | (refine Need.au ?_; conv => whnf) | (refine ⟨_, rfl, ?_⟩; conv => whnf)))
      by_cases hok : okLf ⟨(A.1 : Int), (B.1 : Int), K.1, V.1, acc⟩
      · have c1 : (!decide (okLf ⟨(A.1 : Int), (B.1 : Int), K.1, V.1, acc⟩)) = false := by rw [decide_eq_true hok]; rfl
        rw [if_pos hok] at h
        (repeat (first | (refine Both.of_false c1 ?_; conv => whnf) | (refine Need.mk ⟨rfl, rfl, far5⟩ ?_; conv => whnf) | (exact Out.same; conv => whnf) | (exact Out1.same; conv => whnf) | (refine QAnd.mk ?_ ?_; conv => whnf) | (apply QStepH.go; conv => whnf) | (refine Both.lit_true ?_; conv => whnf) | (refine Both.lit_false ?_; conv => whnf) | (apply QStep.go; conv => whnf) | (refine Need.au ?_; conv => whnf) | (refine ⟨_, rfl, ?_⟩; conv => whnf)))
        refine ⟨_, _, WeakV.auto ?_, h⟩
        (repeat' ((conv => whnf); first | exact True.intro | (refine And.intro ?_ ?_)))
        all_goals first | rfl | exact .eq rfl
      · have c1 : (!decide (okLf ⟨(A.1 : Int), (B.1 : Int), K.1, V.1, acc⟩)) = true := by rw [decide_eq_false hok]; rfl
        rw [if_neg hok] at h
        (repeat (first | (refine Both.of_true c1 ?_; conv => whnf) | (exact Out.same; conv => whnf) | (exact Out1.same; conv => whnf) | (refine QAnd.mk ?_ ?_; conv => whnf) | (apply QStepH.go; conv => whnf) | (refine Both.lit_true ?_; conv => whnf) | (refine Both.lit_false ?_; conv => whnf) | (apply QStep.go; conv => whnf) | (refine Need.au ?_; conv => whnf) | (refine ⟨_, rfl, ?_⟩; conv => whnf)))
        refine CallVC.auto failA_k (fun e' he' => ?_)
        subst he'
        (conv => whnf)
        (repeat (first | (refine Need.mk ⟨rfl, rfl, far5⟩ ?_; conv => whnf) | (exact Out.same; conv => whnf) | (exact Out1.same; conv => whnf) | (refine QAnd.mk ?_ ?_; conv => whnf) | (apply QStepH.go; conv => whnf) | (refine Both.lit_true ?_; conv => whnf) | (refine Both.lit_false ?_; conv => whnf) | (apply QStep.go; conv => whnf) | (refine Need.au ?_; conv => whnf) | (refine ⟨_, rfl, ?_⟩; conv => whnf)))
        refine ⟨_, _, WeakV.auto ?_, h⟩
        (repeat' ((conv => whnf); first | exact True.intro | (refine And.intro ?_ ?_)))
        all_goals first | rfl | exact .eq rfl
  · obtain rfl : n = 0 := by omega
    rw [pathF] at hI
    subst hI
    have hap : acc.length ≤ 9223372036854775807 := by omega
    (conv => whnf)
    (repeat (first | (exact Out.same; conv => whnf) | (exact Out1.same; conv => whnf) | (refine QAnd.mk ?_ ?_; conv => whnf) | (apply QStepH.go; conv => whnf) | (refine Both.lit_true ?_; conv => whnf) | (refine Both.lit_false ?_; conv => whnf) | (apply QStep.go; conv => whnf) | (refine Need.au ?_; conv => whnf) | (refine ⟨_, rfl, ?_⟩; conv => whnf)))
    refine ⟨_, Weak.pub 3 2 rfl rfl, ?_⟩
    (conv => whnf)
    (repeat (first | (refine CallVC.auto with_k ⟨acc, rfl, rfl, hap, ?_⟩; conv => whnf) | (exact Out.same; conv => whnf) | (exact Out1.same; conv => whnf) | (refine QAnd.mk ?_ ?_; conv => whnf) | (apply QStepH.go; conv => whnf) | (refine Both.lit_true ?_; conv => whnf) | (refine Both.lit_false ?_; conv => whnf) | (apply QStep.go; conv => whnf) | (refine Need.au ?_; conv => whnf) | (refine ⟨_, rfl, ?_⟩; conv => whnf)))
    by_cases hok : okLf ⟨(A.1 : Int), (B.1 : Int), K.1, V.1, acc⟩
    · have c1 : (!decide (okLf ⟨(A.1 : Int), (B.1 : Int), K.1, V.1, acc⟩)) = false := by rw [decide_eq_true hok]; rfl
      rw [if_pos hok] at h
      (repeat (first | (refine Both.of_false c1 ?_; conv => whnf) | (refine Need.mk ⟨rfl, rfl, far5⟩ ?_; conv => whnf) | (exact Out.same; conv => whnf) | (exact Out1.same; conv => whnf) | (refine QAnd.mk ?_ ?_; conv => whnf) | (apply QStepH.go; conv => whnf) | (refine Both.lit_true ?_; conv => whnf) | (refine Both.lit_false ?_; conv => whnf) | (apply QStep.go; conv => whnf) | (refine Need.au ?_; conv => whnf) | (refine ⟨_, rfl, ?_⟩; conv => whnf)))
      refine ⟨_, _, WeakV.auto ?_, h⟩
      (repeat' ((conv => whnf); first | exact True.intro | (refine And.intro ?_ ?_)))
      all_goals first | rfl | exact .eq rfl
    · have c1 : (!decide (okLf ⟨(A.1 : Int), (B.1 : Int), K.1, V.1, acc⟩)) = true := by rw [decide_eq_false hok]; rfl
      rw [if_neg hok] at h
      (repeat (first | (refine Both.of_true c1 ?_; conv => whnf) | (exact Out.same; conv => whnf) | (exact Out1.same; conv => whnf) | (refine QAnd.mk ?_ ?_; conv => whnf) | (apply QStepH.go; conv => whnf) | (refine Both.lit_true ?_; conv => whnf) | (refine Both.lit_false ?_; conv => whnf) | (apply QStep.go; conv => whnf) | (refine Need.au ?_; conv => whnf) | (refine ⟨_, rfl, ?_⟩; conv => whnf)))
      refine CallVC.auto failA_k (fun e' he' => ?_)
      subst he'
      (conv => whnf)
      (repeat (first | (refine Need.mk ⟨rfl, rfl, far5⟩ ?_; conv => whnf) | (exact Out.same; conv => whnf) | (exact Out1.same; conv => whnf) | (refine QAnd.mk ?_ ?_; conv => whnf) | (apply QStepH.go; conv => whnf) | (refine Both.lit_true ?_; conv => whnf) | (refine Both.lit_false ?_; conv => whnf) | (apply QStep.go; conv => whnf) | (refine Need.au ?_; conv => whnf) | (refine ⟨_, rfl, ?_⟩; conv => whnf)))
      refine ⟨_, _, WeakV.auto ?_, h⟩
      (repeat' ((conv => whnf); first | exact True.intro | (refine And.intro ?_ ?_)))
      all_goals first | rfl | exact .eq rfl
theorem leaf9_k : Contract Tryz.prog [] 42 leaf9S := ⟨⟨⟨_, rfl, rfl, rfl⟩⟩, leaf9_c⟩
end Go.LX
end
