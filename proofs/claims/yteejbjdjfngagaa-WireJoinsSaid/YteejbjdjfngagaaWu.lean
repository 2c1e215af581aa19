import Derived.Test.YteejbjdjfngagaaWr
set_option maxRecDepth 100000
set_option maxHeartbeats 4000000
set_option autoImplicit false
set_option linter.unusedVariables false
set_option linter.unusedSimpArgs false
namespace Go.LX
open Go.Proofs

/-! ## What is written is read -/
theorem bev_fold (l : List UInt8) : ∀ a : Nat, l.foldl (fun n b => n * 256 + b.toNat) a = a * 256 ^ l.length + bev l := by
  induction l with
  | nil => intro a; simp [bev]
  | cons b l ih =>
    intro a
    have h0 : bev (b :: l) = b.toNat * 256 ^ l.length + bev l := by
      show List.foldl _ (0 * 256 + b.toNat) l = _
      rw [ih, Nat.zero_mul, Nat.zero_add]
    rw [List.foldl_cons, ih, h0, List.length_cons, Nat.pow_succ, Nat.add_mul, Nat.mul_comm (256 ^ l.length) 256, Nat.mul_assoc, Nat.add_assoc]
theorem bev_cons (b : UInt8) (l : List UInt8) : bev (b :: l) = b.toNat * 256 ^ l.length + bev l := by
  show List.foldl _ (0 * 256 + b.toNat) l = _
  rw [bev_fold, Nat.zero_mul, Nat.zero_add]
theorem bev_beb : ∀ (k v : Nat), v < 256 ^ k → bev (beb v k) = v
  | 0, v, h => by simp at h; subst h; rfl
  | k + 1, v, h => by
    have hb : beb v (k + 1) = UInt8.ofNat (v / 256 ^ k) :: beb (v % 256 ^ k) k := by
      rw [beb]
      congr 1
      have gen : ∀ j, j ≤ k → beb v j = beb (v % 256 ^ k) j := by
        intro j
        induction j with
        | zero => intro _; rfl
        | succ j ih =>
          intro hj
          rw [beb, beb, ih (by omega)]
          congr 1
          obtain ⟨d, rfl⟩ : ∃ d, k = j + 1 + d := ⟨k - (j + 1), by omega⟩
          have h1 : v % 256 ^ (j + 1 + d) / 256 ^ j = v / 256 ^ j % 256 ^ (d + 1) := by
            rw [show j + 1 + d = j + (d + 1) by omega, Nat.pow_add, Nat.mod_mul_right_div_self]
          rw [h1]
          have h2 : v / 256 ^ j % 256 ^ (d + 1) % 256 = v / 256 ^ j % 256 := by
            rw [Nat.mod_mod_of_dvd]
            exact ⟨256 ^ d, by rw [Nat.pow_succ, Nat.mul_comm]⟩
          apply UInt8.toNat_inj.1
          simp only [UInt8.toNat_ofNat']
          exact h2.symm
      exact gen k (Nat.le_refl k)
    have hlt : v / 256 ^ k < 256 := by
      rw [Nat.div_lt_iff_lt_mul (by exact Nat.pow_pos (by omega))]
      rw [Nat.pow_succ] at h
      omega
    rw [hb, bev_cons, beb_length, bev_beb k _ (Nat.mod_lt _ (Nat.pow_pos (by omega)))]
    simp only [UInt8.toNat_ofNat']
    rw [Nat.mod_eq_of_lt (show v / 256 ^ k < 2 ^ 8 by omega), Nat.mul_comm]
    exact Nat.div_add_mod v (256 ^ k)
theorem rd_app (n : Int) (a b : List UInt8) (h : n = a.length) : rdT 0 n (a ++ b) = a ∧ rdE 0 n (a ++ b) = 0 ∧ rdS 0 n (a ++ b) = b := by
  subst h
  have hok : rdOk 0 (a.length : Int) (a ++ b) = true := rdOk_of rfl (by omega) (by rw [List.length_append]; omega)
  refine ⟨by rw [rdT, if_pos hok, Int.toNat_natCast, List.take_left], ?_, by rw [rdS, if_pos hok, Int.toNat_natCast, List.drop_left]⟩
  unfold rdE
  rw [if_pos rfl, if_pos (by rw [List.length_append]; omega)]
theorem rd_short (n : Int) (t : List UInt8) (h : (t.length : Int) < n) : rdE 0 n t = 6 := by
  unfold rdE
  rw [if_pos rfl, if_neg (by omega)]
theorem take_app (a b : List UInt8) (m : Nat) (h : a.length ≤ m) : (a ++ b).take m = a ++ b.take (m - a.length) := by
  rw [List.take_append, List.take_of_length_le h]
/-- A reader's call, as the law makes it. -/
def Call.rd (c : Call) : Call := { c with k := c.s.length }
theorem call_back (c : Call) (hg : c.good = true) (hk : c.kind = 0 ∨ c.kind = 1 ∨ c.kind = 2 ∨ c.kind = 3) (hs : c.s.length < 1000000) (b : List UInt8) (m : Nat) :
    (c.more.length ≤ m ∧ doE c.rd 0 ((c.more ++ b).take m) = 0 ∧ doS c.rd 0 ((c.more ++ b).take m) = b.take (m - c.more.length) ∧
      (c.kind = 0 → (doV c.rd 0 ((c.more ++ b).take m) : Int) = c.k) ∧ (c.kind = 1 → (doV c.rd 0 ((c.more ++ b).take m) : Int) = u64 c.n) ∧
      (c.kind = 2 ∨ c.kind = 3 → doT c.rd 0 ((c.more ++ b).take m) = c.s)) ∨
    (m < c.more.length ∧ doE c.rd 0 ((c.more ++ b).take m) = 6) := by
  have hm : c.more = c.full := by simp [Call.more, hg]
  rcases Nat.lt_or_ge m c.more.length with h | h
  · refine .inr ⟨h, ?_⟩
    have hl : ((c.more ++ b).take m).length = m := by rw [List.length_take, List.length_append]; omega
    generalize hq : (c.more ++ b).take m = t at hl
    unfold doE Call.rd
    rcases hk with h0 | h0 | h0 | h0
    · simp only [h0, if_true]
      have : c.more.length = 1 := by rw [hm]; simp [Call.full, h0]
      exact rd_short _ _ (by omega)
    · simp only [h0, if_true, Int.reduceEq, if_false]
      have : c.more.length = 8 := by rw [hm]; simp [Call.full, h0, beb_length]
      exact rd_short _ _ (by omega)
    · simp only [h0, if_true, Int.reduceEq, if_false]
      have hf : c.more = beb c.s.length 2 ++ c.s := by rw [hm]; simp [Call.full, h0]
      have hml : c.more.length = 2 + c.s.length := by rw [hf, List.length_append, beb_length]
      rcases Nat.lt_or_ge m 2 with h2 | h2
      · rw [rd_short 2 t (by omega)]
        simp [rdE]
      · have ht : t = beb c.s.length 2 ++ (c.s ++ b).take (m - 2) := by
          rw [← hq, hf, List.append_assoc, take_app _ _ _ (by rw [beb_length]; exact h2), beb_length]
        obtain ⟨r1, r2, r3⟩ := rd_app 2 (beb c.s.length 2) ((c.s ++ b).take (m - 2)) (by rw [beb_length]; rfl)
        have hsl : c.s.length < 256 ^ 2 := by
          simp [Call.good, h0] at hg
          omega
        rw [ht, r2, r3, rdV, r1, bev_beb 2 _ hsl]
        refine rd_short _ _ ?_
        rw [List.length_take]
        omega
    · simp only [h0, if_true, Int.reduceEq, if_false]
      have : c.more.length = c.s.length := by rw [hm]; simp [Call.full, h0]
      exact rd_short _ _ (by omega)
  · refine .inl ⟨h, ?_⟩
    rw [take_app _ _ _ h]
    generalize b.take (m - c.more.length) = d
    unfold doE doS doV doT Call.rd
    rcases hk with h0 | h0 | h0 | h0
    · have hf : c.more = [UInt8.ofNat c.k.toNat] := by rw [hm]; simp [Call.full, h0]
      obtain ⟨r1, r2, r3⟩ := rd_app 1 [UInt8.ofNat c.k.toNat] d rfl
      simp only [h0, if_true, Int.reduceEq, if_false, hf, r2, r3, rdV, r1]
      refine ⟨trivial, trivial, fun _ => ?_, fun h => absurd h (by decide), fun h => by rcases h with h | h <;> exact absurd h (by decide)⟩
      simp [Call.good, h0] at hg
      simp [bev]
      omega
    · have hf : c.more = beb c.n.toNat 8 := by rw [hm]; simp [Call.full, h0]
      obtain ⟨r1, r2, r3⟩ := rd_app 8 (beb c.n.toNat 8) d (by rw [beb_length]; rfl)
      simp only [h0, if_true, Int.reduceEq, if_false, hf, r2, r3, rdV, r1]
      refine ⟨trivial, trivial, fun h => absurd h (by decide), fun _ => ?_, fun h => by rcases h with h | h <;> exact absurd h (by decide)⟩
      rw [bev_beb 8 _ (by have := c.n.isLt; omega)]
      rfl
    · have hf : c.more = beb c.s.length 2 ++ c.s := by rw [hm]; simp [Call.full, h0]
      have hsl : c.s.length < 256 ^ 2 := by
        simp [Call.good, h0] at hg
        omega
      obtain ⟨r1, r2, r3⟩ := rd_app 2 (beb c.s.length 2) (c.s ++ d) (by rw [beb_length]; rfl)
      obtain ⟨q1, q2, q3⟩ := rd_app (c.s.length : Int) c.s d rfl
      simp only [h0, if_true, Int.reduceEq, if_false, hf, List.append_assoc, r2, r3, rdV, r1, bev_beb 2 _ hsl, q1, q2, q3]
      exact ⟨trivial, trivial, fun h => absurd h (by decide), fun h => absurd h (by decide), fun _ => trivial⟩
    · have hf : c.more = c.s := by rw [hm]; simp [Call.full, h0]
      obtain ⟨q1, q2, q3⟩ := rd_app (c.s.length : Int) c.s d rfl
      simp only [h0, if_true, Int.reduceEq, if_false, hf, q1, q2, q3]
      exact ⟨trivial, trivial, fun h => absurd h (by decide), fun h => absurd h (by decide), fun _ => trivial⟩
end Go.LX
