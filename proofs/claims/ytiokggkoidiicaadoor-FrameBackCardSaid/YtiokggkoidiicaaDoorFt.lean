import Derived.Test.YtiokggkoidiicaaDoorFs
import Derived.Test.YtiokggkoidiicaaDoorFd
set_option maxRecDepth 100000
set_option maxHeartbeats 2000000
set_option autoImplicit false
set_option linter.unusedVariables false
set_option linter.unusedSimpArgs false
namespace Go.LX
open Go.Proofs

/-! ## FrameOther, FrameApart: plain -/
theorem split_chunk {z g sr : Nat} {t : Bz} (hz : 64 ≤ z ∧ z ≤ 512) {k : Nat} (h : k < npar (z - 25) t.length) : chunk z (splitL z g sr t).flatten k = secAt z g sr t k := by
  have := flat_chunk (z := z) (l := splitL z g sr t) [] [] 0 k _ (by simp) (fun x hx => splitL_size hz hx) (splitL_at h)
  rwa [List.nil_append, List.append_nil, Nat.zero_add] at this
theorem scan_one {z g : Nat} {s : Bz} (hz : 64 ≤ z ∧ z ≤ 512) (hg : g < 18446744073709551616) (hs : s.length ≤ 4096) : scanA z g (splitL z g 0 s).flatten = ([s], npar (z - 25) s.length) := by
  have h := scan_all hz hg [s] (fun t ht => by rw [List.mem_singleton.1 ht]; exact hs) (by rw [List.length_singleton]; decide)
  rwa [show textOf z g 0 [s] = (splitL z g 0 s).flatten by simp [textOf], show secs z [s] = npar (z - 25) s.length from Nat.add_zero _] at h
theorem scan_other {z g sr o : Nat} {s : Bz} (hz : 64 ≤ z ∧ z ≤ 512) (hg : g < 18446744073709551616) (hsr : sr < 18446744073709551616) (hs : s.length ≤ 4096) (h : ¬ (o = g ∧ sr = 0)) : scanA z o (splitL z g sr s).flatten = ([], 0) := by
  refine scanX_stop ?_ _
  rw [Nat.zero_mul, List.drop_zero]
  exact congrArg Prod.snd (recA_other hz hg hsr hs (split_chunk hz (npar_pos _ _)) (fun q => h ⟨q.1.symm, q.2⟩))
theorem splitL_iff {z a b x y : Nat} {s t : Bz} (hz : 64 ≤ z ∧ z ≤ 512) (ha : a < 18446744073709551616) (hb : b < 18446744073709551616) (hx : x < 18446744073709551616) (hy : y < 18446744073709551616) (hs : s.length ≤ 4096) (ht : t.length ≤ 4096) :
    splitL z a x s = splitL z b y t ↔ (a = b ∧ x = y) ∧ s = t := by
  constructor
  · intro h
    have h0 : some (secAt z a x s 0) = some (secAt z b y t 0) := by rw [← splitL_at (npar_pos _ _), ← splitL_at (npar_pos _ _), h]
    have h1 := readX_at hz ha hx hs (npar_pos (z - 25) s.length)
    rw [Option.some.inj h0, readX_at hz hb hy ht (npar_pos (z - 25) t.length)] at h1
    have h2 := (Prod.mk.inj h1).1
    have e1 : b = a := congrArg PartX.g h2
    have e2 : y = x := congrArg PartX.sr h2
    have r1 := recA_split (S := (splitL z a x s).flatten) hz ha hx hs (fun k hk => split_chunk hz hk) (by rw [split_size hz]; exact Nat.le_refl _)
    have r2 := recA_split (S := (splitL z b y t).flatten) hz hb hy ht (fun k hk => split_chunk hz hk) (by rw [split_size hz]; exact Nat.le_refl _)
    rw [h, ← e1, ← e2, r2] at r1
    exact ⟨⟨e1.symm, e2.symm⟩, (Prod.mk.inj r1).1.symm⟩
  · rintro ⟨⟨rfl, rfl⟩, rfl⟩
    rfl
theorem flat_take {l : List Bz} {k : Nat} (h : k < l.length) : (l.take k).flatten ++ l.getD k [] = (l.take (k + 1)).flatten := by
  rw [List.take_succ_eq_append_getElem h, List.flatten_append, List.getD_eq_getElem?_getD, List.getElem?_eq_getElem h]
  simp
theorem getD_split {z g sr : Nat} {t : Bz} {k : Nat} (h : k < npar (z - 25) t.length) : (splitL z g sr t).getD k [] = secAt z g sr t k := by
  rw [List.getD_eq_getElem?_getD, splitL_at h]
  rfl
theorem flat_len {z : Nat} {l : List Bz} (h : ∀ x ∈ l, x.length = z) (k : Nat) (hk : k ≤ l.length) : (l.take k).flatten.length = k * z := by
  rw [flat_size (fun x hx => h x (List.mem_of_mem_take hx)), List.length_take, Nat.min_eq_left hk]
end Go.LX
