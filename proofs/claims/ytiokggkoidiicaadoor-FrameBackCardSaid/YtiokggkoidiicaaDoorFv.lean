import Derived.Test.YtiokggkoidiicaaDoorFu
import Derived.Test.YtiokggkoidiicaaDoorPw
set_option maxRecDepth 100000
set_option maxHeartbeats 2000000
set_option autoImplicit false
set_option linter.unusedVariables false
set_option linter.unusedSimpArgs false
namespace Go.LX
open Go.Proofs

/-! ## One sector changed: what is scanned -/
theorem patch_get (l : Bz) (m : Nat) (y : BitVec 32) : ∀ (k i : Nat), (patch l m y k)[i]? = if m ≤ i ∧ i < m + k then (l[i]?).map (fun b => b ^^^ Crc.lo (y >>> (8 * (i - m)))) else l[i]?
  | 0, i => by
    rw [if_neg (by omega)]
    rfl
  | k + 1, i => by
    rw [patch, List.getElem?_set, patch_len]
    by_cases h : m + k = i
    · subst h
      rw [if_pos rfl]
      by_cases h2 : m + k < l.length
      · rw [if_pos h2, if_pos (by omega), List.getD_eq_getElem?_getD, patch_get l m y k (m + k), if_neg (by omega), List.getElem?_eq_getElem h2, show m + k - m = k by omega]
        rfl
      · rw [if_neg h2, if_pos (by omega), List.getElem?_eq_none (by omega)]
        rfl
    · rw [if_neg h, patch_get l m y k i]
      by_cases h2 : m ≤ i ∧ i < m + k
      · rw [if_pos h2, if_pos (by omega)]
      · rw [if_neg h2, if_neg (by omega)]
theorem chunk_get (z i t : Nat) (s : Bz) : (chunk z s i)[t]? = if t < z then s[i * z + t]? else none := by
  unfold chunk
  rw [List.getElem?_take, List.getElem?_drop]
theorem chunk_other {z j i : Nat} {T : Bz} {y : BitVec 32} (hz : 4 ≤ z) (h : i ≠ j) : chunk z (patch T (j * z) y 4) i = chunk z T i := by
  apply List.ext_getElem?
  intro t
  rw [chunk_get, chunk_get]
  by_cases ht : t < z
  · rw [if_pos ht, if_pos ht, patch_get, if_neg ?_]
    rintro ⟨h1, h2⟩
    rcases Nat.lt_or_gt_of_ne h with h3 | h3
    · have : (i + 1) * z ≤ j * z := Nat.mul_le_mul_right _ h3
      rw [Nat.add_mul] at this
      omega
    · have : (j + 1) * z ≤ i * z := Nat.mul_le_mul_right _ h3
      rw [Nat.add_mul] at this
      omega
  · rw [if_neg ht, if_neg ht]
theorem chunk_same {z j : Nat} {T : Bz} {y : BitVec 32} (hz : 4 ≤ z) : chunk z (patch T (j * z) y 4) j = patch (chunk z T j) 0 y 4 := by
  apply List.ext_getElem?
  intro t
  rw [chunk_get, patch_get (chunk z T j), chunk_get]
  by_cases ht : t < z
  · rw [if_pos ht, if_pos ht, patch_get]
    by_cases h4 : t < 4
    · rw [if_pos (by omega), if_pos (by omega), show j * z + t - j * z = t - 0 by omega]
    · rw [if_neg (by omega), if_neg (by omega)]
  · rw [if_neg ht, if_neg ht, if_neg (by omega)]
theorem placed_congr {z g : Nat} {T T' : Bz} (hl : T'.length = T.length) : ∀ (L : List Bz) (u i : Nat), (∀ k, k < u + secs z L → chunk z T' k = chunk z T k) → placed z g T u i L → placed z g T' u i L
  | [], _, _, _, _ => trivial
  | t :: L, u, i, hc, hp => by
    rw [secs] at hc
    exact ⟨⟨fun k hk => (hc _ (by omega)).trans (hp.1.1 k hk), by rw [hl]; exact hp.1.2⟩, placed_congr hl L _ _ (fun k hk => hc k (by omega)) hp.2⟩
theorem secAt_bad {z g sr : Nat} {t : Bz} {k : Nat} {y : BitVec 32} (hz : 64 ≤ z ∧ z ≤ 512) (hy : y ≠ 0) : (readX (z : Int) (patch (secAt z g sr t k) 0 y 4)).2 ≠ 0 := by
  have hl := secAt_len hz g sr t k
  have h1 : ¬ rightN (z : Int) = false := by
    have : rightN (z : Int) = true := decide_eq_true (by omega)
    rw [this]
    decide
  have h3 : rightB (patch (secAt z g sr t k) 0 y 4) = false := by
    unfold secAt
    unfold secAt at hl
    rw [secX_raw] at hl ⊢
    exact patch_wrong (by omega) hy
  unfold readX
  rw [if_neg h1, if_neg (by rw [patch_len, hl]; exact fun q => q rfl), if_pos h3]
  decide
/-- The records ahead of the one whose sector was changed, and no more. -/
theorem scan_bad {z g : Nat} (hz : 64 ≤ z ∧ z ≤ 512) (hg : g < 18446744073709551616) (A : List Bz) (t : Bz) (B : List Bz) (j : Nat) (y : BitVec 32) (hy : y ≠ 0) (hl : ∀ t' ∈ A ++ t :: B, t'.length ≤ 4096) (hn : (A ++ t :: B).length < 18446744073709551616)
    (h1 : secs z A ≤ j) (h2 : j < secs z A + npar (z - 25) t.length) : scanA z g (patch (textOf z g 0 (A ++ t :: B)) (j * z) y 4) = (A, secs z A) := by
  obtain ⟨T, hT⟩ : ∃ T, textOf z g 0 (A ++ t :: B) = T := ⟨_, rfl⟩
  have hlen : T.length = secs z (A ++ t :: B) * z := by rw [← hT, text_size hz]
  have hsec : secs z (A ++ t :: B) = secs z A + (npar (z - 25) t.length + secs z B) := by rw [secs_app, secs]
  have e1 : T = [] ++ (textOf z g 0 A ++ ((splitL z g A.length t).flatten ++ textOf z g (A.length + 1) B)) := by
    rw [← hT, textOf_app, textOf, Nat.zero_add, List.nil_append]
  have hp : placed z g T 0 0 A := by rw [e1]; exact text_placed hz g A [] _ 0 0 (by simp)
  have hp' : placed z g (patch T (j * z) y 4) 0 0 A := placed_congr (patch_len _ _ _ _) A 0 0 (fun k hk => chunk_other (by omega) (by omega)) hp
  have hck : ∀ k, k < npar (z - 25) t.length → chunk z T (secs z A + k) = secAt z g A.length t k := by
    intro k hk
    have := flat_chunk (z := z) (l := splitL z g A.length t) (textOf z g 0 A) (textOf z g (A.length + 1) B) (secs z A) k _ (text_size hz g A 0) (fun x hx => splitL_size hz hx) (splitL_at hk)
    rwa [e1, List.nil_append]
  have ht := hl t (by simp)
  rw [hT]
  have h3 := secs_ge z A
  have h4 : secs z A * 1 ≤ secs z A * z := Nat.mul_le_mul_left _ (by omega)
  have h5 : secs z A * z ≤ secs z (A ++ t :: B) * z := Nat.mul_le_mul_right _ (by omega)
  have hf : scanA z g (patch T (j * z) y 4) = scanX z g (patch T (j * z) y 4) ((patch T (j * z) y 4).length + 1 - A.length + A.length) 0 [] := by
    rw [patch_len, show T.length + 1 - A.length + A.length = T.length + 1 by omega]
    unfold scanA
    rw [patch_len]
  have hgo := scanX_placed hz hg A 0 [] ((patch T (j * z) y 4).length + 1 - A.length) (fun x hx => hl x (List.mem_append_left _ hx)) (by rw [List.length_append, List.length_cons] at hn; rw [List.length_nil]; omega) hp'
  rw [hf, hgo, Nat.zero_add, List.nil_append]
  refine scanX_stop ?_ _
  have hrec := recX_bad (z := z) (g := g) (sr := A.length) (t := t) (S := (patch T (j * z) y 4).drop (secs z A * z)) (j := j - secs z A) hz hg (by rw [List.length_append, List.length_cons] at hn; omega) ht (by omega)
    (fun k hk => by rw [chunk_drop, chunk_other (by omega) (by omega)]; exact hck k (by omega))
    (by
      rw [chunk_drop, show secs z A + (j - secs z A) = j by omega, chunk_same (by omega)]
      have := hck (j - secs z A) (by omega)
      rw [show secs z A + (j - secs z A) = j by omega] at this
      rw [this]
      exact secAt_bad hz hy)
  unfold recA
  rw [hrec _ 0 0 [] (Nat.zero_le _)]
/-! ### The loop's numbers -/
def endsOf (z : Nat) (L : List Bz) (k : Nat) : List Int := (List.range k).map fun i => ((secs z (L.take (i + 1)) : Nat) : Int)
theorem endsOf_succ (z : Nat) (L : List Bz) (k : Nat) : endsOf z L (k + 1) = endsOf z L k ++ [((secs z (L.take (k + 1)) : Nat) : Int)] := by simp [endsOf, List.range_succ]
theorem endsOf_len (z : Nat) (L : List Bz) (k : Nat) : (endsOf z L k).length = k := by simp [endsOf]
theorem secs_take_succ (z : Nat) (L : List Bz) {k : Nat} (h : k < L.length) : secs z (L.take (k + 1)) = secs z (L.take k) + npar (z - 25) (L.getD k []).length := by
  rw [List.take_succ_eq_append_getElem h, secs_app, secs, secs, Nat.add_zero, List.getD_eq_getElem?_getD, List.getElem?_eq_getElem h]
  rfl
theorem textOf_succ (z g : Nat) (L : List Bz) {k : Nat} (h : k < L.length) : textOf z g 0 (L.take (k + 1)) = textOf z g 0 (L.take k) ++ (splitL z g k (L.getD k [])).flatten := by
  rw [List.take_succ_eq_append_getElem h, textOf_app, textOf, textOf, List.append_nil, List.length_take, Nat.min_eq_left (by omega), Nat.zero_add, List.getD_eq_getElem?_getD, List.getElem?_eq_getElem h]
  rfl
theorem scan_whole {z g : Nat} (hz : 64 ≤ z ∧ z ≤ 512) (hg : g < 18446744073709551616) (L : List Bz) (j w : Nat) (y : BitVec 32) (hy : y ≠ 0) (hl : ∀ t ∈ L, t.length ≤ 4096) (hn : L.length < 18446744073709551616) (hw : w < L.length)
    (h1 : secs z (L.take w) ≤ j) (h2 : j < secs z (L.take (w + 1))) : scanA z g (patch (textOf z g 0 L) (j * z) y 4) = (L.take w, secs z (L.take w)) := by
  have e : L = L.take w ++ L.getD w [] :: L.drop (w + 1) := by
    have := List.take_append_drop w L
    rw [List.drop_eq_getElem_cons hw] at this
    rw [List.getD_eq_getElem?_getD, List.getElem?_eq_getElem hw]
    exact this.symm
  rw [secs_take_succ z L hw] at h2
  have := scan_bad hz hg (L.take w) (L.getD w []) (L.drop (w + 1)) j y hy (by rw [← e]; exact hl) (by rw [← e]; exact hn) h1 h2
  rwa [← e] at this
end Go.LX
