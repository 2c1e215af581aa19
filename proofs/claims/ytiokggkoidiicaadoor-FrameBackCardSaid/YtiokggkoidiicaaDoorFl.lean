import Derived.Test.YtiokggkoidiicaaDoorFk
set_option maxRecDepth 100000
set_option maxHeartbeats 1000000
set_option autoImplicit false
set_option linter.unusedVariables false
set_option linter.unusedSimpArgs false
namespace Go.LX
open Go.Proofs

/-! ## A part that was put is told as it was -/
theorem mid_of (A B C : Bz) {i j : Nat} (hA : A.length = i) (hB : B.length = j) : ((A ++ B ++ C).drop i).take j = B := by
  subst hA; subst hB
  rw [List.append_assoc, List.drop_left, List.take_left]
theorem rightB_sealed (s : Bz) : rightB (Crc.seal_ s) = true := by
  have h := Crc.right_seal s
  unfold rightB
  rw [decide_eq_true h.1, decide_eq_true h.2]
  rfl
theorem seal_take (s : Bz) {n : Nat} (h : s.length = n) : (Crc.seal_ s).take n = s := by
  subst h
  unfold Crc.seal_
  rw [List.take_left]
theorem raw_fields {size g sr k n : Nat} {b : Bz} (hg : g < 18446744073709551616) (hs : sr < 18446744073709551616) (hk : k < 256) (hn : n < 256) (hb : b.length < 65536) :
    mX (rawX size g sr k n b) = b.length ∧ partOf (rawX size g sr k n b) = ⟨g, sr, k, n, b⟩ ∧ (rawX size g sr k n b).take 1 = [82] ∧ (rawX size g sr k n b).drop (21 + b.length) = List.replicate (size - 25 - b.length) 0 := by
  obtain ⟨Z, hZ⟩ : ∃ Z : Bz, List.replicate (size - 25 - b.length) (0 : UInt8) = Z := ⟨_, rfl⟩
  have e0 : rawX size g sr k n b = [82] ++ beb g 8 ++ beb sr 8 ++ beb k 1 ++ beb n 1 ++ (beb b.length 2 ++ b) ++ Z := by rw [← hZ]; rfl
  have e1 : rawX size g sr k n b = [82] ++ beb g 8 ++ (beb sr 8 ++ beb k 1 ++ beb n 1 ++ (beb b.length 2 ++ b) ++ Z) := by rw [e0]; simp only [List.append_assoc]
  have e2 : rawX size g sr k n b = ([82] ++ beb g 8) ++ beb sr 8 ++ (beb k 1 ++ beb n 1 ++ (beb b.length 2 ++ b) ++ Z) := by rw [e0]; simp only [List.append_assoc]
  have e3 : rawX size g sr k n b = ([82] ++ beb g 8 ++ beb sr 8) ++ beb k 1 ++ (beb n 1 ++ (beb b.length 2 ++ b) ++ Z) := by rw [e0]; simp only [List.append_assoc]
  have e4 : rawX size g sr k n b = ([82] ++ beb g 8 ++ beb sr 8 ++ beb k 1) ++ beb n 1 ++ ((beb b.length 2 ++ b) ++ Z) := by rw [e0]; simp only [List.append_assoc]
  have e5 : rawX size g sr k n b = ([82] ++ beb g 8 ++ beb sr 8 ++ beb k 1 ++ beb n 1) ++ beb b.length 2 ++ (b ++ Z) := by rw [e0]; simp only [List.append_assoc]
  have e6 : rawX size g sr k n b = ([82] ++ beb g 8 ++ beb sr 8 ++ beb k 1 ++ beb n 1 ++ beb b.length 2) ++ b ++ Z := by rw [e0]; simp only [List.append_assoc]
  have f1 : ((rawX size g sr k n b).drop 1).take 8 = beb g 8 := by rw [e1]; exact mid_of _ _ _ rfl (beb_length _ _)
  have f2 : ((rawX size g sr k n b).drop 9).take 8 = beb sr 8 := by rw [e2]; exact mid_of _ _ _ (by simp only [List.length_append, beb_length, List.length_singleton]) (beb_length _ _)
  have f3 : ((rawX size g sr k n b).drop 17).take 1 = beb k 1 := by rw [e3]; exact mid_of _ _ _ (by simp only [List.length_append, beb_length, List.length_singleton]) (beb_length _ _)
  have f4 : ((rawX size g sr k n b).drop 18).take 1 = beb n 1 := by rw [e4]; exact mid_of _ _ _ (by simp only [List.length_append, beb_length, List.length_singleton]) (beb_length _ _)
  have f5 : ((rawX size g sr k n b).drop 19).take 2 = beb b.length 2 := by rw [e5]; exact mid_of _ _ _ (by simp only [List.length_append, beb_length, List.length_singleton]) (beb_length _ _)
  have f6 : ((rawX size g sr k n b).drop 21).take b.length = b := by rw [e6]; exact mid_of _ _ _ (by simp only [List.length_append, beb_length, List.length_singleton]) rfl
  have hm : mX (rawX size g sr k n b) = b.length := by unfold mX; rw [f5]; exact bev_beb 2 _ hb
  refine ⟨hm, ?_, ?_, ?_⟩
  · unfold partOf
    rw [hm, f1, f2, f3, f4, f6, bev_beb 8 g hg, bev_beb 8 sr hs, bev_beb 1 k hk, bev_beb 1 n hn]
  · rw [e1]
    simp
  · rw [e6, hZ]
    refine List.drop_left' ?_
    simp only [List.length_append, beb_length, List.length_singleton]
theorem readX_sec {z g sr k n : Nat} {b : Bz} (hz : 64 ≤ z ∧ z ≤ 512) (hg : g < 18446744073709551616) (hs : sr < 18446744073709551616) (hkn : k < n) (hn : n < 256) (hb : b.length + 25 ≤ z) (hf : formR (z - 25) k n b.length) :
    readX (z : Int) (secX z g sr k n b) = (⟨g, sr, k, n, b⟩, 0) := by
  have h1 : ¬ rightN (z : Int) = false := by
    have : rightN (z : Int) = true := decide_eq_true (by omega)
    rw [this]
    decide
  have h2 : ¬ ((secX z g sr k n b).length : Int) ≠ z := by rw [sec_len hb]; exact fun q => q rfl
  have h3 : ¬ rightB (secX z g sr k n b) = false := by rw [secX_raw, rightB_sealed]; decide
  have e : (secX z g sr k n b).take ((z : Int).toNat - 4) = rawX z g sr k n b := by
    rw [secX_raw, Int.toNat_natCast, seal_take _ (rawX_len hb g sr k n)]
  obtain ⟨m1, m2, m3, m4⟩ := raw_fields (size := z) hg hs (by omega : k < 256) hn (by omega : b.length < 65536)
  have h4 : goodX (z : Int).toNat (rawX z g sr k n b) := by
    unfold goodX
    rw [m1, m2, Int.toNat_natCast]
    exact ⟨hb, hkn, hf, m3, m4⟩
  unfold readX
  rw [if_neg h1, if_neg h2, if_neg h3, e, if_pos h4, m2]
/-! ## A record's parts -/
theorem chunk_size {r k : Nat} {s : Bz} (hr : 0 < r) (h : k < npar r s.length) : (chunk r s k).length = if k + 1 = npar r s.length then s.length - k * r else r := by
  have hl := npar_last hr h
  unfold chunk
  rw [List.length_take, List.length_drop]
  split
  · rename_i h1
    have := hl.2 h1
    omega
  · rename_i h1
    have h2 : ¬ (s.length - k * r ≤ r) := fun q => h1 (hl.1 q)
    omega
theorem chunk_form {r k : Nat} {s : Bz} (hr : 0 < r) (hs : s.length ≤ 4096) (h : k < npar r s.length) : formR r k (npar r s.length) (chunk r s k).length := by
  have hup := npar_up (n := s.length) hr
  have hpos := npar_pos r s.length
  have hlow : ∀ j, j + 1 < npar r s.length → (j + 1) * r < s.length := fun j => npar_lo hr
  rw [chunk_size hr h]
  unfold formR
  by_cases hl : k + 1 = npar r s.length
  · rw [if_pos hl, if_pos (by omega)]
    have e : npar r s.length - 1 = k := by omega
    have hk : 0 < k → k * r < s.length := fun q => by
      have := hlow (k - 1) (by omega)
      rwa [show k - 1 + 1 = k by omega] at this
    rw [e]
    rcases Nat.eq_zero_or_pos k with h0 | h0
    · subst h0
      rw [Nat.zero_mul]
      omega
    · have := hk h0
      omega
  · rw [if_neg hl, if_neg (by omega)]
    have := hlow (npar r s.length - 2) (by omega)
    rw [show npar r s.length - 2 + 1 = npar r s.length - 1 by omega] at this
    omega
end Go.LX
