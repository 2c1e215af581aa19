import Derived.Test.YtiokggkoidiicaaDoorFl
set_option maxRecDepth 100000
set_option maxHeartbeats 1000000
set_option autoImplicit false
set_option linter.unusedVariables false
set_option linter.unusedSimpArgs false
namespace Go.LX
open Go.Proofs

/-! ## Records that were split are scanned as they were -/
theorem chunk_drop (z u k : Nat) (s : Bz) : chunk z (s.drop (u * z)) k = chunk z s (u + k) := by
  unfold chunk
  rw [List.drop_drop, ← Nat.add_mul]
theorem np_small {z n : Nat} (hz : 64 ≤ z ∧ z ≤ 512) (hn : n ≤ 4096) : npar (z - 25) n ≤ 106 := by
  refine npar_le (by omega) ?_ (by omega)
  have h1 : 106 * 39 ≤ 106 * (z - 25) := Nat.mul_le_mul_left _ (by omega)
  omega
/-- The k-th of a record's sectors. -/
def secAt (z g sr : Nat) (t : Bz) (k : Nat) : Bz := secX z g sr k (npar (z - 25) t.length) (chunk (z - 25) t k)
theorem secAt_len {z : Nat} (hz : 64 ≤ z ∧ z ≤ 512) (g sr : Nat) (t : Bz) (k : Nat) : (secAt z g sr t k).length = z := by
  unfold secAt
  have := chunk_len (z - 25) t k
  exact sec_len (by omega)
theorem readX_at {z g sr : Nat} {t : Bz} {k : Nat} (hz : 64 ≤ z ∧ z ≤ 512) (hg : g < 18446744073709551616) (hs : sr < 18446744073709551616) (ht : t.length ≤ 4096) (hk : k < npar (z - 25) t.length) :
    readX (z : Int) (secAt z g sr t k) = (⟨g, sr, k, npar (z - 25) t.length, chunk (z - 25) t k⟩, 0) := by
  have h1 := np_small hz ht
  have h2 := chunk_len (z - 25) t k
  exact readX_sec hz hg hs hk (by omega) (by omega) (chunk_form (by omega) ht hk)
theorem recX_split {z g sr : Nat} {t S : Bz} (hz : 64 ≤ z ∧ z ≤ 512) (hg : g < 18446744073709551616) (hs : sr < 18446744073709551616) (ht : t.length ≤ 4096)
    (hc : ∀ k, k < npar (z - 25) t.length → chunk z S k = secAt z g sr t k) (hS : npar (z - 25) t.length * z ≤ S.length) :
    ∀ (f k n : Nat) (txt : Bz), k < npar (z - 25) t.length → npar (z - 25) t.length ≤ f + k → (0 < k → n = npar (z - 25) t.length) → recX z g sr S f k n txt = (txt ++ t.drop (k * (z - 25)), npar (z - 25) t.length)
  | 0, k, n, txt, hk, hf, hn => by omega
  | f + 1, k, n, txt, hk, hf, hn => by
    have hr := readX_at hz hg hs ht hk
    have hlast := npar_last (r := z - 25) (by omega) hk
    have hkz : (k + 1) * z ≤ npar (z - 25) t.length * z := Nat.mul_le_mul_right _ hk
    have hok : stepOk z g sr S k n (readX (z : Int) (chunk z S k)) := by
      rw [hc k hk, hr]
      exact ⟨by omega, rfl, rfl, rfl, rfl, fun q => (hn q).symm⟩
    rw [recX_yes hok, hc k hk, hr]
    show (if k + 1 = npar (z - 25) t.length then _ else _) = _
    by_cases h1 : k + 1 = npar (z - 25) t.length
    · rw [if_pos h1]
      have h2 := hlast.2 h1
      have h3 : chunk (z - 25) t k = t.drop (k * (z - 25)) := by
        unfold chunk
        exact List.take_of_length_le (by rw [List.length_drop]; exact h2)
      rw [h3]
    · rw [if_neg h1]
      show recX z g sr S f (k + 1) (npar (z - 25) t.length) (txt ++ chunk (z - 25) t k) = _
      rw [recX_split hz hg hs ht hc hS f (k + 1) _ _ (by omega) (by omega) (fun _ => rfl)]
      have h3 : chunk (z - 25) t k ++ t.drop ((k + 1) * (z - 25)) = t.drop (k * (z - 25)) := by
        unfold chunk
        rw [Nat.add_mul, Nat.one_mul, ← List.drop_drop, List.take_append_drop]
      rw [List.append_assoc, h3]
theorem recA_split {z g sr : Nat} {t S : Bz} (hz : 64 ≤ z ∧ z ≤ 512) (hg : g < 18446744073709551616) (hs : sr < 18446744073709551616) (ht : t.length ≤ 4096)
    (hc : ∀ k, k < npar (z - 25) t.length → chunk z S k = secAt z g sr t k) (hS : npar (z - 25) t.length * z ≤ S.length) : recA z g sr S = (t, npar (z - 25) t.length) := by
  have h1 : npar (z - 25) t.length * 1 ≤ npar (z - 25) t.length * z := Nat.mul_le_mul_left _ (by omega)
  have := recX_split hz hg hs ht hc hS (S.length + 1) 0 0 [] (npar_pos _ _) (by omega) (fun q => absurd q (by omega))
  rw [Nat.zero_mul] at this
  exact this
theorem recX_bad {z g sr : Nat} {t S : Bz} {j : Nat} (hz : 64 ≤ z ∧ z ≤ 512) (hg : g < 18446744073709551616) (hs : sr < 18446744073709551616) (ht : t.length ≤ 4096) (hj : j < npar (z - 25) t.length)
    (hc : ∀ k, k < j → chunk z S k = secAt z g sr t k) (hb : (readX (z : Int) (chunk z S j)).2 ≠ 0) :
    ∀ (f k n : Nat) (txt : Bz), k ≤ j → recX z g sr S f k n txt = ([], 0)
  | 0, k, n, txt, hk => rfl
  | f + 1, k, n, txt, hk => by
    by_cases hkj : k = j
    · subst hkj
      exact recX_no fun q => hb q.2.1
    by_cases hok : stepOk z g sr S k n (readX (z : Int) (chunk z S k))
    · rw [recX_yes hok, hc k (by omega), readX_at hz hg hs ht (by omega : k < npar (z - 25) t.length)]
      show (if k + 1 = npar (z - 25) t.length then _ else _) = _
      rw [if_neg (by omega)]
      exact recX_bad hz hg hs ht hj hc hb f (k + 1) _ _ (by omega)
    · exact recX_no hok
theorem recA_other {z g sr g' sr' : Nat} {t S : Bz} (hz : 64 ≤ z ∧ z ≤ 512) (hg : g < 18446744073709551616) (hs : sr < 18446744073709551616) (ht : t.length ≤ 4096)
    (hc : chunk z S 0 = secAt z g sr t 0) (h : ¬ (g = g' ∧ sr = sr')) : recA z g' sr' S = ([], 0) := by
  refine recX_no fun q => h ?_
  have h2 := q.2.2
  rw [hc, readX_at hz hg hs ht (npar_pos _ _)] at h2
  exact ⟨h2.1, h2.2.1⟩
theorem recA_nil {z : Nat} (hz : 64 ≤ z) (g sr : Nat) : recA z g sr [] = ([], 0) := by
  refine recX_no fun q => ?_
  have := q.1
  simp only [List.length_nil] at this
  omega
theorem scanX_stop {z g : Nat} {T : Bz} {used : Nat} {out : List Bz} (h : (recA z g out.length (T.drop (used * z))).2 = 0) : ∀ f, scanX z g T f used out = (out, used)
  | 0 => rfl
  | f + 1 => by
    show (if _ then _ else _) = _
    rw [if_pos h]
theorem scanX_go {z g : Nat} {T : Bz} {used : Nat} {out : List Bz} {f : Nat} (h : (recA z g out.length (T.drop (used * z))).2 ≠ 0) :
    scanX z g T (f + 1) used out = scanX z g T f (used + (recA z g out.length (T.drop (used * z))).2) (out ++ [(recA z g out.length (T.drop (used * z))).1]) := by
  show (if _ then _ else _) = _
  rw [if_neg h]
theorem scanX_mono {z g : Nat} {T : Bz} : ∀ (f used : Nat) (out : List Bz), out <+: (scanX z g T f used out).1 ∧ used ≤ (scanX z g T f used out).2
  | 0, used, out => ⟨List.prefix_rfl, Nat.le_refl _⟩
  | f + 1, used, out => by
    by_cases h : (recA z g out.length (T.drop (used * z))).2 = 0
    · rw [scanX_stop h]
      exact ⟨List.prefix_rfl, Nat.le_refl _⟩
    · rw [scanX_go h]
      have ih := scanX_mono (z := z) (g := g) (T := T) f (used + (recA z g out.length (T.drop (used * z))).2) (out ++ [(recA z g out.length (T.drop (used * z))).1])
      exact ⟨(List.prefix_append _ _).trans ih.1, by omega⟩
def secs (z : Nat) : List Bz → Nat
  | [] => 0
  | t :: L => npar (z - 25) t.length + secs z L
theorem secs_app (z : Nat) : ∀ A B : List Bz, secs z (A ++ B) = secs z A + secs z B
  | [], B => by simp [secs]
  | t :: A, B => by rw [List.cons_append, secs, secs, secs_app z A B]; omega
/-- These records stand there, from that sector on, of those serials. -/
def placed (z g : Nat) (T : Bz) : Nat → Nat → List Bz → Prop
  | _, _, [] => True
  | u, i, t :: L => ((∀ k, k < npar (z - 25) t.length → chunk z T (u + k) = secAt z g i t k) ∧ (u + npar (z - 25) t.length) * z ≤ T.length) ∧ placed z g T (u + npar (z - 25) t.length) (i + 1) L
theorem scanX_placed {z g : Nat} {T : Bz} (hz : 64 ≤ z ∧ z ≤ 512) (hg : g < 18446744073709551616) : ∀ (L : List Bz) (u : Nat) (out : List Bz) (f : Nat), (∀ t ∈ L, t.length ≤ 4096) → out.length + L.length < 18446744073709551616 → placed z g T u out.length L →
    scanX z g T (f + L.length) u out = scanX z g T f (u + secs z L) (out ++ L)
  | [], u, out, f, _, _, _ => by simp [secs]
  | t :: L, u, out, f, hl, hn, hp => by
    have hn' : out.length + (L.length + 1) < 18446744073709551616 := hn
    have ht := hl t (List.mem_cons_self ..)
    have hr : recA z g out.length (T.drop (u * z)) = (t, npar (z - 25) t.length) := by
      refine recA_split hz hg (by omega) ht (fun k hk => ?_) ?_
      · rw [chunk_drop]
        exact hp.1.1 k hk
      · rw [List.length_drop]
        have := hp.1.2
        rw [Nat.add_mul] at this
        omega
    have hne : (recA z g out.length (T.drop (u * z))).2 ≠ 0 := by
      rw [hr]
      have := npar_pos (z - 25) t.length
      show npar (z - 25) t.length ≠ 0
      omega
    rw [List.length_cons, ← Nat.add_assoc, scanX_go hne, hr]
    have ih := scanX_placed hz hg L (u + npar (z - 25) t.length) (out ++ [t]) f (fun x hx => hl x (List.mem_cons_of_mem _ hx)) (by rw [List.length_append, List.length_singleton]; omega) (by rw [List.length_append, List.length_singleton]; exact hp.2)
    rw [ih, secs, List.append_assoc]
    congr 1
    omega
theorem secs_ge (z : Nat) : ∀ L : List Bz, L.length ≤ secs z L
  | [] => Nat.le_refl _
  | t :: L => by
    have := secs_ge z L
    have := npar_pos (z - 25) t.length
    rw [secs, List.length_cons]
    omega
/-! ### The sectors of several records, one behind the other -/
def textOf (z g : Nat) : Nat → List Bz → Bz
  | _, [] => []
  | i, t :: L => (splitL z g i t).flatten ++ textOf z g (i + 1) L
theorem textOf_app (z g : Nat) : ∀ (A B : List Bz) (i : Nat), textOf z g i (A ++ B) = textOf z g i A ++ textOf z g (i + A.length) B
  | [], B, i => by simp [textOf]
  | t :: A, B, i => by rw [List.cons_append, textOf, textOf, textOf_app z g A B (i + 1), List.append_assoc, List.length_cons, show i + (A.length + 1) = i + 1 + A.length by omega]
theorem splitL_at {z g sr : Nat} {t : Bz} {k : Nat} (h : k < npar (z - 25) t.length) : (splitL z g sr t)[k]? = some (secAt z g sr t k) := by
  unfold splitL
  rw [List.getElem?_map, List.getElem?_range h]
  rfl
theorem splitL_len (z g sr : Nat) (t : Bz) : (splitL z g sr t).length = npar (z - 25) t.length := by simp [splitL]
theorem splitL_size {z : Nat} (hz : 64 ≤ z ∧ z ≤ 512) {g sr : Nat} {t : Bz} {x : Bz} (h : x ∈ splitL z g sr t) : x.length = z := by
  unfold splitL at h
  obtain ⟨k, _, rfl⟩ := List.mem_map.1 h
  exact secAt_len hz g sr t k
theorem flat_size {z : Nat} : ∀ {l : List Bz}, (∀ x ∈ l, x.length = z) → l.flatten.length = l.length * z
  | [], _ => by simp
  | a :: l, h => by
    rw [List.flatten_cons, List.length_append, h a (List.mem_cons_self ..), flat_size (fun x hx => h x (List.mem_cons_of_mem _ hx)), List.length_cons, Nat.add_mul]
    omega
theorem flat_chunk {z : Nat} : ∀ {l : List Bz} (pre post : Bz) (u k : Nat) (x : Bz), pre.length = u * z → (∀ x ∈ l, x.length = z) → l[k]? = some x → chunk z (pre ++ (l.flatten ++ post)) (u + k) = x
  | [], _, _, _, _, _, _, _, h => by simp at h
  | a :: l, pre, post, u, 0, x, hp, hl, h => by
    have ha := hl a (List.mem_cons_self ..)
    obtain rfl : a = x := by simpa using h
    unfold chunk
    rw [Nat.add_zero, List.drop_left' hp, List.flatten_cons, List.append_assoc, List.take_left' ha]
  | a :: l, pre, post, u, k + 1, x, hp, hl, h => by
    have ha := hl a (List.mem_cons_self ..)
    have ih := flat_chunk (l := l) (pre ++ a) post (u + 1) k x (by rw [List.length_append, hp, ha, Nat.add_mul, Nat.one_mul]) (fun x hx => hl x (List.mem_cons_of_mem _ hx)) (by simpa using h)
    rw [show u + (k + 1) = u + 1 + k by omega, List.flatten_cons, ← ih]
    congr 1
    simp only [List.append_assoc]
theorem split_size {z : Nat} (hz : 64 ≤ z ∧ z ≤ 512) (g sr : Nat) (t : Bz) : (splitL z g sr t).flatten.length = npar (z - 25) t.length * z := by
  rw [flat_size (fun x hx => splitL_size hz hx), splitL_len]
theorem text_size {z : Nat} (hz : 64 ≤ z ∧ z ≤ 512) (g : Nat) : ∀ (L : List Bz) (i : Nat), (textOf z g i L).length = secs z L * z
  | [], i => by simp [textOf, secs]
  | t :: L, i => by rw [textOf, secs, List.length_append, split_size hz, text_size hz g L, Nat.add_mul]
theorem text_placed {z : Nat} (hz : 64 ≤ z ∧ z ≤ 512) (g : Nat) : ∀ (L : List Bz) (pre post : Bz) (u i : Nat), pre.length = u * z → placed z g (pre ++ (textOf z g i L ++ post)) u i L
  | [], _, _, _, _, _ => trivial
  | t :: L, pre, post, u, i, hp => by
    have hs := split_size hz g i t
    have e : pre ++ (textOf z g i (t :: L) ++ post) = pre ++ ((splitL z g i t).flatten ++ (textOf z g (i + 1) L ++ post)) := by rw [textOf]; simp only [List.append_assoc]
    have e2 : pre ++ (textOf z g i (t :: L) ++ post) = (pre ++ (splitL z g i t).flatten) ++ (textOf z g (i + 1) L ++ post) := by rw [e]; simp only [List.append_assoc]
    refine ⟨⟨fun k hk => ?_, ?_⟩, ?_⟩
    · rw [e]
      exact flat_chunk pre _ u k _ hp (fun x hx => splitL_size hz hx) (splitL_at hk)
    · rw [e, List.length_append, List.length_append, hp, hs, Nat.add_mul]
      omega
    · rw [e2]
      exact text_placed hz g L _ post _ (i + 1) (by rw [List.length_append, hp, hs, Nat.add_mul])
/-- What is scanned of records, with something behind. -/
theorem scan_text {z g : Nat} (hz : 64 ≤ z ∧ z ≤ 512) (hg : g < 18446744073709551616) (L : List Bz) (more : Bz) (hl : ∀ t ∈ L, t.length ≤ 4096) (hn : L.length < 18446744073709551616) :
    ∃ f, scanA z g (textOf z g 0 L ++ more) = scanX z g (textOf z g 0 L ++ more) f (secs z L) L := by
  have hp := text_placed hz g L [] more 0 0 (by simp)
  rw [List.nil_append] at hp
  have h1 := secs_ge z L
  have h2 : secs z L * 1 ≤ secs z L * z := Nat.mul_le_mul_left _ (by omega)
  have h3 : (textOf z g 0 L ++ more).length = secs z L * z + more.length := by rw [List.length_append, text_size hz]
  refine ⟨(textOf z g 0 L ++ more).length + 1 - L.length, ?_⟩
  have := scanX_placed hz hg L 0 [] ((textOf z g 0 L ++ more).length + 1 - L.length) hl (by rw [List.length_nil]; omega) hp
  rw [show (textOf z g 0 L ++ more).length + 1 - L.length + L.length = (textOf z g 0 L ++ more).length + 1 by omega, Nat.zero_add, List.nil_append] at this
  exact this
theorem scan_all {z g : Nat} (hz : 64 ≤ z ∧ z ≤ 512) (hg : g < 18446744073709551616) (L : List Bz) (hl : ∀ t ∈ L, t.length ≤ 4096) (hn : L.length < 18446744073709551616) : scanA z g (textOf z g 0 L) = (L, secs z L) := by
  obtain ⟨f, hf⟩ := scan_text hz hg L [] hl hn
  rw [List.append_nil] at hf
  rw [hf]
  refine scanX_stop ?_ f
  rw [List.drop_of_length_le (by rw [text_size hz]; omega), recA_nil hz.1]
theorem scan_more {z g : Nat} (hz : 64 ≤ z ∧ z ≤ 512) (hg : g < 18446744073709551616) (L : List Bz) (more : Bz) (hl : ∀ t ∈ L, t.length ≤ 4096) (hn : L.length < 18446744073709551616) :
    L <+: (scanA z g (textOf z g 0 L ++ more)).1 ∧ secs z L ≤ (scanA z g (textOf z g 0 L ++ more)).2 := by
  obtain ⟨f, hf⟩ := scan_text hz hg L more hl hn
  rw [hf]
  exact scanX_mono f _ _
end Go.LX
