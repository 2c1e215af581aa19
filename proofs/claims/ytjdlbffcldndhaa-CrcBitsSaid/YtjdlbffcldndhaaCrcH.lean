import Derived.Test.YtjdlbffcldndhaaCrcG
set_option maxRecDepth 100000
set_option autoImplicit false
set_option linter.unusedVariables false
set_option linter.unusedSimpArgs false
namespace Go.LX
open Go.Proofs

/-- The bytes behind k of the 32 bits. -/
def burst (b : List UInt8) (m : Nat) (y : BitVec 32) : Nat → List UInt8
  | 0 => b
  | k + 1 => if y.getLsbD k then Crc.flip (burst b m y k) (m + k) else burst b m y k
theorem burst_length (b : List UInt8) (m : Nat) (y : BitVec 32) : ∀ k, (burst b m y k).length = b.length
  | 0 => rfl
  | k + 1 => by
    rw [burst]
    split
    · rw [Crc.flip_length, burst_length b m y k]
    · exact burst_length b m y k
def lawBS : Spec := fun args H Q => match args, H with
  | [.str s, .int .i64 a, .int .u32 y], [] => ((∃ r : BitVec 32, y = u32 r) ∧ -9223372036854775808 ≤ a ∧ a ≤ 9223372036854775807) ∧ Q (.bool true) []
  | _, _ => False
theorem quo_go (m k : Nat) (h : m + k < 1000000) : IntKind.i64.wrap (((m : Int) + k).tdiv 8) = (((m + k) / 8 : Nat) : Int) := by
  rw [Int.tdiv_eq_ediv_of_nonneg (by omega), wrap_i64 (by omega) (by omega)]
  omega
theorem rem_go (m k : Nat) : ((m : Int) + k).tmod 8 = (((m + k) % 8 : Nat) : Int) := by
  rw [Int.tmod_eq_emod_of_nonneg (by omega)]
  omega
theorem bys_get {l : List UInt8} {i : Nat} (h : i < l.length) : (bys l)[((i : Nat) : Int).toNat]? = some (.int .u8 ((l.getD i 0).toNat : Int)) := by
  rw [Int.toNat_natCast, bys, List.getElem?_map, List.getElem?_eq_getElem h, List.getD_eq_getElem?_getD, List.getElem?_eq_getElem h]
  rfl
theorem bys_u8 (l : List UInt8) : ∀ x ∈ bys l, isU8 x = true := by
  intro x hx
  obtain ⟨b, _, rfl⟩ := List.mem_map.1 hx
  rfl
theorem bys_bytes (l : List UInt8) : (bys l).map cvByte = l := by
  unfold bys
  rw [List.map_map]
  have : (cvByte ∘ fun b : UInt8 => CV.int .u8 (b.toNat : Int)) = id := by
    funext b
    show UInt8.ofNat ((b.toNat : Int)).toNat = b
    rw [Int.toNat_natCast]
    simp
  rw [this, List.map_id]
theorem bys_set (l : List UInt8) (i : Nat) (b : UInt8) : (bys l).set i (.int .u8 (b.toNat : Int)) = bys (l.set i b) := by
  unfold bys
  rw [List.map_set]
theorem shl_go (j : Nat) (h : j < 8) : shlI .u8 1 (j : Int) = u8 (UInt8.ofNat (2 ^ j)).toBitVec := by
  match j, h with
  | 0, _ => rfl
  | 1, _ => rfl
  | 2, _ => rfl
  | 3, _ => rfl
  | 4, _ => rfl
  | 5, _ => rfl
  | 6, _ => rfl
  | 7, _ => rfl
theorem flip_bys (l : List UInt8) (p : Nat) : (bys l).set ((p / 8 : Nat) : Int).toNat (.int .u8 (bitXor .u8 ((l.getD (p / 8) 0).toNat : Int) (shlI .u8 1 ((p % 8 : Nat) : Int)))) = bys (Crc.flip l p) := by
  rw [Int.toNat_natCast, shl_go _ (by omega), show ((l.getD (p / 8) 0).toNat : Int) = u8 (l.getD (p / 8) 0).toBitVec from rfl, xor_u8]
  exact bys_set l (p / 8) (l.getD (p / 8) 0 ^^^ UInt8.ofNat (2 ^ (p % 8)))
/-- The low k bits. -/
def lowb (y : BitVec 32) : Nat → BitVec 32
  | 0 => 0
  | k + 1 => if y.getLsbD k then lowb y k ^^^ (Crc.one <<< k) else lowb y k
theorem lowb_bit (y : BitVec 32) : ∀ k, k ≤ 32 → ∀ i, i < 32 → (lowb y k).getLsbD i = (decide (i < k) && y.getLsbD i)
  | 0, _, i, hi => by simp [lowb]
  | k + 1, hk, i, hi => by
    have ih := lowb_bit y k (by omega) i hi
    have h1 : (Crc.one <<< k).getLsbD i = decide (i = k) := by
      unfold Crc.one
      rw [BitVec.getLsbD_shiftLeft]
      by_cases h : i = k
      · subst h; simp [hi]
      · by_cases h2 : i < k
        · simp [h2, h]
        · have : i - k ≠ 0 := by omega
          simp [h2, h, this]
    rw [lowb]
    by_cases hik : i = k
    · subst hik
      cases hb : y.getLsbD i
      · simp [ih]
      · simp only [if_true]
        rw [BitVec.getLsbD_xor, ih, h1]
        simp
    · have h3 : (decide (i < k + 1)) = decide (i < k) := by
        apply decide_eq_decide.2
        omega
      rw [h3, ← ih]
      split
      · rw [BitVec.getLsbD_xor, h1]
        simp [hik]
      · rfl
theorem lowb_all (y : BitVec 32) : lowb y 32 = y := by
  apply BitVec.eq_of_getLsbD_eq
  intro i hi
  rw [lowb_bit y 32 (by omega) i hi]
  simp [hi]
theorem over_burst (b : List UInt8) (m : Nat) (y : BitVec 32) (hm : m ≤ 8 * b.length) : ∀ k, k ≤ 32 → (∀ j, j < k → y.getLsbD j = true → m + j < 8 * b.length) → ∀ r, Crc.over r (burst b m y k) = Crc.over r b ^^^ Crc.steps (8 * b.length - m) (lowb y k)
  | 0, _, _, r => by
    rw [burst, lowb, Crc.steps_zero]
    simp
  | k + 1, hk, h, r => by
    have ih := over_burst b m y hm k (by omega) (fun j hj => h j (by omega)) r
    rw [burst, lowb]
    split
    · rename_i hb
      have hlt := h k (by omega) hb
      rw [Crc.over_flip _ r (m + k) (by rw [burst_length]; exact hlt), ih, burst_length, Crc.steps_xor, Crc.steps_one k _ (by omega) (by omega), BitVec.xor_assoc]
      congr 3
      omega
    · exact ih
theorem burst_wrong (s : List UInt8) (m : Nat) (y : BitVec 32) (hm : m ≤ 8 * (s.length + 4)) (h : ∀ j, j < 32 → y.getLsbD j = true → m + j < 8 * (s.length + 4)) (hy : y ≠ 0) : rightB (burst (Crc.seal_ s) m y 32) = false := by
  have hl : 4 ≤ (burst (Crc.seal_ s) m y 32).length := by rw [burst_length, seal_len]; omega
  have hr : rightB (burst (Crc.seal_ s) m y 32) = true → False := by
    intro hb
    unfold rightB at hb
    rw [Bool.and_eq_true] at hb
    have hright : Crc.right (burst (Crc.seal_ s) m y 32) := ⟨of_decide_eq_true hb.1, of_decide_eq_true hb.2⟩
    have h2 := (Crc.over_right _ hl).1 hright
    rw [over_burst _ m y (by rw [seal_len]; exact hm) 32 (by omega) (by rw [seal_len]; exact h), Crc.over_seal, lowb_all] at h2
    have h3 : Crc.steps (8 * (Crc.seal_ s).length - m) y = 0 := by
      have := congrArg (fun v => Crc.good ^^^ v) h2
      simpa [← BitVec.xor_assoc] using this
    exact hy (Crc.steps_inj _ h3)
  cases hb : rightB (burst (Crc.seal_ s) m y 32) with
  | false => rfl
  | true => exact (hr hb).elim
theorem bit_go (y : BitVec 32) (k : Nat) (h : k < 32) : decide (bitAnd .u32 (shrI .u32 (u32 y) (k : Int)) 1 = 1) = y.getLsbD k := by
  rw [shr_u32 _ _ (by omega), show (1 : Int) = u32 1 from rfl, and_u32]
  have key : ((y >>> k) &&& 1 = 1) ↔ y.getLsbD k = true := by
    rw [show y.getLsbD k = (y >>> k).getLsbD 0 by simp]
    generalize y >>> k = z
    constructor
    · intro hz
      have := congrArg (fun v : BitVec 32 => v.getLsbD 0) hz
      simpa using this
    · intro hz
      apply BitVec.eq_of_getLsbD_eq
      intro i hi
      cases i with
      | zero => simpa using hz
      | succ i => simp
  cases hb : y.getLsbD k with
  | true => rw [key.2 hb]; simp
  | false =>
    apply decide_eq_false
    intro he
    have := key.1 (u32_inj he)
    rw [hb] at this
    cases this
theorem bursts_law : Meets Try.prog [] 4 lawBS := by
  refine meets_of Γok Try.func4 rfl ?_
  intro args H Q h
  unfold lawBS at h
  split at h
  case h_2 => exact h.elim
  rename_i s a y
  obtain ⟨⟨⟨y, rfl⟩, ha1, ha2⟩, h⟩ := h
  (refine sx_sound Γok _ ?_; conv => whnf)
  refine CallVC.of [] awake_k ?_
  (conv => whnf)
  (repeat (first | (refine Both.lit_true ?_; conv => whnf) | (refine Both.lit_false ?_; conv => whnf) | (refine Need.mk (by first | omega | exact ⟨by omega, by omega⟩ | rfl | exact ⟨rfl, rfl⟩) ?_; conv => whnf)))
  refine Both.dec (fun hlt => ?_) (fun hlen => ?_)
  · (conv => whnf)
    (repeat (first | (refine Both.lit_true ?_; conv => whnf) | (refine Both.lit_false ?_; conv => whnf) | (refine Need.mk (by first | omega | exact ⟨by omega, by omega⟩ | rfl | exact ⟨rfl, rfl⟩) ?_; conv => whnf)))
    exact ⟨_, _, WeakV.drop rfl, h⟩
  (conv => whnf)
  (repeat (first | (refine Both.lit_true ?_; conv => whnf) | (refine Both.lit_false ?_; conv => whnf) | (refine Need.mk (by first | omega | exact ⟨by omega, by omega⟩ | rfl | exact ⟨rfl, rfl⟩) ?_; conv => whnf)))
  refine Both.dec (fun hlt => ?_) (fun hy0 => ?_)
  · (conv => whnf)
    (repeat (first | (refine Both.lit_true ?_; conv => whnf) | (refine Both.lit_false ?_; conv => whnf) | (refine Need.mk (by first | omega | exact ⟨by omega, by omega⟩ | rfl | exact ⟨rfl, rfl⟩) ?_; conv => whnf)))
    exact ⟨_, _, WeakV.drop rfl, h⟩
  (conv => whnf)
  (repeat (first | (refine Both.lit_true ?_; conv => whnf) | (refine Both.lit_false ?_; conv => whnf) | (refine Need.mk (by first | omega | exact ⟨by omega, by omega⟩ | rfl | exact ⟨rfl, rfl⟩) ?_; conv => whnf)))
  refine Both.dec (fun hlt => ?_) (fun ha0 => ?_)
  · (conv => whnf)
    (repeat (first | (refine Both.lit_true ?_; conv => whnf) | (refine Both.lit_false ?_; conv => whnf) | (refine Need.mk (by first | omega | exact ⟨by omega, by omega⟩ | rfl | exact ⟨rfl, rfl⟩) ?_; conv => whnf)))
    exact ⟨_, _, WeakV.drop rfl, h⟩
  (conv => whnf)
  (repeat (first | (refine Both.lit_true ?_; conv => whnf) | (refine Both.lit_false ?_; conv => whnf) | (refine Need.mk (by first | omega | exact ⟨by omega, by omega⟩ | rfl | exact ⟨rfl, rfl⟩) ?_; conv => whnf)))
  rw [wrap_i64 (n := (s.length : Int) + 4) (by omega) (by omega), wrap_i64 (n := 8 * ((s.length : Int) + 4)) (by omega) (by omega)]
  refine Both.dec (fun hlt => ?_) (fun ha9 => ?_)
  · (conv => whnf)
    exact ⟨_, _, WeakV.drop rfl, h⟩
  (conv => whnf)
  refine CallVC.of [] seal_k ⟨by omega, ?_⟩
  (conv => whnf)
  obtain ⟨m, rfl⟩ : ∃ m : Nat, a = m := ⟨a.toNat, by omega⟩
  refine loop_rule (fun k : Nat => ⟨[.str s, .int .i64 (m : Int), .int .u32 (u32 y), .any, .any, .any, .any, .own 0, .int .i64 (k : Int), .any, .any, .any, .any, .any, .any, .any, .any, .any, .any, .any, .any, .any, .any, .any, .any, .any, .any, .any, .any, .any, .any, .any, .any, .any, .any, .any, .any, .any, .any, .any, .any, .any, .any, .any, .any, .any, .any, .any, .any, .any, .any, .any, .any, .any, .any, .any, .any, .any, .any, .any, .any, .any, .any, .any, .any, .any, .any, .any], [.own 5 1 (s.length + 4) (bys (burst (Crc.seal_ s) m y k)) true]⟩) (fun k => k ≤ 32 ∧ ∀ j, j < k → y.getLsbD j = true → m + j < 8 * (s.length + 4)) (fun k => 32 - k) 0 ⟨by omega, fun j hj => by omega⟩ ?_ ?_
  · refine Weak.le ?_ ?_
    · (repeat' ((conv => whnf); first | exact True.intro | (refine And.intro ?_ ?_)))
      all_goals first | rfl | done
    · (repeat' ((conv => whnf); first | exact True.intro | (refine And.intro ?_ ?_)))
      all_goals first | rfl | (rw [seal_len]; rfl) | done
  · rintro k ⟨hk, hj⟩
    (refine sx_sound Γok _ ?_; conv => whnf)
    refine Both.dec (fun hlt => ?_) (fun hge => ?_)
    · (conv => whnf)
      (repeat (first | (refine Both.lit_true ?_; conv => whnf) | (refine Both.lit_false ?_; conv => whnf) | (refine Need.mk (by first | omega | exact ⟨by omega, by omega⟩ | rfl | exact ⟨rfl, rfl⟩) ?_; conv => whnf)))
      rw [wrap_i64 (n := (m : Int) + k) (by omega) (by omega), bit_go y k (by omega)]
      refine Both.cases (fun hb => ?_) (fun hb => ?_)
      · (conv => whnf)
        (repeat (first | (refine Both.lit_true ?_; conv => whnf) | (refine Both.lit_false ?_; conv => whnf) | (refine Need.mk (by first | omega | exact ⟨by omega, by omega⟩ | rfl | exact ⟨rfl, rfl⟩) ?_; conv => whnf)))
        rw [wrap_i64 (n := 8 * ((s.length + 4 : Nat) : Int)) (by omega) (by omega)]
        refine Both.dec (fun hlt2 => ?_) (fun hin => ?_)
        · (conv => whnf)
          exact ⟨_, _, WeakV.drop rfl, h⟩
        · (conv => whnf)
          refine DrawVC.tail Γok 13 (by kernel_rfl) (by kernel_rfl) ?_
          (conv => whnf)
          (repeat (first | (refine Both.lit_true ?_; conv => whnf) | (refine Both.lit_false ?_; conv => whnf) | (refine Need.mk (by first | omega | exact ⟨by omega, by omega⟩ | rfl | exact ⟨rfl, rfl⟩) ?_; conv => whnf)))
          rw [quo_go m k (by omega)]
          refine Need.mk ⟨rfl, by omega, by omega⟩ ?_
          (conv => whnf)
          refine ⟨_, bys_get (by rw [burst_length, seal_len]; omega), ?_⟩
          (conv => whnf)
          rw [rem_go m k]
          (repeat (first | (refine Both.lit_true ?_; conv => whnf) | (refine Both.lit_false ?_; conv => whnf) | (refine Need.mk (by first | omega | exact ⟨by omega, by omega⟩ | rfl | exact ⟨rfl, rfl⟩) ?_; conv => whnf)))
          refine Need.mk ⟨rfl, by omega, by omega⟩ ?_
          (conv => whnf)
          refine Need.mk ⟨rfl, by rw [bys, List.length_map, burst_length, seal_len]; omega⟩ ?_
          (conv => whnf)
          refine ⟨k + 1, ⟨by omega, ?_⟩, by omega, Weak.le ?_ ?_⟩
          · intro j hj2 hb2
            omega
          · (repeat' ((conv => whnf); first | exact True.intro | (refine And.intro ?_ ?_)))
            all_goals first | rfl | (rw [wrap_i64 (by omega) (by omega)]; rfl)
          · (repeat' ((conv => whnf); first | exact True.intro | (refine And.intro ?_ ?_)))
            all_goals first | rfl | (rw [flip_bys, burst, if_pos hb]; done)
      · (conv => whnf)
        refine ⟨k + 1, ⟨by omega, ?_⟩, by omega, Weak.le ?_ ?_⟩
        · intro j hj2 hb2
          rcases Nat.lt_or_ge j k with h1 | h1
          · exact hj j h1 hb2
          · obtain rfl : j = k := by omega
            rw [hb] at hb2; cases hb2
        · (repeat' ((conv => whnf); first | exact True.intro | (refine And.intro ?_ ?_)))
          all_goals first | rfl | (rw [wrap_i64 (by omega) (by omega)]; rfl)
        · (repeat' ((conv => whnf); first | exact True.intro | (refine And.intro ?_ ?_)))
          all_goals first | rfl | (rw [burst, hb]; rfl)
    · obtain rfl : k = 32 := by omega
      (conv => whnf)
      refine Need.mk ⟨by rw [bys, List.length_map, burst_length, seal_len], bys_u8 _⟩ ?_
      (conv => whnf)
      rw [bys_bytes]
      refine CallVC.of [] right_k ⟨by rw [burst_length, seal_len]; omega, ?_⟩
      (conv => whnf)
      refine ⟨_, _, WeakV.drop (congrArg SV.bool ?_), h⟩
      rw [burst_wrong s m y (by omega) hj (fun h0 => hy0 (by rw [h0]; rfl))]
      rfl
end Go.LX
