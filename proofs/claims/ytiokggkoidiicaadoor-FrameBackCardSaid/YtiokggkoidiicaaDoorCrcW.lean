import Derived.Test.YtiokggkoidiicaaDoorTy
import Derived.Test.YtiokggkoidiicaaDoorCrcMath
set_option maxRecDepth 100000
set_option maxHeartbeats 4000000
set_option autoImplicit false
set_option linter.unusedVariables false
set_option linter.unusedSimpArgs false
namespace Go.LX
open Go.Proofs

/-! ## The program's table -/
def tabAt (i : Nat) : BitVec 32 := Crc.steps 8 (BitVec.ofNat 32 i)
def tabTo (n : Nat) : List SV := (List.range 256).map fun i => .int .u32 (if i < n then u32 (tabAt i) else 0)
def tableS : Spec := fun args H Q => match args, H with
  | [], [] => Q (.agg (tabTo 256)) []
  | _, _ => False

theorem tabTo_zero : tabTo 0 = List.replicate 256 (.int .u32 0) := by
  unfold tabTo
  apply List.ext_getElem?
  intro j
  rw [List.getElem?_map, List.getElem?_replicate]
  by_cases h : j < 256
  · simp [h]
  · simp [h]
theorem tabTo_length (n : Nat) : (tabTo n).length = 256 := by simp [tabTo]
theorem tabTo_set (n : Nat) (h : n < 256) : (tabTo n).set n (.int .u32 (u32 (tabAt n))) = tabTo (n + 1) := by
  apply List.ext_getElem?
  intro j
  rw [List.getElem?_set]
  unfold tabTo
  by_cases hj : n = j
  · subst hj
    simp [h]
  · rw [if_neg hj]
    by_cases hl : j < 256
    · have : (j < n) = (j < n + 1) := by simp; omega
      simp [hl, this]
    · simp [hl]

theorem tabTo_far (n : Nat) : ∀ y ∈ tabTo n, isFar y := by
  intro y hy
  obtain ⟨i, _, rfl⟩ := List.mem_map.1 hy
  trivial
theorem tabTo_ren (n : Nat) (f : Nat → Option Nat) : SV.renL f (tabTo n) = tabTo n := SV.renL_map f _ _ fun _ => rfl
theorem poly_mul (x : BitVec 32) : IntKind.u32.wrap (bitAnd .u32 (u32 x) 1 * 3988292384) = u32 (bif x.getLsbD 0 then Crc.poly else 0) := by
  have h1 : (1 : Int) = u32 1 := rfl
  have h2 : (3988292384 : Int) = u32 Crc.poly := rfl
  rw [h1, h2, and_u32, mul_u32]
  congr 1
  cases h : x.getLsbD 0
  · have : x &&& 1 = 0 := by
      apply BitVec.eq_of_getLsbD_eq
      intro i hi
      cases i with
      | zero => rw [BitVec.getLsbD_and, h]; rfl
      | succ i => simp
    rw [this]; simp
  · have : x &&& 1 = 1 := by
      apply BitVec.eq_of_getLsbD_eq
      intro i hi
      cases i with
      | zero => rw [BitVec.getLsbD_and, h]; rfl
      | succ i => simp
    rw [this]; simp

theorem step_go (x : BitVec 32) : bitXor .u32 (shrI .u32 (u32 x) 1) (IntKind.u32.wrap (bitAnd .u32 (u32 x) 1 * 3988292384)) = u32 (Crc.step x) := by
  rw [poly_mul, show (1 : Int) = ((1 : Nat) : Int) from rfl, shr_u32 x 1 (by omega), xor_u32]
  rfl

theorem table_zero : zeroCells ti118 = tabTo 0 := by
  rw [tabTo_zero]
  rfl
theorem u32_of_i64 (n : Nat) (h : n < 4294967296) : IntKind.u32.wrap (n : Int) = u32 (BitVec.ofNat 32 n) := by
  rw [wrap_u32_mod]
  unfold u32
  simp
theorem table_c : Meets Tryd.prog [] 73 tableS := by
  refine meets_of Γok Tryd.func73 rfl ?_
  intro args H Q h
  unfold tableS at h
  split at h
  case h_2 => exact h.elim
  (refine sx_sound Γok _ ?_; conv => whnf)
  refine loop_rule (fun k : Nat => ⟨[.ptr 0 0, .ptr 1 0, .any, .any, .int .i64 (k : Int), .any, .any, .any, .any, .any, .any, .any, .any, .any, .any, .any, .any, .any, .any, .any, .any, .any, .any], [.cells (tabTo 0) 118, .cells (tabTo k) 118]⟩) (fun k => k ≤ 256) (fun k => 256 - k) 0 (by omega) ?_ ?_
  · refine Weak.le ?_ ?_
    · (repeat' ((conv => whnf); first | exact True.intro | (refine And.intro ?_ ?_)))
      all_goals rfl
    · (repeat' ((conv => whnf); first | exact True.intro | (refine And.intro ?_ ?_)))
      all_goals first | rfl | exact .eq table_zero
  · intro k hk
    (refine sx_sound Γok _ ?_; conv => whnf)
    refine Both.dec (fun hlt => ?_) (fun hge => ?_)
    · (conv => whnf)
      refine loop_rule (fun j : Nat => ⟨[.ptr 0 0, .ptr 1 0, .int .i64 (k : Int), .int .u32 (u32 (Crc.steps j (BitVec.ofNat 32 k))), .int .i64 (k : Int), .any, .any, .any, .any, .int .i64 (j : Int), .any, .any, .any, .any, .any, .any, .any, .any, .any, .any, .any, .any, .any], [.cells (tabTo 0) 118, .cells (tabTo k) 118]⟩) (fun j => j ≤ 8) (fun j => 8 - j) 0 (by omega) ?_ ?_
      · refine Weak.le ?_ ?_
        · (repeat' ((conv => whnf); first | exact True.intro | (refine And.intro ?_ ?_)))
          all_goals first | rfl | (rw [u32_of_i64 k (by omega)]; rfl)
        · (repeat' ((conv => whnf); first | exact True.intro | (refine And.intro ?_ ?_)))
          all_goals first | rfl | exact .eq rfl
      · intro j hj
        (refine sx_sound Γok _ ?_; conv => whnf)
        refine Both.dec (fun hlt2 => ?_) (fun hge2 => ?_)
        · (conv => whnf)
          refine Need.mk (by omega) ?_
          (conv => whnf)
          refine ⟨j + 1, by omega, by omega, Weak.le ?_ ?_⟩
          · (repeat' ((conv => whnf); first | exact True.intro | (refine And.intro ?_ ?_)))
            all_goals first | rfl | (rw [step_go, ← Crc.steps_succ]; done) | (rw [wrap_i64 (by omega) (by omega)]; rfl)
          · (repeat' ((conv => whnf); first | exact True.intro | (refine And.intro ?_ ?_)))
            all_goals first | rfl | exact .eq rfl
        · have h8 : j = 8 := by omega
          subst h8
          (conv => whnf)
          refine Need.mk (by omega) ?_
          (conv => whnf)
          refine Need.mk ⟨rfl, by rw [tabTo_length]; omega⟩ ?_
          (conv => whnf)
          refine ⟨k + 1, by omega, by omega, Weak.le ?_ ?_⟩
          · (repeat' ((conv => whnf); first | exact True.intro | (refine And.intro ?_ ?_)))
            all_goals first | rfl | (rw [wrap_i64 (by omega) (by omega)]; rfl)
          · (repeat' ((conv => whnf); first | exact True.intro | (refine And.intro ?_ ?_)))
            all_goals first | rfl | exact .eq rfl | (refine .eq ?_; rw [← tabTo_set k (by omega)]; rw [Nat.zero_add, Int.toNat_natCast]; rfl)
    · have hk' : k = 256 := by omega
      subst hk'
      (conv => whnf)
      refine Need.mk (tabTo_length _) ?_
      (conv => whnf)
      refine Need.mk ⟨tabTo_length _, tabTo_length _, tabTo_far _⟩ ?_
      (conv => whnf)
      refine Need.mk (tabTo_length _) ?_
      (conv => whnf)
      exact ⟨_, _, WeakV.drop (congrArg SV.agg (tabTo_ren _ _)), h⟩


def overS : Spec := fun args H Q => match args, H with
  | [.int .u32 x, .str s], [] => ∃ r : BitVec 32, x = u32 r ∧ s.length < 1000000 ∧ Q (.int .u32 (u32 (Crc.over r s))) []
  | _, _ => False
theorem idx_go (x : BitVec 32) (b : UInt8) : bitXor .u8 (IntKind.u8.wrap (u32 x)) (b.toNat : Int) = u8 (x.setWidth 8 ^^^ b.toBitVec) := by
  rw [u8_of_u32, show ((b.toNat : Nat) : Int) = u8 b.toBitVec from rfl, xor_u8]
theorem tab_get (n : BitVec 8) : (tabTo 256)[(u8 n).toNat]? = some (.int .u32 (u32 (Crc.tab n))) := by
  have hn := n.isLt
  unfold tabTo u8
  rw [List.getElem?_map, Int.toNat_natCast, List.getElem?_range (by omega)]
  simp only [Option.map_some, hn, if_true]
  unfold tabAt Crc.tab
  congr 4
  apply BitVec.eq_of_toNat_eq
  simp
theorem over_go (r : BitVec 32) (s : List UInt8) {k : Nat} (h : k < s.length) : bitXor .u32 (shrI .u32 (u32 (Crc.over r (s.take k))) 8) (u32 (Crc.tab ((Crc.over r (s.take k)).setWidth 8 ^^^ (s.getD k 0).toBitVec))) = u32 (Crc.over r (s.take (k + 1))) := by
  rw [show (8 : Int) = ((8 : Nat) : Int) from rfl, shr_u32 _ 8 (by omega), xor_u32, ← Crc.byte_tab, List.take_succ_eq_append_getElem h, Crc.over_append, List.getD_eq_getElem?_getD, List.getElem?_eq_getElem h]
  rfl
theorem table_k : Contract Tryd.prog [] 73 tableS := ⟨⟨⟨_, rfl, rfl, rfl⟩⟩, table_c⟩
theorem over_c : Meets Tryd.prog [] 64 overS := by
  refine meets_of Γok Tryd.func64 rfl ?_
  intro args H Q h
  unfold overS at h
  split at h
  case h_2 => exact h.elim
  obtain ⟨r, rfl, hs, h⟩ := h
  (refine sx_sound Γok _ ?_; conv => whnf)
  refine CallVC.of [] table_k ?_
  (conv => whnf)
  simp only [tabTo_ren]
  refine Need.mk ⟨tabTo_length _, rfl, tabTo_far _⟩ ?_
  (conv => whnf)
  rename_i s
  refine loop_rule (fun k : Nat => ⟨[.int .u32 (u32 (Crc.over r (s.take k))), .str s, .any, .any, .any, .ptr 0 0, .any, .any, .str s, .int .i64 (s.length : Int), .int .i64 (k : Int), .any, .any, .any, .any, .any, .any, .any, .any, .any, .any, .any, .any, .any, .any, .any], [.cells (tabTo 256) 118]⟩) (fun k => k ≤ s.length) (fun k => s.length - k) 0 (by omega) ?_ ?_
  · refine Weak.le ?_ ?_
    · (repeat' ((conv => whnf); first | exact True.intro | (refine And.intro ?_ ?_)))
      all_goals rfl
    · (repeat' ((conv => whnf); first | exact True.intro | (refine And.intro ?_ ?_)))
      all_goals first | rfl | exact .eq rfl
  · intro k hk
    (refine sx_sound Γok _ ?_; conv => whnf)
    refine Both.dec (fun hlt => ?_) (fun hge => ?_)
    · (conv => whnf)
      (repeat (first | (refine Both.lit_true ?_; conv => whnf) | (refine Both.lit_false ?_; conv => whnf) | (refine Need.mk ?_ ?_; (focus (first | omega | exact ⟨by omega, by omega⟩ | rfl | exact ⟨rfl, rfl⟩ | exact ⟨rfl, Nat.le_of_ble_eq_true rfl⟩ | exact Nat.le_of_ble_eq_true rfl | (refine ⟨rfl, rfl, ?_⟩; simp [isFar, ofV0, CV.up, SV.renL, SV.ren] <;> fail) | (refine ⟨rfl, Nat.le_of_ble_eq_true rfl, ?_⟩; simp [isFar, ofV0, CV.up, SV.renL, SV.ren] <;> fail) | (simp <;> fail))); conv => whnf)))
      rw [idx_go]
      refine Need.mk ⟨u8_nonneg _, u8_lt _⟩ ?_
      (conv => whnf)
      refine ⟨_, (congrArg _ (Nat.zero_add _)).trans (tab_get _), ?_⟩
      (conv => whnf)
      refine ⟨k + 1, by omega, by omega, Weak.le ?_ ?_⟩
      · (repeat' ((conv => whnf); first | exact True.intro | (refine And.intro ?_ ?_)))
        all_goals first | rfl | (rw [wrap_i64 (by omega) (by omega)]; rfl) | (rw [Int.toNat_natCast]; exact congrArg (SV.int .u32) (over_go r s (by omega)))
      · (repeat' ((conv => whnf); first | exact True.intro | (refine And.intro ?_ ?_)))
        all_goals first | rfl | exact .eq rfl
    · have hk' : k = s.length := by omega
      subst hk'
      (conv => whnf)
      exact ⟨_, _, WeakV.drop (congrArg (SV.int .u32) (by rw [List.take_length])), h⟩

theorem over_k : Contract Tryd.prog [] 64 overS := ⟨⟨⟨_, rfl, rfl, rfl⟩⟩, over_c⟩
def sumS : Spec := fun args H Q => match args, H with
  | [p], [] => ∃ parts : List (List UInt8), (p = .sl 1 parts.length (parts.map .str) true ∨ p = .nilsl ∧ parts = []) ∧ parts.length < 1000000 ∧ (∀ s ∈ parts, s.length < 1000000) ∧ Q (.int .u32 (u32 (Crc.sum parts.flatten))) []
  | _, _ => False
theorem str_get {parts : List (List UInt8)} {k : Nat} (h : k < parts.length) : (parts.map CV.str)[((k : Nat) : Int).toNat]? = some (.str parts[k]) := by
  rw [Int.toNat_natCast, List.getElem?_map, List.getElem?_eq_getElem h]; rfl
theorem sum_go {parts : List (List UInt8)} {k : Nat} (h : k < parts.length) : Crc.over (Crc.over (~~~ 0) (parts.take k).flatten) parts[k] = Crc.over (~~~ 0) (parts.take (k + 1)).flatten := by
  rw [List.take_succ_eq_append_getElem h, List.flatten_append, Crc.over_append]; simp
theorem sum_c : Meets Tryd.prog [] 46 sumS := by
  refine meets_of Γok Tryd.func46 rfl ?_
  intro args H Q h
  unfold sumS at h
  split at h
  case h_2 => exact h.elim
  obtain ⟨parts, hp, hl, hs, h⟩ := h
  (refine sx_sound Γok _ ?_; conv => whnf)
  rcases hp with rfl | ⟨rfl, rfl⟩
  · (conv => whnf)
    refine loop_rule (fun k : Nat => ⟨[.any, .any, .any, .int .u32 (u32 (Crc.over (~~~ 0) (parts.take k).flatten)), .any, .any, .sl 1 parts.length (parts.map .str) true, .int .i64 (parts.length : Int), .int .i64 (k : Int), .any, .any, .any, .any, .any, .any, .any, .any, .any], []⟩) (fun k => k ≤ parts.length) (fun k => parts.length - k) 0 (by omega) ?_ ?_
    · refine Weak.le ?_ ?_
      · (repeat' ((conv => whnf); first | exact True.intro | (refine And.intro ?_ ?_)))
        all_goals rfl
      · (repeat' ((conv => whnf); first | exact True.intro | (refine And.intro ?_ ?_)))
        all_goals first | rfl | exact .eq rfl
    · intro k hk
      (refine sx_sound Γok _ ?_; conv => whnf)
      refine Both.dec (fun hlt => ?_) (fun hge => ?_)
      · (conv => whnf)
        (repeat (first | (refine Both.lit_true ?_; conv => whnf) | (refine Both.lit_false ?_; conv => whnf) | (refine Need.mk ?_ ?_; (focus (first | omega | exact ⟨by omega, by omega⟩ | rfl | exact ⟨rfl, rfl⟩ | exact ⟨rfl, Nat.le_of_ble_eq_true rfl⟩ | exact Nat.le_of_ble_eq_true rfl | (refine ⟨rfl, rfl, ?_⟩; simp [isFar, ofV0, CV.up, SV.renL, SV.ren] <;> fail) | (refine ⟨rfl, Nat.le_of_ble_eq_true rfl, ?_⟩; simp [isFar, ofV0, CV.up, SV.renL, SV.ren] <;> fail) | (simp <;> fail))); conv => whnf)))
        refine ⟨_, str_get (by omega), ?_⟩
        (conv => whnf)
        (refine ⟨_, rfl, ?_⟩; conv => whnf)
        refine CallVC.of [] over_k ?_
        refine ⟨_, rfl, hs _ (List.getElem_mem _), ?_⟩
        (conv => whnf)
        refine ⟨k + 1, by omega, by omega, Weak.le ?_ ?_⟩
        · (repeat' ((conv => whnf); first | exact True.intro | (refine And.intro ?_ ?_)))
          all_goals first | rfl | (rw [wrap_i64 (by omega) (by omega)]; rfl) | exact congrArg (fun x => SV.int .u32 (u32 x)) (sum_go (by omega))
        · (repeat' ((conv => whnf); first | exact True.intro | (refine And.intro ?_ ?_)))
      · have hk' : k = parts.length := by omega
        subst hk'
        (conv => whnf)
        refine ⟨_, _, WeakV.drop (congrArg (SV.int .u32) (by rw [List.take_length, not_u32]; rfl)), h⟩
  · (conv => whnf)
    refine loop_rule (fun k : Unit => ⟨[.any, .any, .any, .int .u32 (u32 (~~~ 0)), .any, .any, .nilsl, .int .i64 0, .int .i64 0, .any, .any, .any, .any, .any, .any, .any, .any, .any], []⟩) (fun k => True) (fun k => 0) () trivial ?_ ?_
    · refine Weak.le ?_ ?_
      · (repeat' ((conv => whnf); first | exact True.intro | (refine And.intro ?_ ?_)))
        all_goals rfl
      · (repeat' ((conv => whnf); first | exact True.intro | (refine And.intro ?_ ?_)))
    · intro k hk
      (refine sx_sound Γok _ ?_; conv => whnf)
      refine Both.dec (fun hlt => absurd hlt (by omega)) (fun hge => ?_)
      (conv => whnf)
      refine ⟨_, _, WeakV.drop (congrArg (SV.int .u32) (by rw [not_u32]; rfl)), h⟩
theorem sum_k : Contract Tryd.prog [] 46 sumS := ⟨⟨⟨_, rfl, rfl, rfl⟩⟩, sum_c⟩

def updS : Spec := fun args H Q => match args, H with
  | [.int .u32 x, .str s], [] => ∃ r : BitVec 32, x = u32 r ∧ s.length < 1000000 ∧ Q (.int .u32 (u32 (~~~ Crc.over (~~~ r) s))) []
  | _, _ => False
def lesS : Spec := fun args H Q => match args, H with
  | [.int .u32 x], [] => ∃ r : BitVec 32, x = u32 r ∧ Q (.str (Crc.le 4 r)) []
  | _, _ => False
def lesTo (r : BitVec 32) (k : Nat) : List SV := (List.range 4).map fun i => .int .u8 (if i < k then u8 ((r >>> (8 * i)).setWidth 8) else 0)
theorem les_set (r : BitVec 32) (k : Nat) (h : k < 4) : (lesTo r k).set k (.int .u8 (u8 ((r >>> (8 * k)).setWidth 8))) = lesTo r (k + 1) := by
  match k, h with
  | 0, _ => rfl
  | 1, _ => rfl
  | 2, _ => rfl
  | 3, _ => rfl
theorem by_u8 (b : BitVec 8) : UInt8.ofNat (u8 b).toNat = ⟨b⟩ := by
  apply UInt8.toNat_inj.1
  unfold u8
  rw [Int.toNat_natCast]
  simp
theorem les_bytes (r : BitVec 32) : (lesTo r 4).map svByte = Crc.le 4 r := by
  have h : ∀ k, svByte (.int .u8 (u8 ((r >>> (8 * k)).setWidth 8))) = Crc.lo (r >>> (8 * k)) := fun k => by_u8 _
  show [svByte (.int .u8 (u8 ((r >>> (8 * 0)).setWidth 8))), svByte (.int .u8 (u8 ((r >>> (8 * 1)).setWidth 8))), svByte (.int .u8 (u8 ((r >>> (8 * 2)).setWidth 8))), svByte (.int .u8 (u8 ((r >>> (8 * 3)).setWidth 8)))] = _
  rw [h, h, h, h]
  simp only [Crc.le, ← BitVec.shiftRight_add]
  simp
theorem les_far (r : BitVec 32) (k : Nat) : ∀ x ∈ lesTo r k, isU8s x = true := by
  intro x hx
  obtain ⟨i, _, rfl⟩ := List.mem_map.1 hx
  rfl
theorem les2_bytes (r : BitVec 32) : [UInt8.ofNat (IntKind.u8.wrap ((u32 r).tmod 256)).toNat, UInt8.ofNat (IntKind.u8.wrap ((IntKind.u32.wrap ((u32 r).tdiv 256)).tmod 256)).toNat, UInt8.ofNat (IntKind.u8.wrap ((IntKind.u32.wrap ((u32 r).tdiv 65536)).tmod 256)).toNat, UInt8.ofNat (IntKind.u8.wrap (IntKind.u32.wrap ((u32 r).tdiv 16777216))).toNat] = Crc.le 4 r := by
  have hn := u32_nonneg r
  have hl := u32_lt r
  have hq : ∀ d : Int, (u32 r).tdiv d = u32 r / d := fun d => Int.tdiv_eq_ediv_of_nonneg hn
  have hm : ∀ x : Int, IntKind.u32.wrap x = x % 4294967296 := wrap_u32_mod
  have e : ∀ x d : Int, 0 ≤ x → x.tmod d = x % d := fun x d h => Int.tmod_eq_emod_of_nonneg h
  rw [hq, hq, hq, hm, hm, hm, e _ _ hn, e _ _ (by omega), e _ _ (by omega)]
  simp only [wrap_u8_mod, Crc.le, ← BitVec.shiftRight_add]
  have g : ∀ (x : Int) (k : Nat), x = u32 r / (2 ^ k : Nat) % 256 → UInt8.ofNat x.toNat = Crc.lo (r >>> k) := by
    intro x k hx
    apply UInt8.toNat_inj.1
    unfold Crc.lo
    rw [hx]
    show (UInt8.ofNat _).toNat = ((r >>> k).setWidth 8).toNat
    rw [BitVec.toNat_setWidth, BitVec.toNat_ushiftRight, Nat.shiftRight_eq_div_pow]
    unfold u32
    have : ((r.toNat : Int) / ((2 ^ k : Nat) : Int) % 256).toNat = r.toNat / 2 ^ k % 256 := by
      rw [show ((r.toNat : Int) / ((2 ^ k : Nat) : Int) % 256) = ((r.toNat / 2 ^ k % 256 : Nat) : Int) by simp, Int.toNat_natCast]
    rw [this]
    simp
  rw [g _ 0 (by show _ = u32 r / (1 : Int) % 256; omega), g _ 8 (by show _ = u32 r / (256 : Int) % 256; omega), g _ 16 (by show _ = u32 r / (65536 : Int) % 256; omega), g _ 24 (by show _ = u32 r / (16777216 : Int) % 256; omega)]
  simp
theorem les_c : Meets Tryd.prog [] 45 lesS := by
  refine meets_of Γok Tryd.func45 rfl ?_
  intro args H Q h
  unfold lesS at h
  split at h
  case h_2 => exact h.elim
  obtain ⟨r, rfl, h⟩ := h
  (refine sx_sound Γok _ ?_; conv => whnf)
  refine loop_rule (fun k : Nat => ⟨[.int .u32 (u32 r), .any, .any, .ptr 0 0, .any, .int .i64 (k : Int), .any, .any, .any, .any, .any, .any, .any, .any, .any, .any, .any, .any], [.cells (lesTo r k) 108]⟩) (fun k => k ≤ 4) (fun k => 4 - k) 0 (by omega) ?_ ?_
  · refine Weak.le ?_ ?_
    · (repeat' ((conv => whnf); first | exact True.intro | (refine And.intro ?_ ?_)))
      all_goals rfl
    · (repeat' ((conv => whnf); first | exact True.intro | (refine And.intro ?_ ?_)))
      all_goals first | rfl | exact .eq rfl
  · intro k hk
    (refine sx_sound Γok _ ?_; conv => whnf)
    refine Both.dec (fun hlt => ?_) (fun hge => ?_)
    · (conv => whnf)
      (repeat (first | (refine Both.lit_true ?_; conv => whnf) | (refine Both.lit_false ?_; conv => whnf) | (refine Need.mk ?_ ?_; (focus (first | omega | exact ⟨by omega, by omega⟩ | rfl | exact ⟨rfl, rfl⟩ | exact ⟨rfl, Nat.le_of_ble_eq_true rfl⟩ | exact Nat.le_of_ble_eq_true rfl | (refine ⟨rfl, rfl, ?_⟩; simp [isFar, ofV0, CV.up, SV.renL, SV.ren] <;> fail) | (refine ⟨rfl, Nat.le_of_ble_eq_true rfl, ?_⟩; simp [isFar, ofV0, CV.up, SV.renL, SV.ren] <;> fail) | (simp <;> fail))); conv => whnf)))
      rw [wrap_i64 (by omega) (by omega)]
      (repeat (first | (refine Both.lit_true ?_; conv => whnf) | (refine Both.lit_false ?_; conv => whnf) | (refine Need.mk ?_ ?_; (focus (first | omega | exact ⟨by omega, by omega⟩ | rfl | exact ⟨rfl, rfl⟩ | exact ⟨rfl, Nat.le_of_ble_eq_true rfl⟩ | exact Nat.le_of_ble_eq_true rfl | (refine ⟨rfl, rfl, ?_⟩; simp [isFar, ofV0, CV.up, SV.renL, SV.ren] <;> fail) | (refine ⟨rfl, Nat.le_of_ble_eq_true rfl, ?_⟩; simp [isFar, ofV0, CV.up, SV.renL, SV.ren] <;> fail) | (simp <;> fail))); conv => whnf)))
      refine Need.mk ⟨rfl, by rw [show (lesTo r k).length = 4 from rfl]; omega⟩ ?_
      (conv => whnf)
      refine ⟨k + 1, by omega, by omega, Weak.le ?_ ?_⟩
      · (repeat' ((conv => whnf); first | exact True.intro | (refine And.intro ?_ ?_)))
        all_goals first | rfl | (rw [wrap_i64 (by omega) (by omega)]; rfl)
      · (repeat' ((conv => whnf); first | exact True.intro | (refine And.intro ?_ ?_)))
        all_goals first | rfl | (refine .eq ?_; rw [← les_set r k (by omega)]; rw [show (8 : Int) * (k : Int) = ((8 * k : Nat) : Int) by omega, shr_u32 _ _ (by omega), u8_of_u32, Nat.zero_add, Int.toNat_natCast]; done)
    · have hk' : k = 4 := by omega
      subst hk'
      (conv => whnf)
      (repeat (first | (refine Both.lit_true ?_; conv => whnf) | (refine Both.lit_false ?_; conv => whnf) | (refine Need.mk ?_ ?_; (focus (first | omega | exact ⟨by omega, by omega⟩ | rfl | exact ⟨rfl, rfl⟩ | exact ⟨rfl, Nat.le_of_ble_eq_true rfl⟩ | exact Nat.le_of_ble_eq_true rfl | (refine ⟨rfl, rfl, ?_⟩; simp [isFar, ofV0, CV.up, SV.renL, SV.ren] <;> fail) | (refine ⟨rfl, Nat.le_of_ble_eq_true rfl, ?_⟩; simp [isFar, ofV0, CV.up, SV.renL, SV.ren] <;> fail) | (simp <;> fail))); conv => whnf)))
      refine Need.mk ⟨rfl, les_far r 4⟩ ?_
      (conv => whnf)
      refine ⟨_, _, WeakV.drop (congrArg SV.str (les_bytes r)), h⟩
theorem les_k : Contract Tryd.prog [] 45 lesS := ⟨⟨⟨_, rfl, rfl, rfl⟩⟩, les_c⟩

theorem les2_c : Meets Tryd.prog [] 77 lesS := by
  refine meets_of Γok Tryd.func77 rfl ?_
  intro args H Q h
  unfold lesS at h
  split at h
  case h_2 => exact h.elim
  obtain ⟨r, rfl, h⟩ := h
  (refine sx_sound Γok _ ?_; conv => whnf)
  (repeat (first | (refine Both.lit_true ?_; conv => whnf) | (refine Both.lit_false ?_; conv => whnf) | (refine Need.mk ?_ ?_; (focus (first | omega | exact ⟨by omega, by omega⟩ | rfl | exact ⟨rfl, rfl⟩ | exact ⟨rfl, Nat.le_of_ble_eq_true rfl⟩ | exact Nat.le_of_ble_eq_true rfl | (refine ⟨rfl, rfl, ?_⟩; simp [isFar, ofV0, CV.up, SV.renL, SV.ren] <;> fail) | (refine ⟨rfl, Nat.le_of_ble_eq_true rfl, ?_⟩; simp [isFar, ofV0, CV.up, SV.renL, SV.ren] <;> fail) | (simp <;> fail))); conv => whnf)))
  refine Need.mk ⟨rfl, by simp [isU8]⟩ ?_
  (conv => whnf)
  refine ⟨_, _, WeakV.drop (congrArg SV.str (les2_bytes r)), h⟩
theorem les2_k : Contract Tryd.prog [] 77 lesS := ⟨⟨⟨_, rfl, rfl, rfl⟩⟩, les2_c⟩

def sealS : Spec := fun args H Q => match args, H with
  | [.str s], [] => s.length < 1000000 ∧ Q (.str (Crc.seal_ s)) []
  | _, _ => False
theorem seal_c : Meets Tryd.prog [] 25 sealS := by
  refine meets_of Γok Tryd.func25 rfl ?_
  intro args H Q h
  unfold sealS at h
  split at h
  case h_2 => exact h.elim
  obtain ⟨hs, h⟩ := h
  rename_i s
  (refine sx_sound Γok _ ?_; conv => whnf)
  refine CallVC.of [] sum_k ⟨[s], .inl rfl, by show 1 < 1000000; decide, by simpa using hs, ?_⟩
  (conv => whnf)
  refine CallVC.of [] les_k ⟨_, rfl, ?_⟩
  (conv => whnf)
  refine Need.mk (by rw [Crc.le_length]; omega) ?_
  (conv => whnf)
  refine ⟨_, _, WeakV.drop (congrArg SV.str (by rw [List.flatten_cons, List.flatten_nil, List.append_nil]; rfl)), h⟩
theorem seal_k : Contract Tryd.prog [] 25 sealS := ⟨⟨⟨_, rfl, rfl, rfl⟩⟩, seal_c⟩

def rightB (s : List UInt8) : Bool := decide (4 ≤ s.length) && decide (Crc.le 4 (Crc.sum (s.take (s.length - 4))) = s.drop (s.length - 4))
def rightS : Spec := fun args H Q => match args, H with
  | [.str s], [] => s.length < 1000000 ∧ Q (.bool (rightB s)) []
  | _, _ => False
theorem sub_all (r : BitVec 32) : IntKind.u32.wrap (4294967295 - u32 r) = u32 (~~~ r) := by
  rw [show (4294967295 : Int) = u32 (BitVec.allOnes 32) from rfl, sub_u32, BitVec.allOnes_sub_eq_not]
theorem wide_go (x : BitVec 32) (b : UInt8) : bitXor .u32 (u32 x) (IntKind.u32.wrap (b.toNat : Int)) = u32 (x ^^^ Crc.wide b) := by
  have : IntKind.u32.wrap (b.toNat : Int) = u32 (Crc.wide b) := by
    have hb : b.toNat < 256 := b.toNat_lt
    rw [wrap_u32_mod]
    unfold u32 Crc.wide
    rw [BitVec.toNat_setWidth]
    show ((b.toNat : Int) % 4294967296) = ((b.toNat % 4294967296 : Nat) : Int)
    omega
  rw [this, xor_u32]
theorem over2_go (r : BitVec 32) (s : List UInt8) {k : Nat} (h : k < s.length) : Crc.steps 8 (Crc.over r (s.take k) ^^^ Crc.wide (s.getD k 0)) = Crc.over r (s.take (k + 1)) := by
  rw [List.take_succ_eq_append_getElem h, Crc.over_append, List.getD_eq_getElem?_getD, List.getElem?_eq_getElem h]
  rfl
theorem half_go (r : BitVec 32) : IntKind.u32.wrap ((u32 r).tdiv 2) = u32 (r >>> 1) := by
  have hn := u32_nonneg r
  have hl := u32_lt r
  rw [Int.tdiv_eq_ediv_of_nonneg hn, wrap_u32_mod]
  unfold u32
  rw [BitVec.toNat_ushiftRight, Nat.shiftRight_eq_div_pow]
  unfold u32 at hl
  omega
theorem lsb_go (r : BitVec 32) : (u32 r).tmod 2 = 1 ↔ r.getLsbD 0 = true := by
  rw [Int.tmod_eq_emod_of_nonneg (u32_nonneg r)]
  unfold u32
  rw [show r.getLsbD 0 = r.toNat.testBit 0 from rfl, Nat.testBit_zero]
  simp
  omega
theorem step_odd (r : BitVec 32) (h : (u32 r).tmod 2 = 1) : bitXor .u32 (IntKind.u32.wrap ((u32 r).tdiv 2)) 3988292384 = u32 (Crc.step r) := by
  rw [half_go, show (3988292384 : Int) = u32 Crc.poly from rfl, xor_u32, Crc.step, (lsb_go r).1 h]
  rfl
theorem step_even (r : BitVec 32) (h : ¬ (u32 r).tmod 2 = 1) : IntKind.u32.wrap ((u32 r).tdiv 2) = u32 (Crc.step r) := by
  have : r.getLsbD 0 = false := by
    cases hb : r.getLsbD 0 with
    | false => rfl
    | true => exact absurd ((lsb_go r).2 hb) h
  rw [half_go, Crc.step, this]
  simp
theorem right2_go (s : List UInt8) (h : 4 ≤ s.length) : decide (s = Crc.seal_ (List.drop (Int.toNat 0) (List.take ((s.length : Int) - 4).toNat s))) = rightB s := by
  unfold rightB
  rw [show ((s.length : Int) - 4).toNat = s.length - 4 by omega, show List.drop (Int.toNat 0) (List.take (s.length - 4) s) = List.take (s.length - 4) s from rfl]
  simp only [h, decide_true, Bool.true_and]
  congr 1
  apply propext
  unfold Crc.seal_
  constructor
  · intro e
    have e2 : List.take (s.length - 4) s ++ s.drop (s.length - 4) = List.take (s.length - 4) s ++ Crc.le 4 (Crc.sum (List.take (s.length - 4) s)) := by rw [List.take_append_drop]; exact e
    exact (List.append_cancel_left e2).symm
  · intro e
    rw [e, List.take_append_drop]
theorem cut_go (s : List UInt8) (h : 4 ≤ s.length) : List.drop (Int.toNat 0) (List.take ((s.length : Int) - 4).toNat s) = s.take (s.length - 4) := by
  rw [show ((s.length : Int) - 4).toNat = s.length - 4 by omega]; rfl
theorem right_go (s : List UInt8) (h : 4 ≤ s.length) : decide (Crc.le 4 (Crc.sum [s.take (s.length - 4)].flatten) = List.drop ((s.length : Int) - 4).toNat (List.take (s.length : Int).toNat s)) = rightB s := by
  unfold rightB
  rw [show ((s.length : Int) - 4).toNat = s.length - 4 by omega, Int.toNat_natCast, List.take_length, List.flatten_cons, List.flatten_nil, List.append_nil]
  simp [h]
theorem right_no (s : List UInt8) (h : ¬ 4 ≤ s.length) : false = rightB s := by
  unfold rightB
  simp [h]
theorem right_c : Meets Tryd.prog [] 26 rightS := by
  refine meets_of Γok Tryd.func26 rfl ?_
  intro args H Q h
  unfold rightS at h
  split at h
  case h_2 => exact h.elim
  obtain ⟨hs, h⟩ := h
  rename_i s
  (refine sx_sound Γok _ ?_; conv => whnf)
  (repeat (first | (refine Both.lit_true ?_; conv => whnf) | (refine Both.lit_false ?_; conv => whnf) | (refine Need.mk ?_ ?_; (focus (first | omega | exact ⟨by omega, by omega⟩ | rfl | exact ⟨rfl, rfl⟩ | exact ⟨rfl, Nat.le_of_ble_eq_true rfl⟩ | exact Nat.le_of_ble_eq_true rfl | (refine ⟨rfl, rfl, ?_⟩; simp [isFar, ofV0, CV.up, SV.renL, SV.ren] <;> fail) | (refine ⟨rfl, Nat.le_of_ble_eq_true rfl, ?_⟩; simp [isFar, ofV0, CV.up, SV.renL, SV.ren] <;> fail) | (simp <;> fail))); conv => whnf)))
  rw [wrap_i64 (n := (s.length : Int) - 4) (by omega) (by omega)]
  refine DrawVC.all Γok (by kernel_rfl) (by kernel_rfl) ?_
  (conv => whnf)
  (repeat (first | (exact Out.same; conv => whnf) | (exact Out1.same; conv => whnf) | (refine QAnd.mk ?_ ?_; conv => whnf) | (apply QStepH.go; conv => whnf) | (refine Both.lit_true ?_; conv => whnf) | (refine Both.lit_false ?_; conv => whnf) | (apply QStep.go; conv => whnf) | (refine Need.mk ?_ ?_; (focus (first | omega | exact ⟨by omega, by omega⟩ | rfl | exact ⟨rfl, rfl⟩ | exact ⟨rfl, Nat.le_of_ble_eq_true rfl⟩ | exact Nat.le_of_ble_eq_true rfl | (refine ⟨rfl, rfl, ?_⟩; simp [isFar, ofV0, CV.up, SV.renL, SV.ren] <;> fail) | (refine ⟨rfl, Nat.le_of_ble_eq_true rfl, ?_⟩; simp [isFar, ofV0, CV.up, SV.renL, SV.ren] <;> fail) | (simp <;> fail))); conv => whnf)))
  refine Both.dec (fun hlt => ?_) (fun hge => ?_)
  · (conv => whnf)
    (repeat (first | (exact Out.same; conv => whnf) | (exact Out1.same; conv => whnf) | (refine QAnd.mk ?_ ?_; conv => whnf) | (apply QStepH.go; conv => whnf) | (refine Both.lit_true ?_; conv => whnf) | (refine Both.lit_false ?_; conv => whnf) | (apply QStep.go; conv => whnf) | (refine Need.mk ?_ ?_; (focus (first | omega | exact ⟨by omega, by omega⟩ | rfl | exact ⟨rfl, rfl⟩ | exact ⟨rfl, Nat.le_of_ble_eq_true rfl⟩ | exact Nat.le_of_ble_eq_true rfl | (refine ⟨rfl, rfl, ?_⟩; simp [isFar, ofV0, CV.up, SV.renL, SV.ren] <;> fail) | (refine ⟨rfl, Nat.le_of_ble_eq_true rfl, ?_⟩; simp [isFar, ofV0, CV.up, SV.renL, SV.ren] <;> fail) | (simp <;> fail))); conv => whnf)))
    refine CallVC.of [] sum_k ?_
    conv => whnf
    refine ⟨[s.take (s.length - 4)], .inl (by rw [cut_go s (by omega)]; rfl), by show 1 < 1000000; decide, (by simp; omega), ?_⟩
    conv => whnf
    (repeat (first | (exact Out.same; conv => whnf) | (exact Out1.same; conv => whnf) | (refine QAnd.mk ?_ ?_; conv => whnf) | (apply QStepH.go; conv => whnf) | (refine Both.lit_true ?_; conv => whnf) | (refine Both.lit_false ?_; conv => whnf) | (apply QStep.go; conv => whnf) | (refine Need.mk ?_ ?_; (focus (first | omega | exact ⟨by omega, by omega⟩ | rfl | exact ⟨rfl, rfl⟩ | exact ⟨rfl, Nat.le_of_ble_eq_true rfl⟩ | exact Nat.le_of_ble_eq_true rfl | (refine ⟨rfl, rfl, ?_⟩; simp [isFar, ofV0, CV.up, SV.renL, SV.ren] <;> fail) | (refine ⟨rfl, Nat.le_of_ble_eq_true rfl, ?_⟩; simp [isFar, ofV0, CV.up, SV.renL, SV.ren] <;> fail) | (simp <;> fail))); conv => whnf)))
    refine CallVC.of [] les_k ⟨_, rfl, ?_⟩
    conv => whnf
    (repeat (first | (exact Out.same; conv => whnf) | (exact Out1.same; conv => whnf) | (refine QAnd.mk ?_ ?_; conv => whnf) | (apply QStepH.go; conv => whnf) | (refine Both.lit_true ?_; conv => whnf) | (refine Both.lit_false ?_; conv => whnf) | (apply QStep.go; conv => whnf) | (refine Need.mk ?_ ?_; (focus (first | omega | exact ⟨by omega, by omega⟩ | rfl | exact ⟨rfl, rfl⟩ | exact ⟨rfl, Nat.le_of_ble_eq_true rfl⟩ | exact Nat.le_of_ble_eq_true rfl | (refine ⟨rfl, rfl, ?_⟩; simp [isFar, ofV0, CV.up, SV.renL, SV.ren] <;> fail) | (refine ⟨rfl, Nat.le_of_ble_eq_true rfl, ?_⟩; simp [isFar, ofV0, CV.up, SV.renL, SV.ren] <;> fail) | (simp <;> fail))); conv => whnf)))
    exact ⟨_, _, WeakV.drop (congrArg SV.bool (right_go s (by omega))), h⟩
  · (conv => whnf)
    (repeat (first | (exact Out.same; conv => whnf) | (exact Out1.same; conv => whnf) | (refine QAnd.mk ?_ ?_; conv => whnf) | (apply QStepH.go; conv => whnf) | (refine Both.lit_true ?_; conv => whnf) | (refine Both.lit_false ?_; conv => whnf) | (apply QStep.go; conv => whnf) | (refine Need.mk ?_ ?_; (focus (first | omega | exact ⟨by omega, by omega⟩ | rfl | exact ⟨rfl, rfl⟩ | exact ⟨rfl, Nat.le_of_ble_eq_true rfl⟩ | exact Nat.le_of_ble_eq_true rfl | (refine ⟨rfl, rfl, ?_⟩; simp [isFar, ofV0, CV.up, SV.renL, SV.ren] <;> fail) | (refine ⟨rfl, Nat.le_of_ble_eq_true rfl, ?_⟩; simp [isFar, ofV0, CV.up, SV.renL, SV.ren] <;> fail) | (simp <;> fail))); conv => whnf)))
    exact ⟨_, _, WeakV.drop (congrArg SV.bool (right_no s (by omega))), h⟩
theorem right_k : Contract Tryd.prog [] 26 rightS := ⟨⟨⟨_, rfl, rfl, rfl⟩⟩, right_c⟩
def stepS : Spec := fun args H Q => match args, H with
  | [.int .u32 x], [] => ∃ r : BitVec 32, x = u32 r ∧ Q (.int .u32 (u32 (Crc.step r))) []
  | _, _ => False
theorem step_c : Meets Tryd.prog [] 87 stepS := by
  refine meets_of Γok Tryd.func87 rfl ?_
  intro args H Q h
  unfold stepS at h
  split at h
  case h_2 => exact h.elim
  obtain ⟨r, rfl, h⟩ := h
  (refine sx_sound Γok _ ?_; conv => whnf)
  (repeat (first | (refine Both.lit_true ?_; conv => whnf) | (refine Both.lit_false ?_; conv => whnf) | (refine Need.mk ?_ ?_; (focus (first | omega | exact ⟨by omega, by omega⟩ | rfl | exact ⟨rfl, rfl⟩ | exact ⟨rfl, Nat.le_of_ble_eq_true rfl⟩ | exact Nat.le_of_ble_eq_true rfl | (refine ⟨rfl, rfl, ?_⟩; simp [isFar, ofV0, CV.up, SV.renL, SV.ren] <;> fail) | (refine ⟨rfl, Nat.le_of_ble_eq_true rfl, ?_⟩; simp [isFar, ofV0, CV.up, SV.renL, SV.ren] <;> fail) | (simp <;> fail))); conv => whnf)))
  refine Both.dec (fun hlt => ?_) (fun hge => ?_)
  · (conv => whnf)
    (repeat (first | (refine Both.lit_true ?_; conv => whnf) | (refine Both.lit_false ?_; conv => whnf) | (refine Need.mk ?_ ?_; (focus (first | omega | exact ⟨by omega, by omega⟩ | rfl | exact ⟨rfl, rfl⟩ | exact ⟨rfl, Nat.le_of_ble_eq_true rfl⟩ | exact Nat.le_of_ble_eq_true rfl | (refine ⟨rfl, rfl, ?_⟩; simp [isFar, ofV0, CV.up, SV.renL, SV.ren] <;> fail) | (refine ⟨rfl, Nat.le_of_ble_eq_true rfl, ?_⟩; simp [isFar, ofV0, CV.up, SV.renL, SV.ren] <;> fail) | (simp <;> fail))); conv => whnf)))
    exact ⟨_, _, WeakV.drop (congrArg (SV.int .u32) (step_odd r hlt)), h⟩
  · (conv => whnf)
    (repeat (first | (refine Both.lit_true ?_; conv => whnf) | (refine Both.lit_false ?_; conv => whnf) | (refine Need.mk ?_ ?_; (focus (first | omega | exact ⟨by omega, by omega⟩ | rfl | exact ⟨rfl, rfl⟩ | exact ⟨rfl, Nat.le_of_ble_eq_true rfl⟩ | exact Nat.le_of_ble_eq_true rfl | (refine ⟨rfl, rfl, ?_⟩; simp [isFar, ofV0, CV.up, SV.renL, SV.ren] <;> fail) | (refine ⟨rfl, Nat.le_of_ble_eq_true rfl, ?_⟩; simp [isFar, ofV0, CV.up, SV.renL, SV.ren] <;> fail) | (simp <;> fail))); conv => whnf)))
    exact ⟨_, _, WeakV.drop (congrArg (SV.int .u32) (step_even r hge)), h⟩
theorem step_k : Contract Tryd.prog [] 87 stepS := ⟨⟨⟨_, rfl, rfl, rfl⟩⟩, step_c⟩

theorem over2_c : Meets Tryd.prog [] 85 overS := by
  refine meets_of Γok Tryd.func85 rfl ?_
  intro args H Q h
  unfold overS at h
  split at h
  case h_2 => exact h.elim
  obtain ⟨r, rfl, hs, h⟩ := h
  rename_i s
  (refine sx_sound Γok _ ?_; conv => whnf)
  refine loop_rule (fun k : Nat => ⟨[.int .u32 (u32 (Crc.over r (s.take k))), .str s, .any, .any, .any, .int .i64 (k : Int), .any, .any, .any, .any, .any, .any, .any, .any, .any, .any, .any, .any, .any, .any, .any, .any, .any, .any, .any, .any], []⟩) (fun k => k ≤ s.length) (fun k => s.length - k) 0 (by omega) ?_ ?_
  · refine Weak.le ?_ ?_
    · (repeat' ((conv => whnf); first | exact True.intro | (refine And.intro ?_ ?_)))
      all_goals rfl
    · (repeat' ((conv => whnf); first | exact True.intro | (refine And.intro ?_ ?_)))
  · intro k hk
    (refine sx_sound Γok _ ?_; conv => whnf)
    refine Both.dec (fun hlt => ?_) (fun hge => ?_)
    · (conv => whnf)
      (repeat (first | (refine Both.lit_true ?_; conv => whnf) | (refine Both.lit_false ?_; conv => whnf) | (refine Need.mk ?_ ?_; (focus (first | omega | exact ⟨by omega, by omega⟩ | rfl | exact ⟨rfl, rfl⟩ | exact ⟨rfl, Nat.le_of_ble_eq_true rfl⟩ | exact Nat.le_of_ble_eq_true rfl | (refine ⟨rfl, rfl, ?_⟩; simp [isFar, ofV0, CV.up, SV.renL, SV.ren] <;> fail) | (refine ⟨rfl, Nat.le_of_ble_eq_true rfl, ?_⟩; simp [isFar, ofV0, CV.up, SV.renL, SV.ren] <;> fail) | (simp <;> fail))); conv => whnf)))
      have hg : s.getD ((k : Int)).toNat 0 = s.getD k 0 := by rw [Int.toNat_natCast]
      rw [hg]
      refine loop_rule (fun j : Nat => ⟨[.int .u32 (u32 (Crc.steps j (Crc.over r (s.take k) ^^^ Crc.wide (s.getD k 0)))), .str s, .any, .any, .any, .int .i64 (k : Int), .int .i64 (j : Int), .any, .any, .any, .any, .any, .any, .any, .any, .any, .any, .any, .any, .any, .any, .any, .any, .any, .any, .any], []⟩) (fun j => j ≤ 8) (fun j => 8 - j) 0 (by omega) ?_ ?_
      · refine Weak.le ?_ ?_
        · (repeat' ((conv => whnf); first | exact True.intro | (refine And.intro ?_ ?_)))
          all_goals first | rfl | (rw [wide_go]; rfl)
        · (repeat' ((conv => whnf); first | exact True.intro | (refine And.intro ?_ ?_)))
      · intro j hj
        (refine sx_sound Γok _ ?_; conv => whnf)
        refine Both.dec (fun hlt => ?_) (fun hge => ?_)
        · (conv => whnf)
          refine CallVC.of [] step_k ⟨_, rfl, ?_⟩
          (conv => whnf)
          refine ⟨j + 1, by omega, by omega, Weak.le ?_ ?_⟩
          · (repeat' ((conv => whnf); first | exact True.intro | (refine And.intro ?_ ?_)))
            all_goals first | rfl | (rw [wrap_i64 (by omega) (by omega)]; rfl) | (rw [← Crc.steps_succ]; done)
          · (repeat' ((conv => whnf); first | exact True.intro | (refine And.intro ?_ ?_)))
        · have h8 : j = 8 := by omega
          subst h8
          (conv => whnf)
          refine ⟨k + 1, by omega, by omega, Weak.le ?_ ?_⟩
          · (repeat' ((conv => whnf); first | exact True.intro | (refine And.intro ?_ ?_)))
            all_goals first | rfl | (rw [wrap_i64 (by omega) (by omega)]; rfl) | (rw [over2_go r s (by omega)]; done)
          · (repeat' ((conv => whnf); first | exact True.intro | (refine And.intro ?_ ?_)))
    · have hk' : k = s.length := by omega
      subst hk'
      (conv => whnf)
      exact ⟨_, _, WeakV.drop (congrArg (SV.int .u32) (by rw [List.take_length])), h⟩
theorem over2_k : Contract Tryd.prog [] 85 overS := ⟨⟨⟨_, rfl, rfl, rfl⟩⟩, over2_c⟩

theorem upd2_c : Meets Tryd.prog [] 83 updS := by
  refine meets_of Γok Tryd.func83 rfl ?_
  intro args H Q h
  unfold updS at h
  split at h
  case h_2 => exact h.elim
  obtain ⟨r, rfl, hs, h⟩ := h
  (refine sx_sound Γok _ ?_; conv => whnf)
  refine CallVC.of [] over2_k ⟨~~~ r, sub_all _, hs, ?_⟩
  (conv => whnf)
  refine ⟨_, _, WeakV.drop (congrArg (SV.int .u32) (sub_all _)), h⟩
theorem upd2_k : Contract Tryd.prog [] 83 updS := ⟨⟨⟨_, rfl, rfl, rfl⟩⟩, upd2_c⟩

def sum2S : Spec := fun args H Q => match args, H with
  | [.str s], [] => s.length < 1000000 ∧ Q (.int .u32 (u32 (Crc.sum s))) []
  | _, _ => False
theorem sum2_c : Meets Tryd.prog [] 78 sum2S := by
  refine meets_of Γok Tryd.func78 rfl ?_
  intro args H Q h
  unfold sum2S at h
  split at h
  case h_2 => exact h.elim
  obtain ⟨hs, h⟩ := h
  (refine sx_sound Γok _ ?_; conv => whnf)
  refine CallVC.of [] upd2_k ⟨0, rfl, hs, ?_⟩
  (conv => whnf)
  refine ⟨_, _, WeakV.drop rfl, h⟩
theorem sum2_k : Contract Tryd.prog [] 78 sum2S := ⟨⟨⟨_, rfl, rfl, rfl⟩⟩, sum2_c⟩
theorem seal2_c : Meets Tryd.prog [] 69 sealS := by
  refine meets_of Γok Tryd.func69 rfl ?_
  intro args H Q h
  unfold sealS at h
  split at h
  case h_2 => exact h.elim
  obtain ⟨hs, h⟩ := h
  (refine sx_sound Γok _ ?_; conv => whnf)
  refine CallVC.of [] sum2_k ⟨hs, ?_⟩
  (conv => whnf)
  refine CallVC.of [] les2_k ⟨_, rfl, ?_⟩
  (conv => whnf)
  refine Need.mk (by rw [Crc.le_length]; omega) ?_
  (conv => whnf)
  refine ⟨_, _, WeakV.drop rfl, h⟩
theorem seal2_k : Contract Tryd.prog [] 69 sealS := ⟨⟨⟨_, rfl, rfl, rfl⟩⟩, seal2_c⟩
theorem right2_c : Meets Tryd.prog [] 55 rightS := by
  refine meets_of Γok Tryd.func55 rfl ?_
  intro args H Q h
  unfold rightS at h
  split at h
  case h_2 => exact h.elim
  obtain ⟨hs, h⟩ := h
  rename_i s
  (refine sx_sound Γok _ ?_; conv => whnf)
  refine Both.dec (fun hlt => ?_) (fun hge => ?_)
  · (conv => whnf)
    (repeat (first | (refine Both.lit_true ?_; conv => whnf) | (refine Both.lit_false ?_; conv => whnf) | (refine Need.mk ?_ ?_; (focus (first | omega | exact ⟨by omega, by omega⟩ | rfl | exact ⟨rfl, rfl⟩ | exact ⟨rfl, Nat.le_of_ble_eq_true rfl⟩ | exact Nat.le_of_ble_eq_true rfl | (refine ⟨rfl, rfl, ?_⟩; simp [isFar, ofV0, CV.up, SV.renL, SV.ren] <;> fail) | (refine ⟨rfl, Nat.le_of_ble_eq_true rfl, ?_⟩; simp [isFar, ofV0, CV.up, SV.renL, SV.ren] <;> fail) | (simp <;> fail))); conv => whnf)))
    rw [wrap_i64 (n := (s.length : Int) - 4) (by omega) (by omega)]
    (repeat (first | (refine Both.lit_true ?_; conv => whnf) | (refine Both.lit_false ?_; conv => whnf) | (refine Need.mk ?_ ?_; (focus (first | omega | exact ⟨by omega, by omega⟩ | rfl | exact ⟨rfl, rfl⟩ | exact ⟨rfl, Nat.le_of_ble_eq_true rfl⟩ | exact Nat.le_of_ble_eq_true rfl | (refine ⟨rfl, rfl, ?_⟩; simp [isFar, ofV0, CV.up, SV.renL, SV.ren] <;> fail) | (refine ⟨rfl, Nat.le_of_ble_eq_true rfl, ?_⟩; simp [isFar, ofV0, CV.up, SV.renL, SV.ren] <;> fail) | (simp <;> fail))); conv => whnf)))
    refine CallVC.of [] seal2_k ⟨by simp; omega, ?_⟩
    (conv => whnf)
    (repeat (first | (refine Both.lit_true ?_; conv => whnf) | (refine Both.lit_false ?_; conv => whnf) | (refine Need.mk ?_ ?_; (focus (first | omega | exact ⟨by omega, by omega⟩ | rfl | exact ⟨rfl, rfl⟩ | exact ⟨rfl, Nat.le_of_ble_eq_true rfl⟩ | exact Nat.le_of_ble_eq_true rfl | (refine ⟨rfl, rfl, ?_⟩; simp [isFar, ofV0, CV.up, SV.renL, SV.ren] <;> fail) | (refine ⟨rfl, Nat.le_of_ble_eq_true rfl, ?_⟩; simp [isFar, ofV0, CV.up, SV.renL, SV.ren] <;> fail) | (simp <;> fail))); conv => whnf)))
    exact ⟨_, _, WeakV.drop (congrArg SV.bool (right2_go s (by omega))), h⟩
  · (conv => whnf)
    (repeat (first | (refine Both.lit_true ?_; conv => whnf) | (refine Both.lit_false ?_; conv => whnf) | (refine Need.mk ?_ ?_; (focus (first | omega | exact ⟨by omega, by omega⟩ | rfl | exact ⟨rfl, rfl⟩ | exact ⟨rfl, Nat.le_of_ble_eq_true rfl⟩ | exact Nat.le_of_ble_eq_true rfl | (refine ⟨rfl, rfl, ?_⟩; simp [isFar, ofV0, CV.up, SV.renL, SV.ren] <;> fail) | (refine ⟨rfl, Nat.le_of_ble_eq_true rfl, ?_⟩; simp [isFar, ofV0, CV.up, SV.renL, SV.ren] <;> fail) | (simp <;> fail))); conv => whnf)))
    exact ⟨_, _, WeakV.drop (congrArg SV.bool (right_no s (by omega))), h⟩
theorem right2_k : Contract Tryd.prog [] 55 rightS := ⟨⟨⟨_, rfl, rfl, rfl⟩⟩, right2_c⟩
end Go.LX
