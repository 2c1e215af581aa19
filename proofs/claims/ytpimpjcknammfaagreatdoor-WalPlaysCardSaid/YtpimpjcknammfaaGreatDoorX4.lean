/- Own texts of this claim, in build order: CrcW, Ha, Va, Bw, Vb, Fm, Fa, Fb, Lm, Fc, Ly, Fd, Hb, Hc, Vc, Lp. -/
import Derived.Test.YtpimpjcknammfaaGreatDoorX3
section
set_option maxRecDepth 100000
set_option maxHeartbeats 4000000
set_option autoImplicit false
set_option linter.unusedVariables false
set_option linter.unusedSimpArgs false
namespace Go.LX
open Go.Proofs

def tabAt (i : Nat) : BitVec 32 := Crc.steps 8 (BitVec.ofNat 32 i)
def tabTo (n : Nat) : List SV := (List.range 256).map fun i => .int .u32 (if i < n then u32 (tabAt i) else 0)
def tableS : Spec := fun args H Q => match args, H with
  | [], [] => Q (.agg (tabTo 256)) []
  | _, _ => False
theorem tabTo_zero : tabTo 0 = List.replicate 256 (.int .u32 0) := by
  unfold tabTo
  apply List.ext_getElem?
  intro j
  rw [List.getElem?_map, List.getElem?_replicate]
  by_cases h : j < 256
  · simp [h]
  · simp [h]
theorem tabTo_length (n : Nat) : (tabTo n).length = 256 := by simp [tabTo]
theorem tabTo_set (n : Nat) (h : n < 256) : (tabTo n).set n (.int .u32 (u32 (tabAt n))) = tabTo (n + 1) := by
  apply List.ext_getElem?
  intro j
  rw [List.getElem?_set]
  unfold tabTo
  by_cases hj : n = j
  · subst hj
    simp [h]
  · rw [if_neg hj]
    by_cases hl : j < 256
    · have : (j < n) = (j < n + 1) := by simp; omega
      simp [hl, this]
    · simp [hl]
theorem tabTo_far (n : Nat) : ∀ y ∈ tabTo n, isFar y := by
  intro y hy
  obtain ⟨i, _, rfl⟩ := List.mem_map.1 hy
  trivial
theorem tabTo_ren (n : Nat) (f : Nat → Option Nat) : SV.renL f (tabTo n) = tabTo n := SV.renL_map f _ _ fun _ => rfl
theorem poly_mul (x : BitVec 32) : IntKind.u32.wrap (bitAnd .u32 (u32 x) 1 * 3988292384) = u32 (bif x.getLsbD 0 then Crc.poly else 0) := by
  have h1 : (1 : Int) = u32 1 := rfl
  have h2 : (3988292384 : Int) = u32 Crc.poly := rfl
  rw [h1, h2, and_u32, mul_u32]
  congr 1
  cases h : x.getLsbD 0
  · have : x &&& 1 = 0 := by
      apply BitVec.eq_of_getLsbD_eq
      intro i hi
      cases i with
      | zero => rw [BitVec.getLsbD_and, h]; rfl
      | succ i => simp
    rw [this]; simp
  · have : x &&& 1 = 1 := by
      apply BitVec.eq_of_getLsbD_eq
      intro i hi
      cases i with
      | zero => rw [BitVec.getLsbD_and, h]; rfl
      | succ i => simp
    rw [this]; simp
theorem step_go (x : BitVec 32) : bitXor .u32 (shrI .u32 (u32 x) 1) (IntKind.u32.wrap (bitAnd .u32 (u32 x) 1 * 3988292384)) = u32 (Crc.step x) := by
  rw [poly_mul, show (1 : Int) = ((1 : Nat) : Int) from rfl, shr_u32 x 1 (by omega), xor_u32]
  rfl
theorem table_zero : zeroCells ti181 = tabTo 0 := by
  rw [tabTo_zero]
  rfl
theorem u32_of_i64 (n : Nat) (h : n < 4294967296) : IntKind.u32.wrap (n : Int) = u32 (BitVec.ofNat 32 n) := by
  rw [wrap_u32_mod]
  unfold u32
  simp
theorem table_c : Meets Tryz.prog [] 124 tableS := by
  refine meets_of Γok Tryz.func124 rfl ?_
  intro args H Q h
  unfold tableS at h
  split at h
  case h_2 => exact h.elim
  (refine sx_sound Γok _ ?_; conv => whnf)
  refine loop_rule (fun k : Nat => ⟨[.ptr 0 0, .ptr 1 0, .any, .any, .int .i64 (k : Int), .any, .any, .any, .any, .any, .any, .any, .any, .any, .any, .any, .any, .any, .any, .any, .any, .any, .any], [.cells (tabTo 0) 181, .cells (tabTo k) 181]⟩) (fun k => k ≤ 256) (fun k => 256 - k) 0 (by omega) ?_ ?_
  · refine Weak.le ?_ ?_
    · (repeat' ((conv => whnf); first | exact True.intro | (refine And.intro ?_ ?_)))
      all_goals rfl
    · (repeat' ((conv => whnf); first | exact True.intro | (refine And.intro ?_ ?_)))
      all_goals first | rfl | exact .eq table_zero
  · intro k hk
    (refine sx_sound Γok _ ?_; conv => whnf)
    refine Both.dec (fun hlt => ?_) (fun hge => ?_)
    · (conv => whnf)
      refine loop_rule (fun j : Nat => ⟨[.ptr 0 0, .ptr 1 0, .int .i64 (k : Int), .int .u32 (u32 (Crc.steps j (BitVec.ofNat 32 k))), .int .i64 (k : Int), .any, .any, .any, .any, .int .i64 (j : Int), .any, .any, .any, .any, .any, .any, .any, .any, .any, .any, .any, .any, .any], [.cells (tabTo 0) 181, .cells (tabTo k) 181]⟩) (fun j => j ≤ 8) (fun j => 8 - j) 0 (by omega) ?_ ?_
      · refine Weak.le ?_ ?_
        · (repeat' ((conv => whnf); first | exact True.intro | (refine And.intro ?_ ?_)))
          all_goals first | rfl | (rw [u32_of_i64 k (by omega)]; rfl)
        · (repeat' ((conv => whnf); first | exact True.intro | (refine And.intro ?_ ?_)))
          all_goals first | rfl | exact .eq rfl
      · intro j hj
        (refine sx_sound Γok _ ?_; conv => whnf)
        refine Both.dec (fun hlt2 => ?_) (fun hge2 => ?_)
        · (conv => whnf)
          refine Need.mk (by omega) ?_
          (conv => whnf)
          refine ⟨j + 1, by omega, by omega, Weak.le ?_ ?_⟩
          · (repeat' ((conv => whnf); first | exact True.intro | (refine And.intro ?_ ?_)))
            all_goals first | rfl | (rw [step_go, ← Crc.steps_succ]; done) | (rw [wrap_i64 (by omega) (by omega)]; rfl)
          · (repeat' ((conv => whnf); first | exact True.intro | (refine And.intro ?_ ?_)))
            all_goals first | rfl | exact .eq rfl
        · have h8 : j = 8 := by omega
          subst h8
          (conv => whnf)
          refine Need.mk (by omega) ?_
          (conv => whnf)
          refine Need.mk ⟨rfl, by rw [tabTo_length]; omega⟩ ?_
          (conv => whnf)
          refine ⟨k + 1, by omega, by omega, Weak.le ?_ ?_⟩
          · (repeat' ((conv => whnf); first | exact True.intro | (refine And.intro ?_ ?_)))
            all_goals first | rfl | (rw [wrap_i64 (by omega) (by omega)]; rfl)
          · (repeat' ((conv => whnf); first | exact True.intro | (refine And.intro ?_ ?_)))
            all_goals first | rfl | exact .eq rfl | (refine .eq ?_; rw [← tabTo_set k (by omega)]; rw [Nat.zero_add, Int.toNat_natCast]; rfl)
    · have hk' : k = 256 := by omega
      subst hk'
      (conv => whnf)
      refine Need.mk (tabTo_length _) ?_
      (conv => whnf)
      refine Need.mk ⟨tabTo_length _, tabTo_length _, tabTo_far _⟩ ?_
      (conv => whnf)
      refine Need.mk (tabTo_length _) ?_
      (conv => whnf)
      exact ⟨_, _, WeakV.drop (congrArg SV.agg (tabTo_ren _ _)), h⟩
def overS : Spec := fun args H Q => match args, H with
  | [.int .u32 x, .str s], [] => ∃ r : BitVec 32, x = u32 r ∧ s.length < 1000000 ∧ Q (.int .u32 (u32 (Crc.over r s))) []
  | _, _ => False
theorem idx_go (x : BitVec 32) (b : UInt8) : bitXor .u8 (IntKind.u8.wrap (u32 x)) (b.toNat : Int) = u8 (x.setWidth 8 ^^^ b.toBitVec) := by
  rw [u8_of_u32, show ((b.toNat : Nat) : Int) = u8 b.toBitVec from rfl, xor_u8]
theorem tab_get (n : BitVec 8) : (tabTo 256)[(u8 n).toNat]? = some (.int .u32 (u32 (Crc.tab n))) := by
  have hn := n.isLt
  unfold tabTo u8
  rw [List.getElem?_map, Int.toNat_natCast, List.getElem?_range (by omega)]
  simp only [Option.map_some, hn, if_true]
  unfold tabAt Crc.tab
  congr 4
  apply BitVec.eq_of_toNat_eq
  simp
theorem over_go (r : BitVec 32) (s : List UInt8) {k : Nat} (h : k < s.length) : bitXor .u32 (shrI .u32 (u32 (Crc.over r (s.take k))) 8) (u32 (Crc.tab ((Crc.over r (s.take k)).setWidth 8 ^^^ (s.getD k 0).toBitVec))) = u32 (Crc.over r (s.take (k + 1))) := by
  rw [show (8 : Int) = ((8 : Nat) : Int) from rfl, shr_u32 _ 8 (by omega), xor_u32, ← Crc.byte_tab, List.take_succ_eq_append_getElem h, Crc.over_append, List.getD_eq_getElem?_getD, List.getElem?_eq_getElem h]
  rfl
theorem table_k : Contract Tryz.prog [] 124 tableS := ⟨⟨⟨_, rfl, rfl, rfl⟩⟩, table_c⟩
theorem over_c : Meets Tryz.prog [] 111 overS := by
  refine meets_of Γok Tryz.func111 rfl ?_
  intro args H Q h
  unfold overS at h
  split at h
  case h_2 => exact h.elim
  obtain ⟨r, rfl, hs, h⟩ := h
  (refine sx_sound Γok _ ?_; conv => whnf)
  refine CallVC.of [] table_k ?_
  (conv => whnf)
  simp only [tabTo_ren]
  refine Need.mk ⟨tabTo_length _, rfl, tabTo_far _⟩ ?_
  (conv => whnf)
  rename_i s
  refine loop_rule (fun k : Nat => ⟨[.int .u32 (u32 (Crc.over r (s.take k))), .str s, .any, .any, .any, .ptr 0 0, .any, .any, .str s, .int .i64 (s.length : Int), .int .i64 (k : Int), .any, .any, .any, .any, .any, .any, .any, .any, .any, .any, .any, .any, .any, .any, .any], [.cells (tabTo 256) 181]⟩) (fun k => k ≤ s.length) (fun k => s.length - k) 0 (by omega) ?_ ?_
  · refine Weak.le ?_ ?_
    · (repeat' ((conv => whnf); first | exact True.intro | (refine And.intro ?_ ?_)))
      all_goals rfl
    · (repeat' ((conv => whnf); first | exact True.intro | (refine And.intro ?_ ?_)))
      all_goals first | rfl | exact .eq rfl
  · intro k hk
    (refine sx_sound Γok _ ?_; conv => whnf)
    refine Both.dec (fun hlt => ?_) (fun hge => ?_)
    · (conv => whnf)
      (repeat (first | (refine Both.lit_true ?_; conv => whnf) | (refine Both.lit_false ?_; conv => whnf) | (refine Need.mk ?_ ?_; (focus (first | omega | exact ⟨by omega, by omega⟩ | rfl | exact ⟨rfl, rfl⟩ | exact ⟨rfl, Nat.le_of_ble_eq_true rfl⟩ | exact Nat.le_of_ble_eq_true rfl | (refine ⟨rfl, rfl, ?_⟩; simp [isFar, ofV0, CV.up, SV.renL, SV.ren] <;> fail) | (refine ⟨rfl, Nat.le_of_ble_eq_true rfl, ?_⟩; simp [isFar, ofV0, CV.up, SV.renL, SV.ren] <;> fail) | (simp <;> fail))); conv => whnf)))
      rw [idx_go]
      refine Need.mk ⟨u8_nonneg _, u8_lt _⟩ ?_
      (conv => whnf)
      refine ⟨_, (congrArg _ (Nat.zero_add _)).trans (tab_get _), ?_⟩
      (conv => whnf)
      refine ⟨k + 1, by omega, by omega, Weak.le ?_ ?_⟩
      · (repeat' ((conv => whnf); first | exact True.intro | (refine And.intro ?_ ?_)))
        all_goals first | rfl | (rw [wrap_i64 (by omega) (by omega)]; rfl) | (rw [Int.toNat_natCast]; exact congrArg (SV.int .u32) (over_go r s (by omega)))
      · (repeat' ((conv => whnf); first | exact True.intro | (refine And.intro ?_ ?_)))
        all_goals first | rfl | exact .eq rfl
    · have hk' : k = s.length := by omega
      subst hk'
      (conv => whnf)
      exact ⟨_, _, WeakV.drop (congrArg (SV.int .u32) (by rw [List.take_length])), h⟩
theorem over_k : Contract Tryz.prog [] 111 overS := ⟨⟨⟨_, rfl, rfl, rfl⟩⟩, over_c⟩
def sumS : Spec := fun args H Q => match args, H with
  | [p], [] => ∃ parts : List (List UInt8), (p = .sl 1 parts.length (parts.map .str) true ∨ p = .nilsl ∧ parts = []) ∧ parts.length < 1000000 ∧ (∀ s ∈ parts, s.length < 1000000) ∧ Q (.int .u32 (u32 (Crc.sum parts.flatten))) []
  | _, _ => False
theorem str_get {parts : List (List UInt8)} {k : Nat} (h : k < parts.length) : (parts.map CV.str)[((k : Nat) : Int).toNat]? = some (.str parts[k]) := by
  rw [Int.toNat_natCast, List.getElem?_map, List.getElem?_eq_getElem h]; rfl
theorem sum_go {parts : List (List UInt8)} {k : Nat} (h : k < parts.length) : Crc.over (Crc.over (~~~ 0) (parts.take k).flatten) parts[k] = Crc.over (~~~ 0) (parts.take (k + 1)).flatten := by
  rw [List.take_succ_eq_append_getElem h, List.flatten_append, Crc.over_append]; simp
theorem sum_c : Meets Tryz.prog [] 91 sumS := by
  refine meets_of Γok Tryz.func91 rfl ?_
  intro args H Q h
  unfold sumS at h
  split at h
  case h_2 => exact h.elim
  obtain ⟨parts, hp, hl, hs, h⟩ := h
  (refine sx_sound Γok _ ?_; conv => whnf)
  rcases hp with rfl | ⟨rfl, rfl⟩
  · (conv => whnf)
    refine loop_rule (fun k : Nat => ⟨[.any, .any, .any, .int .u32 (u32 (Crc.over (~~~ 0) (parts.take k).flatten)), .any, .any, .sl 1 parts.length (parts.map .str) true, .int .i64 (parts.length : Int), .int .i64 (k : Int), .any, .any, .any, .any, .any, .any, .any, .any, .any], []⟩) (fun k => k ≤ parts.length) (fun k => parts.length - k) 0 (by omega) ?_ ?_
    · refine Weak.le ?_ ?_
      · (repeat' ((conv => whnf); first | exact True.intro | (refine And.intro ?_ ?_)))
        all_goals rfl
      · (repeat' ((conv => whnf); first | exact True.intro | (refine And.intro ?_ ?_)))
        all_goals first | rfl | exact .eq rfl
    · intro k hk
      (refine sx_sound Γok _ ?_; conv => whnf)
      refine Both.dec (fun hlt => ?_) (fun hge => ?_)
      · (conv => whnf)
        (repeat (first | (refine Both.lit_true ?_; conv => whnf) | (refine Both.lit_false ?_; conv => whnf) | (refine Need.mk ?_ ?_; (focus (first | omega | exact ⟨by omega, by omega⟩ | rfl | exact ⟨rfl, rfl⟩ | exact ⟨rfl, Nat.le_of_ble_eq_true rfl⟩ | exact Nat.le_of_ble_eq_true rfl | (refine ⟨rfl, rfl, ?_⟩; simp [isFar, ofV0, CV.up, SV.renL, SV.ren] <;> fail) | (refine ⟨rfl, Nat.le_of_ble_eq_true rfl, ?_⟩; simp [isFar, ofV0, CV.up, SV.renL, SV.ren] <;> fail) | (simp <;> fail))); conv => whnf)))
        refine ⟨_, str_get (by omega), ?_⟩
        (conv => whnf)
        (refine ⟨_, rfl, ?_⟩; conv => whnf)
        refine CallVC.of [] over_k ?_
        refine ⟨_, rfl, hs _ (List.getElem_mem _), ?_⟩
        (conv => whnf)
        refine ⟨k + 1, by omega, by omega, Weak.le ?_ ?_⟩
        · (repeat' ((conv => whnf); first | exact True.intro | (refine And.intro ?_ ?_)))
          all_goals first | rfl | (rw [wrap_i64 (by omega) (by omega)]; rfl) | exact congrArg (fun x => SV.int .u32 (u32 x)) (sum_go (by omega))
        · (repeat' ((conv => whnf); first | exact True.intro | (refine And.intro ?_ ?_)))
      · have hk' : k = parts.length := by omega
        subst hk'
        (conv => whnf)
        refine ⟨_, _, WeakV.drop (congrArg (SV.int .u32) (by rw [List.take_length, not_u32]; rfl)), h⟩
  · (conv => whnf)
    refine loop_rule (fun k : Unit => ⟨[.any, .any, .any, .int .u32 (u32 (~~~ 0)), .any, .any, .nilsl, .int .i64 0, .int .i64 0, .any, .any, .any, .any, .any, .any, .any, .any, .any], []⟩) (fun k => True) (fun k => 0) () trivial ?_ ?_
    · refine Weak.le ?_ ?_
      · (repeat' ((conv => whnf); first | exact True.intro | (refine And.intro ?_ ?_)))
        all_goals rfl
      · (repeat' ((conv => whnf); first | exact True.intro | (refine And.intro ?_ ?_)))
    · intro k hk
      (refine sx_sound Γok _ ?_; conv => whnf)
      refine Both.dec (fun hlt => absurd hlt (by omega)) (fun hge => ?_)
      (conv => whnf)
      refine ⟨_, _, WeakV.drop (congrArg (SV.int .u32) (by rw [not_u32]; rfl)), h⟩
theorem sum_k : Contract Tryz.prog [] 91 sumS := ⟨⟨⟨_, rfl, rfl, rfl⟩⟩, sum_c⟩
def updS : Spec := fun args H Q => match args, H with
  | [.int .u32 x, .str s], [] => ∃ r : BitVec 32, x = u32 r ∧ s.length < 1000000 ∧ Q (.int .u32 (u32 (~~~ Crc.over (~~~ r) s))) []
  | _, _ => False
def lesS : Spec := fun args H Q => match args, H with
  | [.int .u32 x], [] => ∃ r : BitVec 32, x = u32 r ∧ Q (.str (Crc.le 4 r)) []
  | _, _ => False
def lesTo (r : BitVec 32) (k : Nat) : List SV := (List.range 4).map fun i => .int .u8 (if i < k then u8 ((r >>> (8 * i)).setWidth 8) else 0)
theorem les_set (r : BitVec 32) (k : Nat) (h : k < 4) : (lesTo r k).set k (.int .u8 (u8 ((r >>> (8 * k)).setWidth 8))) = lesTo r (k + 1) := by
  match k, h with
  | 0, _ => rfl
  | 1, _ => rfl
  | 2, _ => rfl
  | 3, _ => rfl
theorem by_u8 (b : BitVec 8) : UInt8.ofNat (u8 b).toNat = ⟨b⟩ := by
  apply UInt8.toNat_inj.1
  unfold u8
  rw [Int.toNat_natCast]
  simp
theorem les_bytes (r : BitVec 32) : (lesTo r 4).map svByte = Crc.le 4 r := by
  have h : ∀ k, svByte (.int .u8 (u8 ((r >>> (8 * k)).setWidth 8))) = Crc.lo (r >>> (8 * k)) := fun k => by_u8 _
  show [svByte (.int .u8 (u8 ((r >>> (8 * 0)).setWidth 8))), svByte (.int .u8 (u8 ((r >>> (8 * 1)).setWidth 8))), svByte (.int .u8 (u8 ((r >>> (8 * 2)).setWidth 8))), svByte (.int .u8 (u8 ((r >>> (8 * 3)).setWidth 8)))] = _
  rw [h, h, h, h]
  simp only [Crc.le, ← BitVec.shiftRight_add]
  simp
theorem les_far (r : BitVec 32) (k : Nat) : ∀ x ∈ lesTo r k, isU8s x = true := by
  intro x hx
  obtain ⟨i, _, rfl⟩ := List.mem_map.1 hx
  rfl
theorem les2_bytes (r : BitVec 32) : [UInt8.ofNat (IntKind.u8.wrap ((u32 r).tmod 256)).toNat, UInt8.ofNat (IntKind.u8.wrap ((IntKind.u32.wrap ((u32 r).tdiv 256)).tmod 256)).toNat, UInt8.ofNat (IntKind.u8.wrap ((IntKind.u32.wrap ((u32 r).tdiv 65536)).tmod 256)).toNat, UInt8.ofNat (IntKind.u8.wrap (IntKind.u32.wrap ((u32 r).tdiv 16777216))).toNat] = Crc.le 4 r := by
  have hn := u32_nonneg r
  have hl := u32_lt r
  have hq : ∀ d : Int, (u32 r).tdiv d = u32 r / d := fun d => Int.tdiv_eq_ediv_of_nonneg hn
  have hm : ∀ x : Int, IntKind.u32.wrap x = x % 4294967296 := wrap_u32_mod
  have e : ∀ x d : Int, 0 ≤ x → x.tmod d = x % d := fun x d h => Int.tmod_eq_emod_of_nonneg h
  rw [hq, hq, hq, hm, hm, hm, e _ _ hn, e _ _ (by omega), e _ _ (by omega)]
  simp only [wrap_u8_mod, Crc.le, ← BitVec.shiftRight_add]
  have g : ∀ (x : Int) (k : Nat), x = u32 r / (2 ^ k : Nat) % 256 → UInt8.ofNat x.toNat = Crc.lo (r >>> k) := by
    intro x k hx
    apply UInt8.toNat_inj.1
    unfold Crc.lo
    rw [hx]
    show (UInt8.ofNat _).toNat = ((r >>> k).setWidth 8).toNat
    rw [BitVec.toNat_setWidth, BitVec.toNat_ushiftRight, Nat.shiftRight_eq_div_pow]
    unfold u32
    have : ((r.toNat : Int) / ((2 ^ k : Nat) : Int) % 256).toNat = r.toNat / 2 ^ k % 256 := by
      rw [show ((r.toNat : Int) / ((2 ^ k : Nat) : Int) % 256) = ((r.toNat / 2 ^ k % 256 : Nat) : Int) by simp, Int.toNat_natCast]
    rw [this]
    simp
  rw [g _ 0 (by show _ = u32 r / (1 : Int) % 256; omega), g _ 8 (by show _ = u32 r / (256 : Int) % 256; omega), g _ 16 (by show _ = u32 r / (65536 : Int) % 256; omega), g _ 24 (by show _ = u32 r / (16777216 : Int) % 256; omega)]
  simp
theorem les_c : Meets Tryz.prog [] 90 lesS := by
  refine meets_of Γok Tryz.func90 rfl ?_
  intro args H Q h
  unfold lesS at h
  split at h
  case h_2 => exact h.elim
  obtain ⟨r, rfl, h⟩ := h
  (refine sx_sound Γok _ ?_; conv => whnf)
  refine loop_rule (fun k : Nat => ⟨[.int .u32 (u32 r), .any, .any, .ptr 0 0, .any, .int .i64 (k : Int), .any, .any, .any, .any, .any, .any, .any, .any, .any, .any, .any, .any], [.cells (lesTo r k) 169]⟩) (fun k => k ≤ 4) (fun k => 4 - k) 0 (by omega) ?_ ?_
  · refine Weak.le ?_ ?_
    · (repeat' ((conv => whnf); first | exact True.intro | (refine And.intro ?_ ?_)))
      all_goals rfl
    · (repeat' ((conv => whnf); first | exact True.intro | (refine And.intro ?_ ?_)))
      all_goals first | rfl | exact .eq rfl
  · intro k hk
    (refine sx_sound Γok _ ?_; conv => whnf)
    refine Both.dec (fun hlt => ?_) (fun hge => ?_)
    · (conv => whnf)
      (repeat (first | (refine Both.lit_true ?_; conv => whnf) | (refine Both.lit_false ?_; conv => whnf) | (refine Need.mk ?_ ?_; (focus (first | omega | exact ⟨by omega, by omega⟩ | rfl | exact ⟨rfl, rfl⟩ | exact ⟨rfl, Nat.le_of_ble_eq_true rfl⟩ | exact Nat.le_of_ble_eq_true rfl | (refine ⟨rfl, rfl, ?_⟩; simp [isFar, ofV0, CV.up, SV.renL, SV.ren] <;> fail) | (refine ⟨rfl, Nat.le_of_ble_eq_true rfl, ?_⟩; simp [isFar, ofV0, CV.up, SV.renL, SV.ren] <;> fail) | (simp <;> fail))); conv => whnf)))
      rw [wrap_i64 (by omega) (by omega)]
      (repeat (first | (refine Both.lit_true ?_; conv => whnf) | (refine Both.lit_false ?_; conv => whnf) | (refine Need.mk ?_ ?_; (focus (first | omega | exact ⟨by omega, by omega⟩ | rfl | exact ⟨rfl, rfl⟩ | exact ⟨rfl, Nat.le_of_ble_eq_true rfl⟩ | exact Nat.le_of_ble_eq_true rfl | (refine ⟨rfl, rfl, ?_⟩; simp [isFar, ofV0, CV.up, SV.renL, SV.ren] <;> fail) | (refine ⟨rfl, Nat.le_of_ble_eq_true rfl, ?_⟩; simp [isFar, ofV0, CV.up, SV.renL, SV.ren] <;> fail) | (simp <;> fail))); conv => whnf)))
      refine Need.mk ⟨rfl, by rw [show (lesTo r k).length = 4 from rfl]; omega⟩ ?_
      (conv => whnf)
      refine ⟨k + 1, by omega, by omega, Weak.le ?_ ?_⟩
      · (repeat' ((conv => whnf); first | exact True.intro | (refine And.intro ?_ ?_)))
        all_goals first | rfl | (rw [wrap_i64 (by omega) (by omega)]; rfl)
      · (repeat' ((conv => whnf); first | exact True.intro | (refine And.intro ?_ ?_)))
        all_goals first | rfl | (refine .eq ?_; rw [← les_set r k (by omega)]; rw [show (8 : Int) * (k : Int) = ((8 * k : Nat) : Int) by omega, shr_u32 _ _ (by omega), u8_of_u32, Nat.zero_add, Int.toNat_natCast]; done)
    · have hk' : k = 4 := by omega
      subst hk'
      (conv => whnf)
      (repeat (first | (refine Both.lit_true ?_; conv => whnf) | (refine Both.lit_false ?_; conv => whnf) | (refine Need.mk ?_ ?_; (focus (first | omega | exact ⟨by omega, by omega⟩ | rfl | exact ⟨rfl, rfl⟩ | exact ⟨rfl, Nat.le_of_ble_eq_true rfl⟩ | exact Nat.le_of_ble_eq_true rfl | (refine ⟨rfl, rfl, ?_⟩; simp [isFar, ofV0, CV.up, SV.renL, SV.ren] <;> fail) | (refine ⟨rfl, Nat.le_of_ble_eq_true rfl, ?_⟩; simp [isFar, ofV0, CV.up, SV.renL, SV.ren] <;> fail) | (simp <;> fail))); conv => whnf)))
      refine Need.mk ⟨rfl, les_far r 4⟩ ?_
      (conv => whnf)
      refine ⟨_, _, WeakV.drop (congrArg SV.str (les_bytes r)), h⟩
theorem les_k : Contract Tryz.prog [] 90 lesS := ⟨⟨⟨_, rfl, rfl, rfl⟩⟩, les_c⟩
theorem les2_c : Meets Tryz.prog [] 118 lesS := by
  refine meets_of Γok Tryz.func118 rfl ?_
  intro args H Q h
  unfold lesS at h
  split at h
  case h_2 => exact h.elim
  obtain ⟨r, rfl, h⟩ := h
  (refine sx_sound Γok _ ?_; conv => whnf)
  (repeat (first | (refine Both.lit_true ?_; conv => whnf) | (refine Both.lit_false ?_; conv => whnf) | (refine Need.mk ?_ ?_; (focus (first | omega | exact ⟨by omega, by omega⟩ | rfl | exact ⟨rfl, rfl⟩ | exact ⟨rfl, Nat.le_of_ble_eq_true rfl⟩ | exact Nat.le_of_ble_eq_true rfl | (refine ⟨rfl, rfl, ?_⟩; simp [isFar, ofV0, CV.up, SV.renL, SV.ren] <;> fail) | (refine ⟨rfl, Nat.le_of_ble_eq_true rfl, ?_⟩; simp [isFar, ofV0, CV.up, SV.renL, SV.ren] <;> fail) | (simp <;> fail))); conv => whnf)))
  refine Need.mk ⟨rfl, by simp [isU8]⟩ ?_
  (conv => whnf)
  refine ⟨_, _, WeakV.drop (congrArg SV.str (les2_bytes r)), h⟩
theorem les2_k : Contract Tryz.prog [] 118 lesS := ⟨⟨⟨_, rfl, rfl, rfl⟩⟩, les2_c⟩
def sealS : Spec := fun args H Q => match args, H with
  | [.str s], [] => s.length < 1000000 ∧ Q (.str (Crc.seal_ s)) []
  | _, _ => False
theorem seal_c : Meets Tryz.prog [] 63 sealS := by
  refine meets_of Γok Tryz.func63 rfl ?_
  intro args H Q h
  unfold sealS at h
  split at h
  case h_2 => exact h.elim
  obtain ⟨hs, h⟩ := h
  rename_i s
  (refine sx_sound Γok _ ?_; conv => whnf)
  refine CallVC.of [] sum_k ⟨[s], .inl rfl, by show 1 < 1000000; decide, by simpa using hs, ?_⟩
  (conv => whnf)
  refine CallVC.of [] les_k ⟨_, rfl, ?_⟩
  (conv => whnf)
  refine Need.mk (by rw [Crc.le_length]; omega) ?_
  (conv => whnf)
  refine ⟨_, _, WeakV.drop (congrArg SV.str (by rw [List.flatten_cons, List.flatten_nil, List.append_nil]; rfl)), h⟩
theorem seal_k : Contract Tryz.prog [] 63 sealS := ⟨⟨⟨_, rfl, rfl, rfl⟩⟩, seal_c⟩
def rightB (s : List UInt8) : Bool := decide (4 ≤ s.length) && decide (Crc.le 4 (Crc.sum (s.take (s.length - 4))) = s.drop (s.length - 4))
def rightS : Spec := fun args H Q => match args, H with
  | [.str s], [] => s.length < 1000000 ∧ Q (.bool (rightB s)) []
  | _, _ => False
theorem sub_all (r : BitVec 32) : IntKind.u32.wrap (4294967295 - u32 r) = u32 (~~~ r) := by
  rw [show (4294967295 : Int) = u32 (BitVec.allOnes 32) from rfl, sub_u32, BitVec.allOnes_sub_eq_not]
theorem wide_go (x : BitVec 32) (b : UInt8) : bitXor .u32 (u32 x) (IntKind.u32.wrap (b.toNat : Int)) = u32 (x ^^^ Crc.wide b) := by
  have : IntKind.u32.wrap (b.toNat : Int) = u32 (Crc.wide b) := by
    have hb : b.toNat < 256 := b.toNat_lt
    rw [wrap_u32_mod]
    unfold u32 Crc.wide
    rw [BitVec.toNat_setWidth]
    show ((b.toNat : Int) % 4294967296) = ((b.toNat % 4294967296 : Nat) : Int)
    omega
  rw [this, xor_u32]
theorem over2_go (r : BitVec 32) (s : List UInt8) {k : Nat} (h : k < s.length) : Crc.steps 8 (Crc.over r (s.take k) ^^^ Crc.wide (s.getD k 0)) = Crc.over r (s.take (k + 1)) := by
  rw [List.take_succ_eq_append_getElem h, Crc.over_append, List.getD_eq_getElem?_getD, List.getElem?_eq_getElem h]
  rfl
theorem half_go (r : BitVec 32) : IntKind.u32.wrap ((u32 r).tdiv 2) = u32 (r >>> 1) := by
  have hn := u32_nonneg r
  have hl := u32_lt r
  rw [Int.tdiv_eq_ediv_of_nonneg hn, wrap_u32_mod]
  unfold u32
  rw [BitVec.toNat_ushiftRight, Nat.shiftRight_eq_div_pow]
  unfold u32 at hl
  omega
theorem lsb_go (r : BitVec 32) : (u32 r).tmod 2 = 1 ↔ r.getLsbD 0 = true := by
  rw [Int.tmod_eq_emod_of_nonneg (u32_nonneg r)]
  unfold u32
  rw [show r.getLsbD 0 = r.toNat.testBit 0 from rfl, Nat.testBit_zero]
  simp
  omega
theorem step_odd (r : BitVec 32) (h : (u32 r).tmod 2 = 1) : bitXor .u32 (IntKind.u32.wrap ((u32 r).tdiv 2)) 3988292384 = u32 (Crc.step r) := by
  rw [half_go, show (3988292384 : Int) = u32 Crc.poly from rfl, xor_u32, Crc.step, (lsb_go r).1 h]
  rfl
theorem step_even (r : BitVec 32) (h : ¬ (u32 r).tmod 2 = 1) : IntKind.u32.wrap ((u32 r).tdiv 2) = u32 (Crc.step r) := by
  have : r.getLsbD 0 = false := by
    cases hb : r.getLsbD 0 with
    | false => rfl
    | true => exact absurd ((lsb_go r).2 hb) h
  rw [half_go, Crc.step, this]
  simp
theorem right2_go (s : List UInt8) (h : 4 ≤ s.length) : decide (s = Crc.seal_ (List.drop (Int.toNat 0) (List.take ((s.length : Int) - 4).toNat s))) = rightB s := by
  unfold rightB
  rw [show ((s.length : Int) - 4).toNat = s.length - 4 by omega, show List.drop (Int.toNat 0) (List.take (s.length - 4) s) = List.take (s.length - 4) s from rfl]
  simp only [h, decide_true, Bool.true_and]
  congr 1
  apply propext
  unfold Crc.seal_
  constructor
  · intro e
    have e2 : List.take (s.length - 4) s ++ s.drop (s.length - 4) = List.take (s.length - 4) s ++ Crc.le 4 (Crc.sum (List.take (s.length - 4) s)) := by rw [List.take_append_drop]; exact e
    exact (List.append_cancel_left e2).symm
  · intro e
    rw [e, List.take_append_drop]
theorem cut_go (s : List UInt8) (h : 4 ≤ s.length) : List.drop (Int.toNat 0) (List.take ((s.length : Int) - 4).toNat s) = s.take (s.length - 4) := by
  rw [show ((s.length : Int) - 4).toNat = s.length - 4 by omega]; rfl
theorem right_go (s : List UInt8) (h : 4 ≤ s.length) : decide (Crc.le 4 (Crc.sum [s.take (s.length - 4)].flatten) = List.drop ((s.length : Int) - 4).toNat (List.take (s.length : Int).toNat s)) = rightB s := by
  unfold rightB
  rw [show ((s.length : Int) - 4).toNat = s.length - 4 by omega, Int.toNat_natCast, List.take_length, List.flatten_cons, List.flatten_nil, List.append_nil]
  simp [h]
theorem right_no (s : List UInt8) (h : ¬ 4 ≤ s.length) : false = rightB s := by
  unfold rightB
  simp [h]
theorem right_c : Meets Tryz.prog [] 93 rightS := by
  refine meets_of Γok Tryz.func93 rfl ?_
  intro args H Q h
  unfold rightS at h
  split at h
  case h_2 => exact h.elim
  obtain ⟨hs, h⟩ := h
  rename_i s
  (refine sx_sound Γok _ ?_; conv => whnf)
  (repeat (first | (refine Both.lit_true ?_; conv => whnf) | (refine Both.lit_false ?_; conv => whnf) | (refine Need.mk ?_ ?_; (focus (first | omega | exact ⟨by omega, by omega⟩ | rfl | exact ⟨rfl, rfl⟩ | exact ⟨rfl, Nat.le_of_ble_eq_true rfl⟩ | exact Nat.le_of_ble_eq_true rfl | (refine ⟨rfl, rfl, ?_⟩; simp [isFar, ofV0, CV.up, SV.renL, SV.ren] <;> fail) | (refine ⟨rfl, Nat.le_of_ble_eq_true rfl, ?_⟩; simp [isFar, ofV0, CV.up, SV.renL, SV.ren] <;> fail) | (simp <;> fail))); conv => whnf)))
  rw [wrap_i64 (n := (s.length : Int) - 4) (by omega) (by omega)]
  refine DrawVC.all Γok (by kernel_rfl) (by kernel_rfl) ?_
  (conv => whnf)
  (repeat (first | (exact Out.same; conv => whnf) | (exact Out1.same; conv => whnf) | (refine QAnd.mk ?_ ?_; conv => whnf) | (apply QStepH.go; conv => whnf) | (refine Both.lit_true ?_; conv => whnf) | (refine Both.lit_false ?_; conv => whnf) | (apply QStep.go; conv => whnf) | (refine Need.mk ?_ ?_; (focus (first | omega | exact ⟨by omega, by omega⟩ | rfl | exact ⟨rfl, rfl⟩ | exact ⟨rfl, Nat.le_of_ble_eq_true rfl⟩ | exact Nat.le_of_ble_eq_true rfl | (refine ⟨rfl, rfl, ?_⟩; simp [isFar, ofV0, CV.up, SV.renL, SV.ren] <;> fail) | (refine ⟨rfl, Nat.le_of_ble_eq_true rfl, ?_⟩; simp [isFar, ofV0, CV.up, SV.renL, SV.ren] <;> fail) | (simp <;> fail))); conv => whnf)))
  refine Both.dec (fun hlt => ?_) (fun hge => ?_)
  · (conv => whnf)
    (repeat (first | (exact Out.same; conv => whnf) | (exact Out1.same; conv => whnf) | (refine QAnd.mk ?_ ?_; conv => whnf) | (apply QStepH.go; conv => whnf) | (refine Both.lit_true ?_; conv => whnf) | (refine Both.lit_false ?_; conv => whnf) | (apply QStep.go; conv => whnf) | (refine Need.mk ?_ ?_; (focus (first | omega | exact ⟨by omega, by omega⟩ | rfl | exact ⟨rfl, rfl⟩ | exact ⟨rfl, Nat.le_of_ble_eq_true rfl⟩ | exact Nat.le_of_ble_eq_true rfl | (refine ⟨rfl, rfl, ?_⟩; simp [isFar, ofV0, CV.up, SV.renL, SV.ren] <;> fail) | (refine ⟨rfl, Nat.le_of_ble_eq_true rfl, ?_⟩; simp [isFar, ofV0, CV.up, SV.renL, SV.ren] <;> fail) | (simp <;> fail))); conv => whnf)))
    refine CallVC.of [] sum_k ?_
    conv => whnf
    refine ⟨[s.take (s.length - 4)], .inl (by rw [cut_go s (by omega)]; rfl), by show 1 < 1000000; decide, (by simp; omega), ?_⟩
    conv => whnf
    (repeat (first | (exact Out.same; conv => whnf) | (exact Out1.same; conv => whnf) | (refine QAnd.mk ?_ ?_; conv => whnf) | (apply QStepH.go; conv => whnf) | (refine Both.lit_true ?_; conv => whnf) | (refine Both.lit_false ?_; conv => whnf) | (apply QStep.go; conv => whnf) | (refine Need.mk ?_ ?_; (focus (first | omega | exact ⟨by omega, by omega⟩ | rfl | exact ⟨rfl, rfl⟩ | exact ⟨rfl, Nat.le_of_ble_eq_true rfl⟩ | exact Nat.le_of_ble_eq_true rfl | (refine ⟨rfl, rfl, ?_⟩; simp [isFar, ofV0, CV.up, SV.renL, SV.ren] <;> fail) | (refine ⟨rfl, Nat.le_of_ble_eq_true rfl, ?_⟩; simp [isFar, ofV0, CV.up, SV.renL, SV.ren] <;> fail) | (simp <;> fail))); conv => whnf)))
    refine CallVC.of [] les_k ⟨_, rfl, ?_⟩
    conv => whnf
    (repeat (first | (exact Out.same; conv => whnf) | (exact Out1.same; conv => whnf) | (refine QAnd.mk ?_ ?_; conv => whnf) | (apply QStepH.go; conv => whnf) | (refine Both.lit_true ?_; conv => whnf) | (refine Both.lit_false ?_; conv => whnf) | (apply QStep.go; conv => whnf) | (refine Need.mk ?_ ?_; (focus (first | omega | exact ⟨by omega, by omega⟩ | rfl | exact ⟨rfl, rfl⟩ | exact ⟨rfl, Nat.le_of_ble_eq_true rfl⟩ | exact Nat.le_of_ble_eq_true rfl | (refine ⟨rfl, rfl, ?_⟩; simp [isFar, ofV0, CV.up, SV.renL, SV.ren] <;> fail) | (refine ⟨rfl, Nat.le_of_ble_eq_true rfl, ?_⟩; simp [isFar, ofV0, CV.up, SV.renL, SV.ren] <;> fail) | (simp <;> fail))); conv => whnf)))
    exact ⟨_, _, WeakV.drop (congrArg SV.bool (right_go s (by omega))), h⟩
  · (conv => whnf)
    (repeat (first | (exact Out.same; conv => whnf) | (exact Out1.same; conv => whnf) | (refine QAnd.mk ?_ ?_; conv => whnf) | (apply QStepH.go; conv => whnf) | (refine Both.lit_true ?_; conv => whnf) | (refine Both.lit_false ?_; conv => whnf) | (apply QStep.go; conv => whnf) | (refine Need.mk ?_ ?_; (focus (first | omega | exact ⟨by omega, by omega⟩ | rfl | exact ⟨rfl, rfl⟩ | exact ⟨rfl, Nat.le_of_ble_eq_true rfl⟩ | exact Nat.le_of_ble_eq_true rfl | (refine ⟨rfl, rfl, ?_⟩; simp [isFar, ofV0, CV.up, SV.renL, SV.ren] <;> fail) | (refine ⟨rfl, Nat.le_of_ble_eq_true rfl, ?_⟩; simp [isFar, ofV0, CV.up, SV.renL, SV.ren] <;> fail) | (simp <;> fail))); conv => whnf)))
    exact ⟨_, _, WeakV.drop (congrArg SV.bool (right_no s (by omega))), h⟩
theorem right_k : Contract Tryz.prog [] 93 rightS := ⟨⟨⟨_, rfl, rfl, rfl⟩⟩, right_c⟩
def stepS : Spec := fun args H Q => match args, H with
  | [.int .u32 x], [] => ∃ r : BitVec 32, x = u32 r ∧ Q (.int .u32 (u32 (Crc.step r))) []
  | _, _ => False
theorem step_c : Meets Tryz.prog [] 142 stepS := by
  refine meets_of Γok Tryz.func142 rfl ?_
  intro args H Q h
  unfold stepS at h
  split at h
  case h_2 => exact h.elim
  obtain ⟨r, rfl, h⟩ := h
  (refine sx_sound Γok _ ?_; conv => whnf)
  (repeat (first | (refine Both.lit_true ?_; conv => whnf) | (refine Both.lit_false ?_; conv => whnf) | (refine Need.mk ?_ ?_; (focus (first | omega | exact ⟨by omega, by omega⟩ | rfl | exact ⟨rfl, rfl⟩ | exact ⟨rfl, Nat.le_of_ble_eq_true rfl⟩ | exact Nat.le_of_ble_eq_true rfl | (refine ⟨rfl, rfl, ?_⟩; simp [isFar, ofV0, CV.up, SV.renL, SV.ren] <;> fail) | (refine ⟨rfl, Nat.le_of_ble_eq_true rfl, ?_⟩; simp [isFar, ofV0, CV.up, SV.renL, SV.ren] <;> fail) | (simp <;> fail))); conv => whnf)))
  refine Both.dec (fun hlt => ?_) (fun hge => ?_)
  · (conv => whnf)
    (repeat (first | (refine Both.lit_true ?_; conv => whnf) | (refine Both.lit_false ?_; conv => whnf) | (refine Need.mk ?_ ?_; (focus (first | omega | exact ⟨by omega, by omega⟩ | rfl | exact ⟨rfl, rfl⟩ | exact ⟨rfl, Nat.le_of_ble_eq_true rfl⟩ | exact Nat.le_of_ble_eq_true rfl | (refine ⟨rfl, rfl, ?_⟩; simp [isFar, ofV0, CV.up, SV.renL, SV.ren] <;> fail) | (refine ⟨rfl, Nat.le_of_ble_eq_true rfl, ?_⟩; simp [isFar, ofV0, CV.up, SV.renL, SV.ren] <;> fail) | (simp <;> fail))); conv => whnf)))
    exact ⟨_, _, WeakV.drop (congrArg (SV.int .u32) (step_odd r hlt)), h⟩
  · (conv => whnf)
    (repeat (first | (refine Both.lit_true ?_; conv => whnf) | (refine Both.lit_false ?_; conv => whnf) | (refine Need.mk ?_ ?_; (focus (first | omega | exact ⟨by omega, by omega⟩ | rfl | exact ⟨rfl, rfl⟩ | exact ⟨rfl, Nat.le_of_ble_eq_true rfl⟩ | exact Nat.le_of_ble_eq_true rfl | (refine ⟨rfl, rfl, ?_⟩; simp [isFar, ofV0, CV.up, SV.renL, SV.ren] <;> fail) | (refine ⟨rfl, Nat.le_of_ble_eq_true rfl, ?_⟩; simp [isFar, ofV0, CV.up, SV.renL, SV.ren] <;> fail) | (simp <;> fail))); conv => whnf)))
    exact ⟨_, _, WeakV.drop (congrArg (SV.int .u32) (step_even r hge)), h⟩
theorem step_k : Contract Tryz.prog [] 142 stepS := ⟨⟨⟨_, rfl, rfl, rfl⟩⟩, step_c⟩
theorem over2_c : Meets Tryz.prog [] 138 overS := by
  refine meets_of Γok Tryz.func138 rfl ?_
  intro args H Q h
  unfold overS at h
  split at h
  case h_2 => exact h.elim
  obtain ⟨r, rfl, hs, h⟩ := h
  rename_i s
  (refine sx_sound Γok _ ?_; conv => whnf)
  refine loop_rule (fun k : Nat => ⟨[.int .u32 (u32 (Crc.over r (s.take k))), .str s, .any, .any, .any, .int .i64 (k : Int), .any, .any, .any, .any, .any, .any, .any, .any, .any, .any, .any, .any, .any, .any, .any, .any, .any, .any, .any, .any], []⟩) (fun k => k ≤ s.length) (fun k => s.length - k) 0 (by omega) ?_ ?_
  · refine Weak.le ?_ ?_
    · (repeat' ((conv => whnf); first | exact True.intro | (refine And.intro ?_ ?_)))
      all_goals rfl
    · (repeat' ((conv => whnf); first | exact True.intro | (refine And.intro ?_ ?_)))
  · intro k hk
    (refine sx_sound Γok _ ?_; conv => whnf)
    refine Both.dec (fun hlt => ?_) (fun hge => ?_)
    · (conv => whnf)
      (repeat (first | (refine Both.lit_true ?_; conv => whnf) | (refine Both.lit_false ?_; conv => whnf) | (refine Need.mk ?_ ?_; (focus (first | omega | exact ⟨by omega, by omega⟩ | rfl | exact ⟨rfl, rfl⟩ | exact ⟨rfl, Nat.le_of_ble_eq_true rfl⟩ | exact Nat.le_of_ble_eq_true rfl | (refine ⟨rfl, rfl, ?_⟩; simp [isFar, ofV0, CV.up, SV.renL, SV.ren] <;> fail) | (refine ⟨rfl, Nat.le_of_ble_eq_true rfl, ?_⟩; simp [isFar, ofV0, CV.up, SV.renL, SV.ren] <;> fail) | (simp <;> fail))); conv => whnf)))
      have hg : s.getD ((k : Int)).toNat 0 = s.getD k 0 := by rw [Int.toNat_natCast]
      rw [hg]
      refine loop_rule (fun j : Nat => ⟨[.int .u32 (u32 (Crc.steps j (Crc.over r (s.take k) ^^^ Crc.wide (s.getD k 0)))), .str s, .any, .any, .any, .int .i64 (k : Int), .int .i64 (j : Int), .any, .any, .any, .any, .any, .any, .any, .any, .any, .any, .any, .any, .any, .any, .any, .any, .any, .any, .any], []⟩) (fun j => j ≤ 8) (fun j => 8 - j) 0 (by omega) ?_ ?_
      · refine Weak.le ?_ ?_
        · (repeat' ((conv => whnf); first | exact True.intro | (refine And.intro ?_ ?_)))
          all_goals first | rfl | (rw [wide_go]; rfl)
        · (repeat' ((conv => whnf); first | exact True.intro | (refine And.intro ?_ ?_)))
      · intro j hj
        (refine sx_sound Γok _ ?_; conv => whnf)
        refine Both.dec (fun hlt => ?_) (fun hge => ?_)
        · (conv => whnf)
          refine CallVC.of [] step_k ⟨_, rfl, ?_⟩
          (conv => whnf)
          refine ⟨j + 1, by omega, by omega, Weak.le ?_ ?_⟩
          · (repeat' ((conv => whnf); first | exact True.intro | (refine And.intro ?_ ?_)))
            all_goals first | rfl | (rw [wrap_i64 (by omega) (by omega)]; rfl) | (rw [← Crc.steps_succ]; done)
          · (repeat' ((conv => whnf); first | exact True.intro | (refine And.intro ?_ ?_)))
        · have h8 : j = 8 := by omega
          subst h8
          (conv => whnf)
          refine ⟨k + 1, by omega, by omega, Weak.le ?_ ?_⟩
          · (repeat' ((conv => whnf); first | exact True.intro | (refine And.intro ?_ ?_)))
            all_goals first | rfl | (rw [wrap_i64 (by omega) (by omega)]; rfl) | (rw [over2_go r s (by omega)]; done)
          · (repeat' ((conv => whnf); first | exact True.intro | (refine And.intro ?_ ?_)))
    · have hk' : k = s.length := by omega
      subst hk'
      (conv => whnf)
      exact ⟨_, _, WeakV.drop (congrArg (SV.int .u32) (by rw [List.take_length])), h⟩
theorem over2_k : Contract Tryz.prog [] 138 overS := ⟨⟨⟨_, rfl, rfl, rfl⟩⟩, over2_c⟩
theorem upd2_c : Meets Tryz.prog [] 132 updS := by
  refine meets_of Γok Tryz.func132 rfl ?_
  intro args H Q h
  unfold updS at h
  split at h
  case h_2 => exact h.elim
  obtain ⟨r, rfl, hs, h⟩ := h
  (refine sx_sound Γok _ ?_; conv => whnf)
  refine CallVC.of [] over2_k ⟨~~~ r, sub_all _, hs, ?_⟩
  (conv => whnf)
  refine ⟨_, _, WeakV.drop (congrArg (SV.int .u32) (sub_all _)), h⟩
theorem upd2_k : Contract Tryz.prog [] 132 updS := ⟨⟨⟨_, rfl, rfl, rfl⟩⟩, upd2_c⟩
def sum2S : Spec := fun args H Q => match args, H with
  | [.str s], [] => s.length < 1000000 ∧ Q (.int .u32 (u32 (Crc.sum s))) []
  | _, _ => False
theorem sum2_c : Meets Tryz.prog [] 119 sum2S := by
  refine meets_of Γok Tryz.func119 rfl ?_
  intro args H Q h
  unfold sum2S at h
  split at h
  case h_2 => exact h.elim
  obtain ⟨hs, h⟩ := h
  (refine sx_sound Γok _ ?_; conv => whnf)
  refine CallVC.of [] upd2_k ⟨0, rfl, hs, ?_⟩
  (conv => whnf)
  refine ⟨_, _, WeakV.drop rfl, h⟩
theorem sum2_k : Contract Tryz.prog [] 119 sum2S := ⟨⟨⟨_, rfl, rfl, rfl⟩⟩, sum2_c⟩
theorem seal2_c : Meets Tryz.prog [] 102 sealS := by
  refine meets_of Γok Tryz.func102 rfl ?_
  intro args H Q h
  unfold sealS at h
  split at h
  case h_2 => exact h.elim
  obtain ⟨hs, h⟩ := h
  (refine sx_sound Γok _ ?_; conv => whnf)
  refine CallVC.of [] sum2_k ⟨hs, ?_⟩
  (conv => whnf)
  refine CallVC.of [] les2_k ⟨_, rfl, ?_⟩
  (conv => whnf)
  refine Need.mk (by rw [Crc.le_length]; omega) ?_
  (conv => whnf)
  refine ⟨_, _, WeakV.drop rfl, h⟩
theorem seal2_k : Contract Tryz.prog [] 102 sealS := ⟨⟨⟨_, rfl, rfl, rfl⟩⟩, seal2_c⟩
theorem right2_c : Meets Tryz.prog [] 121 rightS := by
  refine meets_of Γok Tryz.func121 rfl ?_
  intro args H Q h
  unfold rightS at h
  split at h
  case h_2 => exact h.elim
  obtain ⟨hs, h⟩ := h
  rename_i s
  (refine sx_sound Γok _ ?_; conv => whnf)
  refine Both.dec (fun hlt => ?_) (fun hge => ?_)
  · (conv => whnf)
    (repeat (first | (refine Both.lit_true ?_; conv => whnf) | (refine Both.lit_false ?_; conv => whnf) | (refine Need.mk ?_ ?_; (focus (first | omega | exact ⟨by omega, by omega⟩ | rfl | exact ⟨rfl, rfl⟩ | exact ⟨rfl, Nat.le_of_ble_eq_true rfl⟩ | exact Nat.le_of_ble_eq_true rfl | (refine ⟨rfl, rfl, ?_⟩; simp [isFar, ofV0, CV.up, SV.renL, SV.ren] <;> fail) | (refine ⟨rfl, Nat.le_of_ble_eq_true rfl, ?_⟩; simp [isFar, ofV0, CV.up, SV.renL, SV.ren] <;> fail) | (simp <;> fail))); conv => whnf)))
    rw [wrap_i64 (n := (s.length : Int) - 4) (by omega) (by omega)]
    (repeat (first | (refine Both.lit_true ?_; conv => whnf) | (refine Both.lit_false ?_; conv => whnf) | (refine Need.mk ?_ ?_; (focus (first | omega | exact ⟨by omega, by omega⟩ | rfl | exact ⟨rfl, rfl⟩ | exact ⟨rfl, Nat.le_of_ble_eq_true rfl⟩ | exact Nat.le_of_ble_eq_true rfl | (refine ⟨rfl, rfl, ?_⟩; simp [isFar, ofV0, CV.up, SV.renL, SV.ren] <;> fail) | (refine ⟨rfl, Nat.le_of_ble_eq_true rfl, ?_⟩; simp [isFar, ofV0, CV.up, SV.renL, SV.ren] <;> fail) | (simp <;> fail))); conv => whnf)))
    refine CallVC.of [] seal2_k ⟨by simp; omega, ?_⟩
    (conv => whnf)
    (repeat (first | (refine Both.lit_true ?_; conv => whnf) | (refine Both.lit_false ?_; conv => whnf) | (refine Need.mk ?_ ?_; (focus (first | omega | exact ⟨by omega, by omega⟩ | rfl | exact ⟨rfl, rfl⟩ | exact ⟨rfl, Nat.le_of_ble_eq_true rfl⟩ | exact Nat.le_of_ble_eq_true rfl | (refine ⟨rfl, rfl, ?_⟩; simp [isFar, ofV0, CV.up, SV.renL, SV.ren] <;> fail) | (refine ⟨rfl, Nat.le_of_ble_eq_true rfl, ?_⟩; simp [isFar, ofV0, CV.up, SV.renL, SV.ren] <;> fail) | (simp <;> fail))); conv => whnf)))
    exact ⟨_, _, WeakV.drop (congrArg SV.bool (right2_go s (by omega))), h⟩
  · (conv => whnf)
    (repeat (first | (refine Both.lit_true ?_; conv => whnf) | (refine Both.lit_false ?_; conv => whnf) | (refine Need.mk ?_ ?_; (focus (first | omega | exact ⟨by omega, by omega⟩ | rfl | exact ⟨rfl, rfl⟩ | exact ⟨rfl, Nat.le_of_ble_eq_true rfl⟩ | exact Nat.le_of_ble_eq_true rfl | (refine ⟨rfl, rfl, ?_⟩; simp [isFar, ofV0, CV.up, SV.renL, SV.ren] <;> fail) | (refine ⟨rfl, Nat.le_of_ble_eq_true rfl, ?_⟩; simp [isFar, ofV0, CV.up, SV.renL, SV.ren] <;> fail) | (simp <;> fail))); conv => whnf)))
    exact ⟨_, _, WeakV.drop (congrArg SV.bool (right_no s (by omega))), h⟩
theorem right2_k : Contract Tryz.prog [] 121 rightS := ⟨⟨⟨_, rfl, rfl, rfl⟩⟩, right2_c⟩
end Go.LX
end
section
set_option maxRecDepth 100000
set_option maxHeartbeats 1000000
set_option autoImplicit false
set_option linter.unusedVariables false
set_option linter.unusedSimpArgs false
namespace Go.LX
open Go.Proofs

def hRaw (z : Nat) (g sg : Int) : List UInt8 := [72] ++ beb g.toNat 8 ++ [UInt8.ofNat sg.toNat] ++ List.replicate (z - 14) 0
def hPut (z : Nat) (g sg : Int) : List UInt8 := Crc.seal_ (hRaw z g sg)
def hOk (z g sg : Int) : Bool := decide (64 ≤ z ∧ z ≤ 512 ∧ g ≠ 0 ∧ 0 ≤ sg ∧ sg ≤ 1)
def hRes (z g sg : Int) : List UInt8 × Int := if hOk z g sg = true then (hPut z.toNat g sg, 0) else ([], 1)
theorem hRaw_len {z : Nat} (h : 64 ≤ z) (g sg : Int) : (hRaw z g sg).length = z - 4 := by
  simp only [hRaw, List.length_append, List.length_cons, List.length_nil, beb_length, List.length_replicate]
  omega
theorem hPut_len {z : Nat} (h : 64 ≤ z) (g sg : Int) : (hPut z g sg).length = z := by
  rw [hPut, Crc.seal_, List.length_append, Crc.le_length, hRaw_len h]
  omega
def h6bytesAS : Spec := fun args H Q => match args, H with
  | [.ptr 0 0], [.cells [.int .i64 e, .opt 0 1, .own 1] 114, .own 5 1 m xs true] => ∃ l : List UInt8, xs = bys l ∧ m = l.length ∧ l.length < 1000000000 ∧
    ∀ s, s = (if e = 0 then l else []) → Q (.tuple [.str s, .int .i64 e]) [.cells [.int .i64 e, .opt 0 1, .own 1] 114, .gone]
  | _, _ => False
theorem h6bytesA_k : Contract Tryz.prog [] 62 h6bytesAS := bytes_k.imp fun args H Q h => by
  unfold h6bytesAS at h
  split at h
  case h_2 => exact h.elim
  obtain ⟨l, rfl, rfl, hl, h⟩ := h
  exact ⟨l, rfl, rfl, hl, h _ rfl⟩
def szB (z : Int) : Bool := decide (64 ≤ z ∧ z ≤ 512)
def hrightS : Spec := fun args H Q => match args, H with
  | [.int .i64 z], [] => ∀ b : Bool, b = szB z → Q (.bool b) []
  | _, _ => False
theorem hright_c : Meets Tryz.prog [] 65 hrightS := by
  refine meets_of Γok Tryz.func65 rfl ?_
  intro args H Q h
  unfold hrightS at h
  split at h
  case h_2 => exact h.elim
  rename_i z
  (refine sx_sound Γok _ ?_; conv => whnf)
  (repeat (first | (exact Out.same; conv => whnf) | (exact Out1.same; conv => whnf) | (refine QAnd.mk ?_ ?_; conv => whnf) | (apply QStepH.go; conv => whnf) | (refine Both.lit_true ?_; conv => whnf) | (refine Both.lit_false ?_; conv => whnf) | (apply QStep.go; conv => whnf) | (refine Need.au ?_; conv => whnf) | (refine ⟨_, rfl, ?_⟩; conv => whnf)))
  refine Both.dec (fun h1 => ?_) (fun h1 => ?_)
  · (conv => whnf)
    (repeat (first | (exact Out.same; conv => whnf) | (exact Out1.same; conv => whnf) | (refine QAnd.mk ?_ ?_; conv => whnf) | (apply QStepH.go; conv => whnf) | (refine Both.lit_true ?_; conv => whnf) | (refine Both.lit_false ?_; conv => whnf) | (apply QStep.go; conv => whnf) | (refine Need.au ?_; conv => whnf) | (refine ⟨_, rfl, ?_⟩; conv => whnf)))
    exact ⟨_, _, WeakV.drop rfl, h _ (decide_eq_decide.2 (by omega))⟩
  · (conv => whnf)
    (repeat (first | (exact Out.same; conv => whnf) | (exact Out1.same; conv => whnf) | (refine QAnd.mk ?_ ?_; conv => whnf) | (apply QStepH.go; conv => whnf) | (refine Both.lit_true ?_; conv => whnf) | (refine Both.lit_false ?_; conv => whnf) | (apply QStep.go; conv => whnf) | (refine Need.au ?_; conv => whnf) | (refine ⟨_, rfl, ?_⟩; conv => whnf)))
    exact ⟨_, _, WeakV.drop rfl, h _ (decide_eq_false (by omega)).symm⟩
theorem hright_k : Contract Tryz.prog [] 65 hrightS := ⟨⟨⟨_, rfl, rfl, rfl⟩⟩, hright_c⟩
theorem rright5_c : Meets Tryz.prog [] 30 hrightS := by
  refine meets_of Γok Tryz.func30 rfl ?_
  intro args H Q h
  unfold hrightS at h
  split at h
  case h_2 => exact h.elim
  rename_i z
  (refine sx_sound Γok _ ?_; conv => whnf)
  (repeat (first | (exact Out.same; conv => whnf) | (exact Out1.same; conv => whnf) | (refine QAnd.mk ?_ ?_; conv => whnf) | (apply QStepH.go; conv => whnf) | (refine Both.lit_true ?_; conv => whnf) | (refine Both.lit_false ?_; conv => whnf) | (apply QStep.go; conv => whnf) | (refine Need.au ?_; conv => whnf) | (refine ⟨_, rfl, ?_⟩; conv => whnf)))
  refine Both.dec (fun h1 => ?_) (fun h1 => ?_)
  · (conv => whnf)
    (repeat (first | (exact Out.same; conv => whnf) | (exact Out1.same; conv => whnf) | (refine QAnd.mk ?_ ?_; conv => whnf) | (apply QStepH.go; conv => whnf) | (refine Both.lit_true ?_; conv => whnf) | (refine Both.lit_false ?_; conv => whnf) | (apply QStep.go; conv => whnf) | (refine Need.au ?_; conv => whnf) | (refine ⟨_, rfl, ?_⟩; conv => whnf)))
    exact ⟨_, _, WeakV.drop rfl, h _ (decide_eq_decide.2 (by omega))⟩
  · (conv => whnf)
    (repeat (first | (exact Out.same; conv => whnf) | (exact Out1.same; conv => whnf) | (refine QAnd.mk ?_ ?_; conv => whnf) | (apply QStepH.go; conv => whnf) | (refine Both.lit_true ?_; conv => whnf) | (refine Both.lit_false ?_; conv => whnf) | (apply QStep.go; conv => whnf) | (refine Need.au ?_; conv => whnf) | (refine ⟨_, rfl, ?_⟩; conv => whnf)))
    exact ⟨_, _, WeakV.drop rfl, h _ (decide_eq_false (by omega)).symm⟩
theorem rright5_k : Contract Tryz.prog [] 30 hrightS := ⟨⟨⟨_, rfl, rfl, rfl⟩⟩, rright5_c⟩
def hputS : Spec := fun args H Q => match args, H with
  | [.int .i64 z, .agg [.int .u64 g, .int .i64 sg]], [] => Need (0 ≤ g ∧ g < 18446744073709551616) (∀ s e, (s, e) = hRes z g sg → Q (.tuple [.str s, .int .i64 e]) [])
  | _, _ => False
theorem hput_c : Meets Tryz.prog [] 40 hputS := by
  refine meets_of Γok Tryz.func40 rfl ?_
  intro args H Q h
  unfold hputS at h
  split at h
  case h_2 => exact h.elim
  rename_i z g sg
  obtain ⟨hg, h⟩ := h
  have bad : ¬ (64 ≤ z ∧ z ≤ 512 ∧ g ≠ 0 ∧ 0 ≤ sg ∧ sg ≤ 1) → Q (.tuple [.str [], .int .i64 1]) [] := fun h0 => h [] 1 (by rw [hRes, hOk, decide_eq_false h0]; rfl)
  (refine sx_sound Γok _ ?_; conv => whnf)
  (repeat (first | (exact Out.same; conv => whnf) | (exact Out1.same; conv => whnf) | (refine QAnd.mk ?_ ?_; conv => whnf) | (apply QStepH.go; conv => whnf) | (refine Both.lit_true ?_; conv => whnf) | (refine Both.lit_false ?_; conv => whnf) | (apply QStep.go; conv => whnf) | (refine Need.au ?_; conv => whnf) | (refine ⟨_, rfl, ?_⟩; conv => whnf)))
  refine CallVC.auto hright_k ?_
  intro b hb
  cases b
  · have h0 := of_decide_eq_false hb.symm
    (conv => whnf)
    (repeat (first | (exact Out.same; conv => whnf) | (exact Out1.same; conv => whnf) | (refine QAnd.mk ?_ ?_; conv => whnf) | (apply QStepH.go; conv => whnf) | (refine Both.lit_true ?_; conv => whnf) | (refine Both.lit_false ?_; conv => whnf) | (apply QStep.go; conv => whnf) | (refine Need.au ?_; conv => whnf) | (refine ⟨_, rfl, ?_⟩; conv => whnf) | (refine Both.of_false ?_ ?_; (focus (first | rfl | (simp <;> fail))); conv => whnf) | (refine Both.of_true ?_ ?_; (focus (first | rfl | (simp <;> fail))); conv => whnf)))
    exact ⟨_, _, WeakV.drop rfl, bad (fun h1 => h0 ⟨h1.1, h1.2.1⟩)⟩
  have h0 := of_decide_eq_true hb.symm
  (conv => whnf)
  (repeat (first | (exact Out.same; conv => whnf) | (exact Out1.same; conv => whnf) | (refine QAnd.mk ?_ ?_; conv => whnf) | (apply QStepH.go; conv => whnf) | (refine Both.lit_true ?_; conv => whnf) | (refine Both.lit_false ?_; conv => whnf) | (apply QStep.go; conv => whnf) | (refine Need.au ?_; conv => whnf) | (refine ⟨_, rfl, ?_⟩; conv => whnf) | (refine Both.of_false ?_ ?_; (focus (first | rfl | (simp <;> fail))); conv => whnf) | (refine Both.of_true ?_ ?_; (focus (first | rfl | (simp <;> fail))); conv => whnf)))
  refine Both.dec (fun h1 => ?_) (fun h1 => ?_)
  · (conv => whnf)
    (repeat (first | (exact Out.same; conv => whnf) | (exact Out1.same; conv => whnf) | (refine QAnd.mk ?_ ?_; conv => whnf) | (apply QStepH.go; conv => whnf) | (refine Both.lit_true ?_; conv => whnf) | (refine Both.lit_false ?_; conv => whnf) | (apply QStep.go; conv => whnf) | (refine Need.au ?_; conv => whnf) | (refine ⟨_, rfl, ?_⟩; conv => whnf) | (refine Both.of_false ?_ ?_; (focus (first | rfl | (simp <;> fail))); conv => whnf) | (refine Both.of_true ?_ ?_; (focus (first | rfl | (simp <;> fail))); conv => whnf)))
    exact ⟨_, _, WeakV.drop rfl, bad (fun h2 => h2.2.2.1 h1)⟩
  (conv => whnf)
  (repeat (first | (exact Out.same; conv => whnf) | (exact Out1.same; conv => whnf) | (refine QAnd.mk ?_ ?_; conv => whnf) | (apply QStepH.go; conv => whnf) | (refine Both.lit_true ?_; conv => whnf) | (refine Both.lit_false ?_; conv => whnf) | (apply QStep.go; conv => whnf) | (refine Need.au ?_; conv => whnf) | (refine ⟨_, rfl, ?_⟩; conv => whnf)))
  refine Both.dec (fun h2 => ?_) (fun h2 => ?_)
  · (conv => whnf)
    (repeat (first | (exact Out.same; conv => whnf) | (exact Out1.same; conv => whnf) | (refine QAnd.mk ?_ ?_; conv => whnf) | (apply QStepH.go; conv => whnf) | (refine Both.lit_true ?_; conv => whnf) | (refine Both.lit_false ?_; conv => whnf) | (apply QStep.go; conv => whnf) | (refine Need.au ?_; conv => whnf) | (refine ⟨_, rfl, ?_⟩; conv => whnf) | (refine Both.of_false ?_ ?_; (focus (first | rfl | (simp <;> fail))); conv => whnf) | (refine Both.of_true ?_ ?_; (focus (first | rfl | (simp <;> fail))); conv => whnf)))
    exact ⟨_, _, WeakV.drop rfl, bad (by omega)⟩
  (conv => whnf)
  (repeat (first | (exact Out.same; conv => whnf) | (exact Out1.same; conv => whnf) | (refine QAnd.mk ?_ ?_; conv => whnf) | (apply QStepH.go; conv => whnf) | (refine Both.lit_true ?_; conv => whnf) | (refine Both.lit_false ?_; conv => whnf) | (apply QStep.go; conv => whnf) | (refine Need.au ?_; conv => whnf) | (refine ⟨_, rfl, ?_⟩; conv => whnf)))
  refine Both.dec (fun h3 => ?_) (fun h3 => ?_)
  · (conv => whnf)
    (repeat (first | (exact Out.same; conv => whnf) | (exact Out1.same; conv => whnf) | (refine QAnd.mk ?_ ?_; conv => whnf) | (apply QStepH.go; conv => whnf) | (refine Both.lit_true ?_; conv => whnf) | (refine Both.lit_false ?_; conv => whnf) | (apply QStep.go; conv => whnf) | (refine Need.au ?_; conv => whnf) | (refine ⟨_, rfl, ?_⟩; conv => whnf) | (refine Both.of_false ?_ ?_; (focus (first | rfl | (simp <;> fail))); conv => whnf) | (refine Both.of_true ?_ ?_; (focus (first | rfl | (simp <;> fail))); conv => whnf)))
    exact ⟨_, _, WeakV.drop rfl, bad (by omega)⟩
  obtain ⟨zn, rfl⟩ := Int.eq_ofNat_of_zero_le (show 0 ≤ z by omega)
  have hok : hOk (zn : Int) g sg = true := decide_eq_true ⟨h0.1, h0.2, h1, by omega, by omega⟩
  have good := h (hPut zn g sg) 0 (by rw [hRes, if_pos hok]; rfl)
  have hsub : IntKind.i64.wrap ((zn : Int) - 14) = ((zn - 14 : Nat) : Int) := by rw [wrap_i64 (by omega) (by omega)]; omega
  have hlen := hRaw_len (z := zn) (by omega) g sg
  have hzr : 0 ≤ ((zn - 14 : Nat) : Int) ∧ ((zn - 14 : Nat) : Int) ≤ 140737488355328 := by omega
  (conv => whnf)
  (repeat (first | (exact Out.same; conv => whnf) | (exact Out1.same; conv => whnf) | (refine QAnd.mk ?_ ?_; conv => whnf) | (apply QStepH.go; conv => whnf) | (refine Both.lit_true ?_; conv => whnf) | (refine Both.lit_false ?_; conv => whnf) | (apply QStep.go; conv => whnf) | (refine Need.au ?_; conv => whnf) | (refine ⟨_, rfl, ?_⟩; conv => whnf)))
  refine CallVC.autoW _ (Weak.wr 1 5 rfl) rawOk_k (Need.mk (by show 1 < 10000000; omega) ⟨[], rfl, rfl, by show 0 < 20000000; omega, ?_⟩)
  (conv => whnf)
  (repeat (first | (exact Out.same; conv => whnf) | (exact Out1.same; conv => whnf) | (refine QAnd.mk ?_ ?_; conv => whnf) | (apply QStepH.go; conv => whnf) | (refine Both.lit_true ?_; conv => whnf) | (refine Both.lit_false ?_; conv => whnf) | (apply QStep.go; conv => whnf) | (refine Need.au ?_; conv => whnf) | (refine ⟨_, rfl, ?_⟩; conv => whnf)))
  refine CallVC.auto numOk_k (Need.mk hg ⟨_, rfl, rfl, by simp, ?_⟩)
  (conv => whnf)
  (repeat (first | (exact Out.same; conv => whnf) | (exact Out1.same; conv => whnf) | (refine QAnd.mk ?_ ?_; conv => whnf) | (apply QStepH.go; conv => whnf) | (refine Both.lit_true ?_; conv => whnf) | (refine Both.lit_false ?_; conv => whnf) | (apply QStep.go; conv => whnf) | (refine Need.au ?_; conv => whnf) | (refine ⟨_, rfl, ?_⟩; conv => whnf)))
  refine CallVC.auto byteOk_k (Need.mk ⟨by omega, by omega⟩ ⟨_, rfl, rfl, by simp [beb_length], ?_⟩)
  (conv => whnf)
  (repeat (first | (exact Out.same; conv => whnf) | (exact Out1.same; conv => whnf) | (refine QAnd.mk ?_ ?_; conv => whnf) | (apply QStepH.go; conv => whnf) | (refine Both.lit_true ?_; conv => whnf) | (refine Both.lit_false ?_; conv => whnf) | (apply QStep.go; conv => whnf) | (refine Need.au ?_; conv => whnf) | (refine ⟨_, rfl, ?_⟩; conv => whnf)))
  have hzr2 : 0 ≤ IntKind.i64.wrap ((zn : Int) - 14) ∧ IntKind.i64.wrap ((zn : Int) - 14) ≤ 140737488355328 := by rw [hsub]; exact hzr
  refine CallVC.auto zero_k (Need.mk hzr2 ?_)
  rw [hsub]
  (conv => whnf)
  (repeat (first | (exact Out.same; conv => whnf) | (exact Out1.same; conv => whnf) | (refine QAnd.mk ?_ ?_; conv => whnf) | (apply QStepH.go; conv => whnf) | (refine Both.lit_true ?_; conv => whnf) | (refine Both.lit_false ?_; conv => whnf) | (apply QStep.go; conv => whnf) | (refine Need.au ?_; conv => whnf) | (refine ⟨_, rfl, ?_⟩; conv => whnf)))
  refine CallVC.auto rawOk_k (Need.mk (by show (List.replicate (zn - 14) (0 : UInt8)).length < 10000000; rw [List.length_replicate]; omega) ⟨_, rfl, rfl, by simp [beb_length], ?_⟩)
  (conv => whnf)
  (repeat (first | (exact Out.same; conv => whnf) | (exact Out1.same; conv => whnf) | (refine QAnd.mk ?_ ?_; conv => whnf) | (apply QStepH.go; conv => whnf) | (refine Both.lit_true ?_; conv => whnf) | (refine Both.lit_false ?_; conv => whnf) | (apply QStep.go; conv => whnf) | (refine Need.au ?_; conv => whnf) | (refine ⟨_, rfl, ?_⟩; conv => whnf)))
  have hraw : [] ++ (⟨#[72]⟩ : ByteArray).data.toList ++ beb g.toNat 8 ++ [UInt8.ofNat sg.toNat] ++ List.replicate ((zn - 14 : Nat) : Int).toNat 0 = hRaw zn g sg := rfl
  rw [hraw]
  refine CallVC.auto h6bytesA_k ⟨_, rfl, rfl, by omega, ?_⟩
  intro s hs
  obtain rfl : s = hRaw zn g sg := hs
  (conv => whnf)
  (repeat (first | (exact Out.same; conv => whnf) | (exact Out1.same; conv => whnf) | (refine QAnd.mk ?_ ?_; conv => whnf) | (apply QStepH.go; conv => whnf) | (refine Both.lit_true ?_; conv => whnf) | (refine Both.lit_false ?_; conv => whnf) | (apply QStep.go; conv => whnf) | (refine Need.au ?_; conv => whnf) | (refine ⟨_, rfl, ?_⟩; conv => whnf)))
  refine CallVC.auto seal_k ⟨by omega, ?_⟩
  (conv => whnf)
  (repeat (first | (exact Out.same; conv => whnf) | (exact Out1.same; conv => whnf) | (refine QAnd.mk ?_ ?_; conv => whnf) | (apply QStepH.go; conv => whnf) | (refine Both.lit_true ?_; conv => whnf) | (refine Both.lit_false ?_; conv => whnf) | (apply QStep.go; conv => whnf) | (refine Need.au ?_; conv => whnf) | (refine ⟨_, rfl, ?_⟩; conv => whnf)))
  exact ⟨_, _, WeakV.drop rfl, good⟩
theorem hput_k : Contract Tryz.prog [] 40 hputS := ⟨⟨⟨_, rfl, rfl, rfl⟩⟩, hput_c⟩
end Go.LX
end
section
set_option maxRecDepth 100000
set_option maxHeartbeats 2000000
set_option autoImplicit false
set_option linter.unusedVariables false
set_option linter.unusedSimpArgs false
namespace Go.LX
open Go.Proofs

theorem dIn_mk {D : Dsk} {k : Dsk → Prop} (h : D.Ok) (hk : k D) : dIn (dB D) k := ⟨D, rfl, rfl, rfl, rfl, rfl, rfl, rfl, h, hk⟩
def segV (D : Dsk) : Nat := (D.sc - 2) / 2
theorem segV_eq {D : Dsk} (ho : D.Ok) (h2 : 2 ≤ D.sc) : IntKind.i64.wrap ((IntKind.i64.wrap (((D.sc : Nat) : Int) - 2)).tdiv 2) = ((segV D : Nat) : Int) := by
  have hs := ho.sc
  have e1 : IntKind.i64.wrap (((D.sc : Nat) : Int) - 2) = ((D.sc - 2 : Nat) : Int) := by rw [wrap_i64 (by omega) (by omega)]; omega
  have e2 : (((D.sc - 2 : Nat) : Int)).tdiv 2 = ((segV D : Nat) : Int) := by
    rw [Int.tdiv_eq_ediv_of_nonneg (by omega)]
    unfold segV
    omega
  have hv : segV D ≤ 2047 := by unfold segV; omega
  rw [e1, e2, wrap_i64 (by omega) (by omega)]
def segS : Spec := fun args H Q => match args with
  | [.agg [.ptr 0 0]] => dIn H fun D => 2 ≤ D.sc ∧ Q (.int .i64 ((segV D : Nat) : Int)) (dB D)
  | _ => False
theorem seg_c : Meets Tryz.prog [] 35 segS := by
  refine meets_of Γok Tryz.func35 rfl ?_
  intro args H Q h
  unfold segS at h
  split at h
  case h_2 => exact h.elim
  obtain ⟨D, rfl, ho, h2, h⟩ := dIn_out h
  have hv := segV_eq ho h2
  rw [← hv] at h
  (refine sx_sound Γok _ ?_; conv => whnf)
  (repeat (first | (exact Out.same; conv => whnf) | (exact Out1.same; conv => whnf) | (refine QAnd.mk ?_ ?_; conv => whnf) | (apply QStepH.go; conv => whnf) | (refine Both.lit_true ?_; conv => whnf) | (refine Both.lit_false ?_; conv => whnf) | (apply QStep.go; conv => whnf) | (refine Need.au ?_; conv => whnf) | (refine ⟨_, rfl, ?_⟩; conv => whnf) | (refine CallVC.auto sectors_k ?_; conv => whnf)))
  refine ⟨_, _, WeakV.auto ?_, h⟩
  (repeat' ((conv => whnf); first | exact True.intro | (refine And.intro ?_ ?_)))
  all_goals first | rfl | exact .eq rfl
theorem seg_k : Contract Tryz.prog [] 35 segS := ⟨⟨⟨_, rfl, rfl, rfl⟩⟩, seg_c⟩
def baseV (D : Dsk) (sg : Int) : Int := if sg = 1 then 2 + ((segV D : Nat) : Int) else 2
def baseS : Spec := fun args H Q => match args with
  | [.agg [.ptr 0 0], .int .i64 sg] => dIn H fun D => 2 ≤ D.sc ∧ 0 ≤ sg ∧ sg ≤ 1 ∧ Q (.int .i64 (baseV D sg)) (dB D)
  | _ => False
theorem base_eq {D : Dsk} (ho : D.Ok) {sg : Int} (h0 : 0 ≤ sg) (h1 : sg ≤ 1) : IntKind.i64.wrap (2 + IntKind.i64.wrap (sg * ((segV D : Nat) : Int))) = baseV D sg := by
  have hs := ho.sc
  have hv : segV D ≤ 2047 := by unfold segV; omega
  unfold baseV
  rcases (show sg = 0 ∨ sg = 1 by omega) with rfl | rfl
  · rw [if_neg (by decide), Int.zero_mul]
    rfl
  · have e1 : IntKind.i64.wrap ((segV D : Nat) : Int) = ((segV D : Nat) : Int) := wrap_i64 (by omega) (by omega)
    rw [if_pos rfl, Int.one_mul, e1, wrap_i64 (by omega) (by omega)]
theorem base_c : Meets Tryz.prog [] 39 baseS := by
  refine meets_of Γok Tryz.func39 rfl ?_
  intro args H Q h
  unfold baseS at h
  split at h
  case h_2 => exact h.elim
  rename_i sg
  obtain ⟨D, rfl, ho, h2, h3, h4, h⟩ := dIn_out h
  have hv := base_eq ho h3 h4
  rw [← hv] at h
  (refine sx_sound Γok _ ?_; conv => whnf)
  (repeat (first | (refine CallVC.auto seg_k (dIn_mk ho ⟨h2, ?_⟩); conv => whnf) | (exact Out.same; conv => whnf) | (exact Out1.same; conv => whnf) | (refine QAnd.mk ?_ ?_; conv => whnf) | (apply QStepH.go; conv => whnf) | (refine Both.lit_true ?_; conv => whnf) | (refine Both.lit_false ?_; conv => whnf) | (apply QStep.go; conv => whnf) | (refine Need.au ?_; conv => whnf) | (refine ⟨_, rfl, ?_⟩; conv => whnf)))
  refine ⟨_, _, WeakV.auto ?_, h⟩
  (repeat' ((conv => whnf); first | exact True.intro | (refine And.intro ?_ ?_)))
  all_goals first | rfl | exact .eq rfl
theorem base_k : Contract Tryz.prog [] 39 baseS := ⟨⟨⟨_, rfl, rfl, rfl⟩⟩, base_c⟩
def putV : Dsk → Int → List Bs → Int × Dsk
  | D, _, [] => D.fl
  | D, n, t :: l => if (D.wr n t).1 = 0 then putV (D.wr n t).2 (n + 1) l else D.wr n t
theorem wr_buf (D : Dsk) (n : Int) (s : Bs) : (D.wr n s).2.buf.length ≤ D.buf.length + 1 := by
  unfold Dsk.wr
  split
  · split
    · exact Nat.le_succ _
    · show (D.buf ++ [(n, s)]).length ≤ _
      rw [List.length_append]
      exact Nat.le_refl _
  · exact Nat.le_succ _
theorem strW_at (l : List Bs) {k : Nat} (hk : k < l.length) : (l.map CV.str)[((k : Nat) : Int).toNat]? = some (.str (l.getD k [])) := by
  show (l.map CV.str)[k]? = _
  rw [List.getElem?_map, List.getElem?_eq_getElem hk, List.getD_eq_getElem?_getD, List.getElem?_eq_getElem hk]
  rfl
theorem drop_cons {l : List Bs} {k : Nat} (hk : k < l.length) : l.drop k = l.getD k [] :: l.drop (k + 1) := by
  rw [List.drop_eq_getElem_cons hk, List.getD_eq_getElem?_getD, List.getElem?_eq_getElem hk]
  rfl
def dS (D : Dsk) : List LObj := [.cells [.int .i64 (D.sz : Int), .int .i64 (D.sc : Int), .own 1, .own 4, .int .i64 (D.ar : Int)] 79, .own 9 1 D.st.length (D.st.map CV.str) true, .gone, .cells [.ptr 0 0] 71, .own 91 2 D.buf.length (D.buf.flatMap wrEn) true]
def w7putS : Spec := fun args H Q => match args with
  | [.agg [.ptr 0 0], .int .i64 n, .sl 1 m cs f] => dIn H fun D => ∃ l : List Bs, m = l.length ∧ cs = l.map CV.str ∧ 0 ≤ n ∧ n ≤ 1000000 ∧ l.length ≤ 1000000 ∧ D.buf.length + l.length < 1000000 ∧ ∀ e D', (e, D') = putV D n l → Q (.int .i64 e) (dA D')
  | _ => False
theorem w7put_c : Meets Tryz.prog [] 38 w7putS := by
  refine meets_of Γok Tryz.func38 rfl ?_
  intro args H Q h
  unfold w7putS at h
  split at h
  case h_2 => exact h.elim
  rename_i n m cs f
  obtain ⟨D0, rfl, ho0, l, rfl, rfl, hn0, hn1, hl, hb0, h⟩ := dIn_out h
  (refine sx_sound Γok _ ?_; conv => whnf)
  (repeat (first | (exact Out.same; conv => whnf) | (exact Out1.same; conv => whnf) | (refine QAnd.mk ?_ ?_; conv => whnf) | (apply QStepH.go; conv => whnf) | (refine Both.lit_true ?_; conv => whnf) | (refine Both.lit_false ?_; conv => whnf) | (apply QStep.go; conv => whnf) | (refine Need.au ?_; conv => whnf) | (refine ⟨_, rfl, ?_⟩; conv => whnf)))
  refine loop_rule (fun x : Nat × Dsk => match x with | (k, D) => ⟨[.any, .int .i64 n, .any, .ptr 3 0, .any, .any, .any, .any, .any, .any, .sl 1 l.length (l.map CV.str) f, .int .i64 (l.length : Int), .int .i64 (k : Int), .any, .any, .any, .any, .any, .any, .any, .any, .any, .any, .any, .any, .any, .any, .any, .any, .any, .any], dS D⟩) (fun x => match x with | (k, D) => k ≤ l.length ∧ D.Ok ∧ D.buf.length ≤ D0.buf.length + k ∧ putV D0 n l = putV D (n + k) (l.drop k)) (fun x => match x with | (k, D) => l.length - k) (0, D0) ⟨Nat.zero_le _, ho0, Nat.le_refl _, by rw [List.drop_zero]; simp⟩ ((Weak.fresh 2 0 3 rfl rfl rfl).trans (Weak.auto ?_)) ?_
  · (repeat' ((conv => whnf); first | exact True.intro | (refine And.intro ?_ ?_)))
    all_goals first | rfl | exact .eq rfl
  rintro ⟨k, D⟩ ⟨hk, ho, hb, hp⟩
  (refine sx_sound Γok _ ?_; conv => whnf)
  refine Both.dec (fun hlt => ?_) (fun hge => ?_)
  · have hkl : k < l.length := by omega
    have hat := strW_at l hkl
    have hdc := drop_cons hkl
    have hwn : IntKind.i64.wrap (n + (k : Int)) = n + (k : Int) := wrap_i64 (by omega) (by omega)
    have hwr : IntKind.i64.wrap ((k : Int) + 1) = ((k + 1 : Nat) : Int) := by rw [wrap_i64 (by omega) (by omega)]; rfl
    generalize l.getD k [] = t at hat hdc
    rw [hdc, putV] at hp
    have hwo := ho.wr (n := n + (k : Int)) (s := t) (by omega)
    have hwb := wr_buf D (n + (k : Int)) t
    (conv => whnf)
    (repeat (first | (refine ⟨_, hat, ?_⟩; conv => whnf) | (exact Out.same; conv => whnf) | (exact Out1.same; conv => whnf) | (refine QAnd.mk ?_ ?_; conv => whnf) | (apply QStepH.go; conv => whnf) | (refine Both.lit_true ?_; conv => whnf) | (refine Both.lit_false ?_; conv => whnf) | (apply QStep.go; conv => whnf) | (refine Need.au ?_; conv => whnf) | (refine ⟨_, rfl, ?_⟩; conv => whnf)))
    refine CallVC.auto write_k (dIn_mk ho ⟨by omega, fun e D' he => ?_⟩)
    rw [hwn] at he
    rw [← he] at hwo hwb hp
    (conv => whnf)
    (repeat (first | (exact Out.same; conv => whnf) | (exact Out1.same; conv => whnf) | (refine QAnd.mk ?_ ?_; conv => whnf) | (apply QStepH.go; conv => whnf) | (refine Both.lit_true ?_; conv => whnf) | (refine Both.lit_false ?_; conv => whnf) | (apply QStep.go; conv => whnf) | (refine Need.au ?_; conv => whnf) | (refine ⟨_, rfl, ?_⟩; conv => whnf)))
    refine Both.dec_not (fun hne => ?_) (fun heq => ?_)
    · rw [if_neg hne] at hp
      (conv => whnf)
      (repeat (first | (exact Out.same; conv => whnf) | (exact Out1.same; conv => whnf) | (refine QAnd.mk ?_ ?_; conv => whnf) | (apply QStepH.go; conv => whnf) | (refine Both.lit_true ?_; conv => whnf) | (refine Both.lit_false ?_; conv => whnf) | (apply QStep.go; conv => whnf) | (refine Need.au ?_; conv => whnf) | (refine ⟨_, rfl, ?_⟩; conv => whnf)))
      refine ⟨_, _, WeakV.auto ?_, h e D' hp.symm⟩
      (repeat' ((conv => whnf); first | exact True.intro | (refine And.intro ?_ ?_)))
      all_goals first | rfl | exact .eq rfl
    · rw [if_pos heq] at hp
      (conv => whnf)
      (repeat (first | (exact Out.same; conv => whnf) | (exact Out1.same; conv => whnf) | (refine QAnd.mk ?_ ?_; conv => whnf) | (apply QStepH.go; conv => whnf) | (refine Both.lit_true ?_; conv => whnf) | (refine Both.lit_false ?_; conv => whnf) | (apply QStep.go; conv => whnf) | (refine Need.au ?_; conv => whnf) | (refine ⟨_, rfl, ?_⟩; conv => whnf)))
      refine ⟨(k + 1, D'), ⟨hkl, hwo, by show D'.buf.length ≤ D0.buf.length + (k + 1); have : D'.buf.length ≤ D.buf.length + 1 := hwb; omega, by rw [hp]; congr 1; omega⟩, by show l.length - (k + 1) < l.length - k; omega, Weak.auto ?_⟩
      (repeat' ((conv => whnf); first | exact True.intro | (refine And.intro ?_ ?_)))
      all_goals first | rfl | exact .eq rfl | exact congrArg (SV.int .i64) hwr
  · have hke : k = l.length := by omega
    subst hke
    rw [List.drop_length, putV] at hp
    (conv => whnf)
    (repeat (first | (exact Out.same; conv => whnf) | (exact Out1.same; conv => whnf) | (refine QAnd.mk ?_ ?_; conv => whnf) | (apply QStepH.go; conv => whnf) | (refine Both.lit_true ?_; conv => whnf) | (refine Both.lit_false ?_; conv => whnf) | (apply QStep.go; conv => whnf) | (refine Need.au ?_; conv => whnf) | (refine ⟨_, rfl, ?_⟩; conv => whnf)))
    refine CallVC.auto flush_k (dIn_mk ho fun e D' he => ?_)
    (conv => whnf)
    (repeat (first | (exact Out.same; conv => whnf) | (exact Out1.same; conv => whnf) | (refine QAnd.mk ?_ ?_; conv => whnf) | (apply QStepH.go; conv => whnf) | (refine Both.lit_true ?_; conv => whnf) | (refine Both.lit_false ?_; conv => whnf) | (apply QStep.go; conv => whnf) | (refine Need.au ?_; conv => whnf) | (refine ⟨_, rfl, ?_⟩; conv => whnf)))
    refine ⟨_, _, WeakV.auto ?_, h e D' (by rw [hp]; exact he)⟩
    (repeat' ((conv => whnf); first | exact True.intro | (refine And.intro ?_ ?_)))
    all_goals first | rfl | exact .eq rfl
theorem w7put_k : Contract Tryz.prog [] 38 w7putS := ⟨⟨⟨_, rfl, rfl, rfl⟩⟩, w7put_c⟩
end Go.LX
end
section
set_option maxRecDepth 100000
set_option maxHeartbeats 1000000
set_option autoImplicit false
set_option linter.unusedVariables false
set_option linter.unusedSimpArgs false
namespace Go.LX
open Go.Proofs

theorem Weak.wr0 {G : Gl} {N : Nat} {s : LS} (i e : Nat) {et : TypeId} (hi : s.h[i]? = some (.cells [.nil, .nilsl] et)) :
    Weak G N s ⟨s.t, (s.h ++ [LObj.own e 1 0 [] true]).set i (.cells [.opt i 0, .own s.h.length] et)⟩ := by
  have hlt : i < (s.h ++ [LObj.own e 1 0 [] true]).length := by
    have := lt_of_get hi
    rw [List.length_append]
    omega
  have h1 := Weak.ownNil (G := G) (N := N) i 1 e 1 hi rfl
  have h2 := Weak.optNil (G := G) (N := N) (s := ⟨s.t, (s.h ++ [LObj.own e 1 0 [] true]).set i (.cells [.nil, .own s.h.length] et)⟩) i 0 i 0 (c := [.nil, .own s.h.length]) (et := et) (by
    show ((s.h ++ [LObj.own e 1 0 [] true]).set i _)[i]? = _
    rw [List.getElem?_set_self hlt]) rfl
  have h3 := h1.trans h2
  simp only [List.set_set] at h3
  exact h3
theorem conv_to0 : PtrConv Tryz.prog 110 174 112 2 0 := by
  obtain ⟨j, h1, h2⟩ := info_bld
  exact .to Tryz.underlying110 (by kernel_rfl) h1 h2 (by decide)
theorem conv_back0 : PtrConv Tryz.prog 174 110 112 2 0 := by
  obtain ⟨j, h1, h2⟩ := info_bld
  exact .back (by kernel_rfl) Tryz.underlying110 h1 (by kernel_rfl)
def copy0S : Spec := fun args H Q => match args, H with
  | [.ptr 0 0], [.cells [.opt 0 0, y] 112, o] => Q (.tuple []) [.cells [.ptr 0 0, y] 112, o]
  | _, _ => False
theorem copy0_c : Meets Tryz.prog [] 97 copy0S := by
  refine meets_of Γok Tryz.func97 rfl ?_
  intro args H Q h
  unfold copy0S at h
  split at h
  case h_2 => exact h.elim
  refine Wp.opt 0 0 0 0 rfl rfl ?_ ?_
  · (refine sx_sound Γok _ ?_; conv => whnf)
    refine ⟨_, rfl, ?_⟩
    (conv => whnf)
    (repeat (first | (refine Both.lit_true ?_; conv => whnf) | (refine Both.lit_false ?_; conv => whnf) | (refine Need.mk ?_ ?_; (focus (first | omega | exact ⟨by omega, by omega⟩ | rfl | exact ⟨rfl, rfl⟩ | exact ⟨rfl, Nat.le_of_ble_eq_true rfl⟩ | exact Nat.le_of_ble_eq_true rfl | (refine ⟨rfl, rfl, ?_⟩; simp [isFar, ofV0, CV.up, SV.renL, SV.ren] <;> fail) | (refine ⟨rfl, Nat.le_of_ble_eq_true rfl, ?_⟩; simp [isFar, ofV0, CV.up, SV.renL, SV.ren] <;> fail) | (simp <;> fail))); conv => whnf)))
    refine Need.mk conv_to0 ?_
    (conv => whnf)
    refine CallVC.same noesc ?_
    (conv => whnf)
    refine Need.mk conv_back0 ?_
    (conv => whnf)
    (repeat (first | (refine Both.lit_true ?_; conv => whnf) | (refine Both.lit_false ?_; conv => whnf) | (refine Need.mk ?_ ?_; (focus (first | omega | exact ⟨by omega, by omega⟩ | rfl | exact ⟨rfl, rfl⟩ | exact ⟨rfl, Nat.le_of_ble_eq_true rfl⟩ | exact Nat.le_of_ble_eq_true rfl | (refine ⟨rfl, rfl, ?_⟩; simp [isFar, ofV0, CV.up, SV.renL, SV.ren] <;> fail) | (refine ⟨rfl, Nat.le_of_ble_eq_true rfl, ?_⟩; simp [isFar, ofV0, CV.up, SV.renL, SV.ren] <;> fail) | (simp <;> fail))); conv => whnf)))
    exact ⟨_, _, WeakV.refl _ _ _ _, h⟩
  · (refine sx_sound Γok _ ?_; conv => whnf)
    refine ⟨_, rfl, ?_⟩
    (conv => whnf)
    (repeat (first | (refine Both.lit_true ?_; conv => whnf) | (refine Both.lit_false ?_; conv => whnf) | (refine Need.mk ?_ ?_; (focus (first | omega | exact ⟨by omega, by omega⟩ | rfl | exact ⟨rfl, rfl⟩ | exact ⟨rfl, Nat.le_of_ble_eq_true rfl⟩ | exact Nat.le_of_ble_eq_true rfl | (refine ⟨rfl, rfl, ?_⟩; simp [isFar, ofV0, CV.up, SV.renL, SV.ren] <;> fail) | (refine ⟨rfl, Nat.le_of_ble_eq_true rfl, ?_⟩; simp [isFar, ofV0, CV.up, SV.renL, SV.ren] <;> fail) | (simp <;> fail))); conv => whnf)))
    refine ⟨_, rfl, ?_⟩
    (conv => whnf)
    (repeat (first | (refine Both.lit_true ?_; conv => whnf) | (refine Both.lit_false ?_; conv => whnf) | (refine Need.mk ?_ ?_; (focus (first | omega | exact ⟨by omega, by omega⟩ | rfl | exact ⟨rfl, rfl⟩ | exact ⟨rfl, Nat.le_of_ble_eq_true rfl⟩ | exact Nat.le_of_ble_eq_true rfl | (refine ⟨rfl, rfl, ?_⟩; simp [isFar, ofV0, CV.up, SV.renL, SV.ren] <;> fail) | (refine ⟨rfl, Nat.le_of_ble_eq_true rfl, ?_⟩; simp [isFar, ofV0, CV.up, SV.renL, SV.ren] <;> fail) | (simp <;> fail))); conv => whnf)))
    exact ⟨_, _, WeakV.refl _ _ _ _, h⟩
theorem copy0_k : Contract Tryz.prog [] 97 copy0S := ⟨⟨⟨_, rfl, rfl, rfl⟩⟩, copy0_c⟩
def ws0S : Spec := fun args H Q => match args, H with
  | [.ptr 0 0, .str s], [.cells [.opt 0 0, .own 1] 112, .own 5 1 m xs true] => ∃ (l : List UInt8), xs = bys l ∧ m = l.length ∧ l.length < 1000000000 ∧ s.length < 1000000000 ∧ Q (.tuple [.int .i64 s.length, .any]) [.cells [.opt 0 0, .own 2] 112, .gone, .own 5 1 (l.length + s.length) (bys (l ++ s)) true]
  | _, _ => False
theorem ws0_c : Meets Tryz.prog [] 69 ws0S := by
  refine meets_of Γok Tryz.func69 rfl ?_
  intro args H Q h
  unfold ws0S at h
  split at h
  case h_2 => exact h.elim
  obtain ⟨l, rfl, rfl, hl, hs, h⟩ := h
  (refine sx_sound Γok _ ?_; conv => whnf)
  all_goals
    refine CallVC.auto copy0_k ?_
    (conv => whnf)
    (repeat (first | (refine Both.lit_true ?_; conv => whnf) | (refine Both.lit_false ?_; conv => whnf) | (refine Need.mk ?_ ?_; (focus (first | omega | exact ⟨by omega, by omega⟩ | rfl | exact ⟨rfl, rfl⟩ | exact ⟨rfl, Nat.le_of_ble_eq_true rfl⟩ | exact Nat.le_of_ble_eq_true rfl | (refine ⟨rfl, rfl, ?_⟩; simp [isFar, ofV0, CV.up, SV.renL, SV.ren] <;> fail) | (refine ⟨rfl, Nat.le_of_ble_eq_true rfl, ?_⟩; simp [isFar, ofV0, CV.up, SV.renL, SV.ren] <;> fail) | (simp <;> fail))); conv => whnf)))
    refine ⟨_, rfl, ?_⟩
    (conv => whnf)
    (repeat (first | (refine Both.lit_true ?_; conv => whnf) | (refine Both.lit_false ?_; conv => whnf) | (refine Need.mk ?_ ?_; (focus (first | omega | exact ⟨by omega, by omega⟩ | rfl | exact ⟨rfl, rfl⟩ | exact ⟨rfl, Nat.le_of_ble_eq_true rfl⟩ | exact Nat.le_of_ble_eq_true rfl | (refine ⟨rfl, rfl, ?_⟩; simp [isFar, ofV0, CV.up, SV.renL, SV.ren] <;> fail) | (refine ⟨rfl, Nat.le_of_ble_eq_true rfl, ?_⟩; simp [isFar, ofV0, CV.up, SV.renL, SV.ren] <;> fail) | (simp <;> fail))); conv => whnf)))
    refine Need.mk (by rw [show ti5.bytes = 1 from rfl]; omega) ?_
    (conv => whnf)
    (repeat (first | (refine Both.lit_true ?_; conv => whnf) | (refine Both.lit_false ?_; conv => whnf) | (refine Need.mk ?_ ?_; (focus (first | omega | exact ⟨by omega, by omega⟩ | rfl | exact ⟨rfl, rfl⟩ | exact ⟨rfl, Nat.le_of_ble_eq_true rfl⟩ | exact Nat.le_of_ble_eq_true rfl | (refine ⟨rfl, rfl, ?_⟩; simp [isFar, ofV0, CV.up, SV.renL, SV.ren] <;> fail) | (refine ⟨rfl, Nat.le_of_ble_eq_true rfl, ?_⟩; simp [isFar, ofV0, CV.up, SV.renL, SV.ren] <;> fail) | (simp <;> fail))); conv => whnf)))
    refine ⟨_, _, WeakV.to [0, 1, 2] rfl rfl rfl rfl ?_, h⟩
    (repeat' ((conv => whnf); first | exact True.intro | (refine And.intro ?_ ?_)))
    all_goals first | rfl | exact .eq rfl | exact .pt ⟨⟨rfl, rfl⟩, rfl, trivial⟩ | (rw [← bys_app]; rfl)
theorem ws0_k : Contract Tryz.prog [] 69 ws0S := ⟨⟨⟨_, rfl, rfl, rfl⟩⟩, ws0_c⟩
def str0S : Spec := fun args H Q => match args, H with
  | [.ptr 0 0], [.cells [.opt 0 0, .own 1] 112, .own 5 1 m xs true] => ∃ (l : List UInt8), xs = bys l ∧ m = l.length ∧ l.length < 1000000000000 ∧ Q (.str l) [.cells [.opt 0 0, .own 1] 112, .gone]
  | _, _ => False
theorem str0_c : Meets Tryz.prog [] 70 str0S := by
  refine meets_of Γok Tryz.func70 rfl ?_
  intro args H Q h
  unfold str0S at h
  split at h
  case h_2 => exact h.elim
  obtain ⟨l, rfl, rfl, hl, h⟩ := h
  cases l with
  | nil =>
    all_goals
      (refine sx_sound Γok _ ?_; conv => whnf)
      refine DrawVC.all Γok (by kernel_rfl) (by kernel_rfl) ?_
      (conv => whnf)
      (repeat (first | (exact Out.same; conv => whnf) | (exact Out1.same; conv => whnf) | (refine QAnd.mk ?_ ?_; conv => whnf) | (apply QStepH.go; conv => whnf) | (refine Both.lit_true ?_; conv => whnf) | (refine Both.lit_false ?_; conv => whnf) | (apply QStep.go; conv => whnf) | (refine Need.mk ?_ ?_; (focus (first | omega | exact ⟨by omega, by omega⟩ | rfl | exact ⟨rfl, rfl⟩ | exact ⟨rfl, Nat.le_of_ble_eq_true rfl⟩ | exact Nat.le_of_ble_eq_true rfl | (refine ⟨rfl, rfl, ?_⟩; simp [isFar, ofV0, CV.up, SV.renL, SV.ren] <;> fail) | (refine ⟨rfl, Nat.le_of_ble_eq_true rfl, ?_⟩; simp [isFar, ofV0, CV.up, SV.renL, SV.ren] <;> fail) | (simp <;> fail))); conv => whnf)))
      (refine ⟨_, rfl, ?_⟩; conv => whnf)
      (repeat (first | (exact Out.same; conv => whnf) | (exact Out1.same; conv => whnf) | (refine QAnd.mk ?_ ?_; conv => whnf) | (apply QStepH.go; conv => whnf) | (refine Both.lit_true ?_; conv => whnf) | (refine Both.lit_false ?_; conv => whnf) | (apply QStep.go; conv => whnf) | (refine Need.mk ?_ ?_; (focus (first | omega | exact ⟨by omega, by omega⟩ | rfl | exact ⟨rfl, rfl⟩ | exact ⟨rfl, Nat.le_of_ble_eq_true rfl⟩ | exact Nat.le_of_ble_eq_true rfl | (refine ⟨rfl, rfl, ?_⟩; simp [isFar, ofV0, CV.up, SV.renL, SV.ren] <;> fail) | (refine ⟨rfl, Nat.le_of_ble_eq_true rfl, ?_⟩; simp [isFar, ofV0, CV.up, SV.renL, SV.ren] <;> fail) | (simp <;> fail))); conv => whnf)))
      (refine ⟨_, rfl, ?_⟩; conv => whnf)
      (repeat (first | (exact Out.same; conv => whnf) | (exact Out1.same; conv => whnf) | (refine QAnd.mk ?_ ?_; conv => whnf) | (apply QStepH.go; conv => whnf) | (refine Both.lit_true ?_; conv => whnf) | (refine Both.lit_false ?_; conv => whnf) | (apply QStep.go; conv => whnf) | (refine Need.mk ?_ ?_; (focus (first | omega | exact ⟨by omega, by omega⟩ | rfl | exact ⟨rfl, rfl⟩ | exact ⟨rfl, Nat.le_of_ble_eq_true rfl⟩ | exact Nat.le_of_ble_eq_true rfl | (refine ⟨rfl, rfl, ?_⟩; simp [isFar, ofV0, CV.up, SV.renL, SV.ren] <;> fail) | (refine ⟨rfl, Nat.le_of_ble_eq_true rfl, ?_⟩; simp [isFar, ofV0, CV.up, SV.renL, SV.ren] <;> fail) | (simp <;> fail))); conv => whnf)))
      refine ⟨_, _, WeakV.to [0, 1] rfl rfl rfl rfl ?_, h⟩
      (repeat' ((conv => whnf); first | exact True.intro | (refine And.intro ?_ ?_)))
      all_goals first | rfl | exact .eq rfl | exact .pt ⟨⟨rfl, rfl⟩, rfl, trivial⟩
  | cons b l =>
    all_goals
      (refine sx_sound Γok _ ?_; conv => whnf)
      refine DrawVC.tail Γok 10 (by kernel_rfl) (by kernel_rfl) ?_
      (conv => whnf)
      (repeat (first | (refine Both.lit_true ?_; conv => whnf) | (refine Both.lit_false ?_; conv => whnf) | (refine Need.mk ?_ ?_; (focus (first | omega | exact ⟨by omega, by omega⟩ | rfl | exact ⟨rfl, rfl⟩ | exact ⟨rfl, Nat.le_of_ble_eq_true rfl⟩ | exact Nat.le_of_ble_eq_true rfl | (refine ⟨rfl, rfl, ?_⟩; simp [isFar, ofV0, CV.up, SV.renL, SV.ren] <;> fail) | (refine ⟨rfl, Nat.le_of_ble_eq_true rfl, ?_⟩; simp [isFar, ofV0, CV.up, SV.renL, SV.ren] <;> fail) | (simp <;> fail))); conv => whnf)))
      (refine ⟨_, rfl, ?_⟩; conv => whnf)
      (repeat (first | (refine Both.lit_true ?_; conv => whnf) | (refine Both.lit_false ?_; conv => whnf) | (refine Need.mk ?_ ?_; (focus (first | omega | exact ⟨by omega, by omega⟩ | rfl | exact ⟨rfl, rfl⟩ | exact ⟨rfl, Nat.le_of_ble_eq_true rfl⟩ | exact Nat.le_of_ble_eq_true rfl | (refine ⟨rfl, rfl, ?_⟩; simp [isFar, ofV0, CV.up, SV.renL, SV.ren] <;> fail) | (refine ⟨rfl, Nat.le_of_ble_eq_true rfl, ?_⟩; simp [isFar, ofV0, CV.up, SV.renL, SV.ren] <;> fail) | (simp <;> fail))); conv => whnf)))
      try (refine Need.mk (Nat.succ_pos _) ?_; conv => whnf)
      (refine ⟨_, rfl, ?_⟩; conv => whnf)
      (repeat (first | (refine Both.lit_true ?_; conv => whnf) | (refine Both.lit_false ?_; conv => whnf) | (refine Need.mk ?_ ?_; (focus (first | omega | exact ⟨by omega, by omega⟩ | rfl | exact ⟨rfl, rfl⟩ | exact ⟨rfl, Nat.le_of_ble_eq_true rfl⟩ | exact Nat.le_of_ble_eq_true rfl | (refine ⟨rfl, rfl, ?_⟩; simp [isFar, ofV0, CV.up, SV.renL, SV.ren] <;> fail) | (refine ⟨rfl, Nat.le_of_ble_eq_true rfl, ?_⟩; simp [isFar, ofV0, CV.up, SV.renL, SV.ren] <;> fail) | (simp <;> fail))); conv => whnf)))
      refine ⟨b :: l, rfl, ?_⟩
      refine Need.mk ⟨rfl, rfl, rfl, rfl, Nat.succ_pos _, by omega, by kernel_rfl⟩ ?_
      (conv => whnf)
      (repeat (first | (refine Both.lit_true ?_; conv => whnf) | (refine Both.lit_false ?_; conv => whnf) | (refine Need.mk ?_ ?_; (focus (first | omega | exact ⟨by omega, by omega⟩ | rfl | exact ⟨rfl, rfl⟩ | exact ⟨rfl, Nat.le_of_ble_eq_true rfl⟩ | exact Nat.le_of_ble_eq_true rfl | (refine ⟨rfl, rfl, ?_⟩; simp [isFar, ofV0, CV.up, SV.renL, SV.ren] <;> fail) | (refine ⟨rfl, Nat.le_of_ble_eq_true rfl, ?_⟩; simp [isFar, ofV0, CV.up, SV.renL, SV.ren] <;> fail) | (simp <;> fail))); conv => whnf)))
      refine ⟨_, _, WeakV.to [0, 1] rfl rfl rfl rfl ?_, h⟩
      (repeat' ((conv => whnf); first | exact True.intro | (refine And.intro ?_ ?_)))
      all_goals first | rfl | exact .eq rfl | exact .pt ⟨⟨rfl, rfl⟩, rfl, trivial⟩
theorem str0_k : Contract Tryz.prog [] 70 str0S := ⟨⟨⟨_, rfl, rfl, rfl⟩⟩, str0_c⟩
end Go.LX
end
section
set_option maxRecDepth 100000
set_option maxHeartbeats 2000000
set_option autoImplicit false
set_option linter.unusedVariables false
set_option linter.unusedSimpArgs false
namespace Go.LX
open Go.Proofs

def readV (D : Dsk) (n : Int) (m : Nat) : Bs := ((List.range m).map fun k => (D.rd (n + ((k : Nat) : Int))).1).flatten
theorem readV_succ (D : Dsk) (n : Int) (m : Nat) : readV D n (m + 1) = readV D n m ++ (D.rd (n + ((m : Nat) : Int))).1 := by
  unfold readV
  rw [List.range_succ, List.map_append, List.flatten_append]
  simp
theorem rdOf_len {z : Nat} : ∀ (buf : List (Int × Bs)) (s : Bs), s.length ≤ z → (∀ w ∈ buf, w.2.length = z) → ∀ n : Int, (buf.foldl (fun s w => if w.1 = n then w.2 else s) s).length ≤ z
  | [], s, h, _, n => h
  | w :: buf, s, h, hb, n => by
    rw [List.foldl_cons]
    refine rdOf_len buf _ ?_ (fun x hx => hb x (List.mem_cons_of_mem _ hx)) n
    split
    · exact Nat.le_of_eq (hb w List.mem_cons_self)
    · exact h
theorem rd_len {D : Dsk} (ho : D.Ok) (n : Int) : (D.rd n).1.length ≤ D.sz := by
  unfold Dsk.rd
  split
  · rename_i h
    unfold rdOf
    refine rdOf_len _ _ ?_ (fun w hw => (ho.buf w hw).2.2) n
    exact Nat.le_of_eq (ho.reg.at h.1 h.2)
  · exact Nat.zero_le _
theorem readV_len {D : Dsk} (ho : D.Ok) (n : Int) : ∀ m, (readV D n m).length ≤ m * 512
  | 0 => by
    show ([] : Bs).length ≤ _
    exact Nat.zero_le _
  | m + 1 => by
    have h1 := readV_len ho n m
    have h2 := rd_len ho (n + ((m : Nat) : Int))
    have h3 := ho.sz
    rw [readV_succ, List.length_append]
    omega
def readNS : Spec := fun args H Q => match args with
  | [.agg [.ptr 0 0], .int .i64 n, .int .i64 m] => dIn H fun D => ∃ mn : Nat, m = mn ∧ 0 ≤ n ∧ n ≤ 1000000 ∧ mn ≤ 10000 ∧ Q (.str (readV D n mn)) (dB D)
  | _ => False
theorem readN_c : Meets Tryz.prog [] 45 readNS := by
  refine meets_of Γok Tryz.func45 rfl ?_
  intro args H Q h
  unfold readNS at h
  split at h
  case h_2 => exact h.elim
  rename_i n m
  obtain ⟨D, rfl, ho, mn, rfl, hn0, hn1, hm, h⟩ := dIn_out h
  (refine sx_sound Γok _ ?_; conv => whnf)
  (repeat (first | (exact Out.same; conv => whnf) | (exact Out1.same; conv => whnf) | (refine QAnd.mk ?_ ?_; conv => whnf) | (apply QStepH.go; conv => whnf) | (refine Both.lit_true ?_; conv => whnf) | (refine Both.lit_false ?_; conv => whnf) | (apply QStep.go; conv => whnf) | (refine Need.au ?_; conv => whnf) | (refine ⟨_, rfl, ?_⟩; conv => whnf)))
  refine loop_rule (fun k : Nat => ⟨[.any, .int .i64 n, .any, .ptr 3 0, .any, .any, .any, .ptr 4 0, .any, .any, .any, .int .i64 (mn : Int), .int .i64 (k : Int), .any, .any, .any, .any, .any, .any, .any, .any, .any, .any, .any, .any, .any, .any, .any], dB D ++ [.cells [.ptr 0 0] 71, .cells [.opt 4 0, .own 5] 112, .own 5 1 (readV D n k).length (bys (readV D n k)) true]⟩) (fun k => k ≤ mn) (fun k => mn - k) 0 (Nat.zero_le _) ((Weak.wr0 4 5 rfl).trans (Weak.auto ?_)) ?_
  · (repeat' ((conv => whnf); first | exact True.intro | (refine And.intro ?_ ?_)))
    all_goals first | rfl | exact .eq rfl
  intro k hk
  have hlen := readV_len ho n k
  have hsz := ho.sz
  (refine sx_sound Γok _ ?_; conv => whnf)
  refine Both.dec (fun hlt => ?_) (fun hge => ?_)
  · have hwn : IntKind.i64.wrap (n + (k : Int)) = n + (k : Int) := wrap_i64 (by omega) (by omega)
    have hwr : IntKind.i64.wrap ((k : Int) + 1) = ((k + 1 : Nat) : Int) := by rw [wrap_i64 (by omega) (by omega)]; rfl
    have hrl := rd_len ho (n + (k : Int))
    have hsu := readV_succ D n k
    (conv => whnf)
    (repeat (first | (exact Out.same; conv => whnf) | (exact Out1.same; conv => whnf) | (refine QAnd.mk ?_ ?_; conv => whnf) | (apply QStepH.go; conv => whnf) | (refine Both.lit_true ?_; conv => whnf) | (refine Both.lit_false ?_; conv => whnf) | (apply QStep.go; conv => whnf) | (refine Need.au ?_; conv => whnf) | (refine ⟨_, rfl, ?_⟩; conv => whnf)))
    refine CallVC.auto read_k (dIn_mk ho fun t e he => ?_)
    rw [hwn] at he
    have ht : t = (D.rd (n + (k : Int))).1 := (Prod.mk.inj he).1 ▸ congrArg Prod.fst he
    have htl : t.length < 1000000000 := by rw [ht]; omega
    rw [← ht] at hsu
    (conv => whnf)
    (repeat (first | (exact Out.same; conv => whnf) | (exact Out1.same; conv => whnf) | (refine QAnd.mk ?_ ?_; conv => whnf) | (apply QStepH.go; conv => whnf) | (refine Both.lit_true ?_; conv => whnf) | (refine Both.lit_false ?_; conv => whnf) | (apply QStep.go; conv => whnf) | (refine Need.au ?_; conv => whnf) | (refine ⟨_, rfl, ?_⟩; conv => whnf)))
    refine CallVC.auto ws0_k ⟨readV D n k, rfl, rfl, by omega, htl, ?_⟩
    have hlx : (readV D n k).length + t.length = (readV D n (k + 1)).length := by rw [hsu, List.length_append]
    have hbx : readV D n k ++ t = readV D n (k + 1) := hsu.symm
    rw [hlx, hbx]
    (conv => whnf)
    (repeat (first | (exact Out.same; conv => whnf) | (exact Out1.same; conv => whnf) | (refine QAnd.mk ?_ ?_; conv => whnf) | (apply QStepH.go; conv => whnf) | (refine Both.lit_true ?_; conv => whnf) | (refine Both.lit_false ?_; conv => whnf) | (apply QStep.go; conv => whnf) | (refine Need.au ?_; conv => whnf) | (refine ⟨_, rfl, ?_⟩; conv => whnf)))
    refine ⟨k + 1, by omega, by omega, Weak.auto ?_⟩
    (repeat' ((conv => whnf); first | exact True.intro | (refine And.intro ?_ ?_)))
    all_goals first | rfl | exact .eq rfl | exact congrArg (SV.int .i64) hwr
  · have hke : k = mn := by omega
    subst hke
    (conv => whnf)
    (repeat (first | (exact Out.same; conv => whnf) | (exact Out1.same; conv => whnf) | (refine QAnd.mk ?_ ?_; conv => whnf) | (apply QStepH.go; conv => whnf) | (refine Both.lit_true ?_; conv => whnf) | (refine Both.lit_false ?_; conv => whnf) | (apply QStep.go; conv => whnf) | (refine Need.au ?_; conv => whnf) | (refine ⟨_, rfl, ?_⟩; conv => whnf)))
    refine CallVC.auto str0_k ⟨readV D n k, rfl, rfl, by omega, ?_⟩
    (conv => whnf)
    (repeat (first | (exact Out.same; conv => whnf) | (exact Out1.same; conv => whnf) | (refine QAnd.mk ?_ ?_; conv => whnf) | (apply QStepH.go; conv => whnf) | (refine Both.lit_true ?_; conv => whnf) | (refine Both.lit_false ?_; conv => whnf) | (apply QStep.go; conv => whnf) | (refine Need.au ?_; conv => whnf) | (refine ⟨_, rfl, ?_⟩; conv => whnf)))
    refine ⟨_, _, WeakV.auto ?_, h⟩
    (repeat' ((conv => whnf); first | exact True.intro | (refine And.intro ?_ ?_)))
    all_goals first | rfl | exact .eq rfl
theorem readN_k : Contract Tryz.prog [] 45 readNS := ⟨⟨⟨_, rfl, rfl, rfl⟩⟩, readN_c⟩
end Go.LX
end
section
set_option maxRecDepth 100000
set_option maxHeartbeats 1000000
set_option autoImplicit false
set_option linter.unusedVariables false
set_option linter.unusedSimpArgs false
namespace Go.LX
open Go.Proofs

abbrev Bz := List UInt8
def npar (r n : Nat) : Nat := max 1 ((n + r - 1) / r)
theorem npar_pos (r n : Nat) : 0 < npar r n := by unfold npar; omega
theorem npar_up {r n : Nat} (hr : 0 < r) : n ≤ npar r n * r := by
  unfold npar
  have h1 : (n + r - 1) / r * r + (n + r - 1) % r = n + r - 1 := by rw [Nat.mul_comm]; exact Nat.div_add_mod _ _
  have h2 := Nat.mod_lt (n + r - 1) hr
  have h3 : (n + r - 1) / r * r ≤ max 1 ((n + r - 1) / r) * r := Nat.mul_le_mul_right _ (by omega)
  omega
theorem npar_lo {r n k : Nat} (hr : 0 < r) (h : k + 1 < npar r n) : (k + 1) * r < n := by
  unfold npar at h
  have h0 : k + 1 + 1 ≤ (n + r - 1) / r := by omega
  have h1 := (Nat.le_div_iff_mul_le hr).1 h0
  rw [Nat.add_mul (k + 1) 1 r] at h1
  omega
theorem npar_last {r n k : Nat} (hr : 0 < r) (h : k < npar r n) : n - k * r ≤ r ↔ k + 1 = npar r n := by
  constructor
  · intro h1
    rcases Nat.lt_or_ge (k + 1) (npar r n) with h2 | h2
    · have h3 := npar_lo hr h2
      rw [Nat.add_mul] at h3
      omega
    · omega
  · intro h1
    have h2 := npar_up (n := n) hr
    rw [← h1, Nat.add_mul] at h2
    omega
theorem npar_le {r n m : Nat} (hr : 0 < r) (h : n ≤ m * r) (hm : 0 < m) : npar r n ≤ m := by
  unfold npar
  have : (n + r - 1) / r ≤ m := by
    have h1 : (n + r - 1) / r < m + 1 := (Nat.div_lt_iff_lt_mul hr).2 (by rw [Nat.add_mul]; omega)
    omega
  omega
def chunk (r : Nat) (s : Bz) (k : Nat) : Bz := (s.drop (k * r)).take r
theorem chunk_len (r : Nat) (s : Bz) (k : Nat) : (chunk r s k).length ≤ r := by
  unfold chunk
  rw [List.length_take]
  omega
def secX (size g sr k n : Nat) (b : Bz) : Bz := Crc.seal_ ([82] ++ beb g 8 ++ beb sr 8 ++ beb k 1 ++ beb n 1 ++ (beb b.length 2 ++ b) ++ List.replicate (size - 25 - b.length) 0)
def splitL (size g sr : Nat) (s : Bz) : List Bz := (List.range (npar (size - 25) s.length)).map fun k => secX size g sr k (npar (size - 25) s.length) (chunk (size - 25) s k)
def splitT (size g sr : Nat) (s : Bz) (m : Nat) : List Bz := (List.range m).map fun k => secX size g sr k (npar (size - 25) s.length) (chunk (size - 25) s k)
theorem splitT_one (size g sr : Nat) (s : Bz) (m : Nat) : splitT size g sr s (m + 1) = splitT size g sr s m ++ [secX size g sr m (npar (size - 25) s.length) (chunk (size - 25) s m)] := by
  simp [splitT, List.range_succ]
theorem splitT_len (size g sr : Nat) (s : Bz) (m : Nat) : (splitT size g sr s m).length = m := by simp [splitT]
theorem sec_len {size g sr k n : Nat} {b : Bz} (h : b.length + 25 ≤ size) : (secX size g sr k n b).length = size := by
  unfold secX Crc.seal_
  rw [List.length_append, Crc.le_length]
  simp only [List.length_append, beb_length, List.length_replicate, List.length_singleton]
  omega
end Go.LX
end
section
set_option maxRecDepth 100000
set_option maxHeartbeats 1000000
set_option autoImplicit false
set_option linter.unusedVariables false
set_option linter.unusedSimpArgs false
namespace Go.LX
open Go.Proofs

def rightN (n : Int) : Bool := decide (64 ≤ n ∧ n ≤ 512)
def frightS : Spec := fun args H Q => match args, H with
  | [.int .i64 n], [] => Q (.bool (rightN n)) []
  | _, _ => False
theorem fright_c : Meets Tryz.prog [] 56 frightS := by
  refine meets_of Γok Tryz.func56 rfl ?_
  intro args H Q h
  unfold frightS at h
  split at h
  case h_2 => exact h.elim
  rename_i n
  (refine sx_sound Γok _ ?_; conv => whnf)
  (repeat (first | (exact Out.same; conv => whnf) | (exact Out1.same; conv => whnf) | (refine QAnd.mk ?_ ?_; conv => whnf) | (apply QStepH.go; conv => whnf) | (refine Both.lit_true ?_; conv => whnf) | (refine Both.lit_false ?_; conv => whnf) | (apply QStep.go; conv => whnf) | (refine Need.au ?_; conv => whnf) | (refine ⟨_, rfl, ?_⟩; conv => whnf)))
  refine Both.dec (fun h1 => ?_) (fun h1 => ?_)
  · have e : decide (n ≤ 512) = rightN n := by unfold rightN; simp [h1]
    (conv => whnf)
    (repeat (first | (exact Out.same; conv => whnf) | (exact Out1.same; conv => whnf) | (refine QAnd.mk ?_ ?_; conv => whnf) | (apply QStepH.go; conv => whnf) | (refine Both.lit_true ?_; conv => whnf) | (refine Both.lit_false ?_; conv => whnf) | (apply QStep.go; conv => whnf) | (refine Need.au ?_; conv => whnf) | (refine ⟨_, rfl, ?_⟩; conv => whnf)))
    refine ⟨_, _, WeakV.drop rfl, ?_⟩
    rw [e]
    exact h
  · have e : false = rightN n := by unfold rightN; simp [h1]
    (conv => whnf)
    (repeat (first | (exact Out.same; conv => whnf) | (exact Out1.same; conv => whnf) | (refine QAnd.mk ?_ ?_; conv => whnf) | (apply QStepH.go; conv => whnf) | (refine Both.lit_true ?_; conv => whnf) | (refine Both.lit_false ?_; conv => whnf) | (apply QStep.go; conv => whnf) | (refine Need.au ?_; conv => whnf) | (refine ⟨_, rfl, ?_⟩; conv => whnf)))
    refine ⟨_, _, WeakV.drop rfl, ?_⟩
    rw [e]
    exact h
theorem fright_k : Contract Tryz.prog [] 56 frightS := ⟨⟨⟨_, rfl, rfl, rfl⟩⟩, fright_c⟩
theorem fright2_c : Meets Tryz.prog [] 30 frightS := by
  refine meets_of Γok Tryz.func30 rfl ?_
  intro args H Q h
  unfold frightS at h
  split at h
  case h_2 => exact h.elim
  rename_i n
  (refine sx_sound Γok _ ?_; conv => whnf)
  (repeat (first | (exact Out.same; conv => whnf) | (exact Out1.same; conv => whnf) | (refine QAnd.mk ?_ ?_; conv => whnf) | (apply QStepH.go; conv => whnf) | (refine Both.lit_true ?_; conv => whnf) | (refine Both.lit_false ?_; conv => whnf) | (apply QStep.go; conv => whnf) | (refine Need.au ?_; conv => whnf) | (refine ⟨_, rfl, ?_⟩; conv => whnf)))
  refine Both.dec (fun h1 => ?_) (fun h1 => ?_)
  · have e : decide (n ≤ 512) = rightN n := by unfold rightN; simp [h1]
    (conv => whnf)
    (repeat (first | (exact Out.same; conv => whnf) | (exact Out1.same; conv => whnf) | (refine QAnd.mk ?_ ?_; conv => whnf) | (apply QStepH.go; conv => whnf) | (refine Both.lit_true ?_; conv => whnf) | (refine Both.lit_false ?_; conv => whnf) | (apply QStep.go; conv => whnf) | (refine Need.au ?_; conv => whnf) | (refine ⟨_, rfl, ?_⟩; conv => whnf)))
    refine ⟨_, _, WeakV.drop rfl, ?_⟩
    rw [e]
    exact h
  · have e : false = rightN n := by unfold rightN; simp [h1]
    (conv => whnf)
    (repeat (first | (exact Out.same; conv => whnf) | (exact Out1.same; conv => whnf) | (refine QAnd.mk ?_ ?_; conv => whnf) | (apply QStepH.go; conv => whnf) | (refine Both.lit_true ?_; conv => whnf) | (refine Both.lit_false ?_; conv => whnf) | (apply QStep.go; conv => whnf) | (refine Need.au ?_; conv => whnf) | (refine ⟨_, rfl, ?_⟩; conv => whnf)))
    refine ⟨_, _, WeakV.drop rfl, ?_⟩
    rw [e]
    exact h
theorem fright2_k : Contract Tryz.prog [] 30 frightS := ⟨⟨⟨_, rfl, rfl, rfl⟩⟩, fright2_c⟩
def partsV (size n : Int) : Nat := if (64 ≤ size ∧ size ≤ 512) ∧ 0 ≤ n ∧ n ≤ 4096 then npar (size.toNat - 25) n.toNat else 0
def partsS : Spec := fun args H Q => match args, H with
  | [.int .i64 size, .int .i64 n], [] => Q (.int .i64 ((partsV size n : Nat) : Int)) []
  | _, _ => False
theorem parts_c : Meets Tryz.prog [] 33 partsS := by
  refine meets_of Γok Tryz.func33 rfl ?_
  intro args H Q h
  unfold partsS at h
  split at h
  case h_2 => exact h.elim
  rename_i size n
  by_cases hr : 64 ≤ size ∧ size ≤ 512
  case neg =>
    have h1 : (!rightN size) = true := by unfold rightN; simp only [decide_eq_false hr]; rfl
    have e : (0 : Int) = ((partsV size n : Nat) : Int) := by unfold partsV; rw [if_neg (fun q => hr q.1)]; rfl
    (refine sx_sound Γok _ ?_; conv => whnf)
    (repeat (first | (refine Both.of_true h1 ?_; conv => whnf) | (exact Out.same; conv => whnf) | (exact Out1.same; conv => whnf) | (refine QAnd.mk ?_ ?_; conv => whnf) | (apply QStepH.go; conv => whnf) | (refine Both.lit_true ?_; conv => whnf) | (refine Both.lit_false ?_; conv => whnf) | (apply QStep.go; conv => whnf) | (refine Need.au ?_; conv => whnf) | (refine ⟨_, rfl, ?_⟩; conv => whnf) | (refine CallVC.auto fright_k ?_; conv => whnf)))
    refine ⟨_, _, WeakV.drop rfl, ?_⟩
    rw [e]
    exact h
  have h1 : (!rightN size) = false := by unfold rightN; simp only [decide_eq_true hr]; rfl
  by_cases h0 : n < 0
  · have e : (0 : Int) = ((partsV size n : Nat) : Int) := by unfold partsV; rw [if_neg (fun q => by omega)]; rfl
    have h2 : decide (n < 0) = true := decide_eq_true h0
    (refine sx_sound Γok _ ?_; conv => whnf)
    (repeat (first | (refine Both.of_false h1 ?_; conv => whnf) | (refine Both.of_true h2 ?_; conv => whnf) | (exact Out.same; conv => whnf) | (exact Out1.same; conv => whnf) | (refine QAnd.mk ?_ ?_; conv => whnf) | (apply QStepH.go; conv => whnf) | (refine Both.lit_true ?_; conv => whnf) | (refine Both.lit_false ?_; conv => whnf) | (apply QStep.go; conv => whnf) | (refine Need.au ?_; conv => whnf) | (refine ⟨_, rfl, ?_⟩; conv => whnf) | (refine CallVC.auto fright_k ?_; conv => whnf)))
    refine ⟨_, _, WeakV.drop rfl, ?_⟩
    rw [e]
    exact h
  have h2 : decide (n < 0) = false := decide_eq_false h0
  by_cases h4 : 4096 < n
  · have e : (0 : Int) = ((partsV size n : Nat) : Int) := by unfold partsV; rw [if_neg (fun q => by omega)]; rfl
    have h3 : decide (4096 < n) = true := decide_eq_true h4
    (refine sx_sound Γok _ ?_; conv => whnf)
    (repeat (first | (refine Both.of_false h1 ?_; conv => whnf) | (refine Both.of_false h2 ?_; conv => whnf) | (refine Both.of_true h3 ?_; conv => whnf) | (exact Out.same; conv => whnf) | (exact Out1.same; conv => whnf) | (refine QAnd.mk ?_ ?_; conv => whnf) | (apply QStepH.go; conv => whnf) | (refine Both.lit_true ?_; conv => whnf) | (refine Both.lit_false ?_; conv => whnf) | (apply QStep.go; conv => whnf) | (refine Need.au ?_; conv => whnf) | (refine ⟨_, rfl, ?_⟩; conv => whnf) | (refine CallVC.auto fright_k ?_; conv => whnf)))
    refine ⟨_, _, WeakV.drop rfl, ?_⟩
    rw [e]
    exact h
  have h3 : decide (4096 < n) = false := decide_eq_false h4
  have hs : IntKind.i64.wrap (size - 25) = size - 25 := wrap_i64 (by omega) (by omega)
  have ha : IntKind.i64.wrap (n + (size - 25)) = n + (size - 25) := wrap_i64 (by omega) (by omega)
  have hb : IntKind.i64.wrap (n + (size - 25) - 1) = n + (size - 25) - 1 := wrap_i64 (by omega) (by omega)
  obtain ⟨q, hq⟩ : ∃ q : Nat, (n.toNat + (size.toNat - 25) - 1) / (size.toNat - 25) = q := ⟨_, rfl⟩
  have hqb : q ≤ 5000 := by
    rw [← hq]
    exact Nat.le_trans (Nat.div_le_self _ _) (by omega)
  have hc : (n + (size - 25) - 1).tdiv (size - 25) = (q : Int) := by
    rw [show n + (size - 25) - 1 = ((n.toNat + (size.toNat - 25) - 1 : Nat) : Int) by omega, show size - 25 = ((size.toNat - 25 : Nat) : Int) by omega, ← hq]
    rfl
  have hd : IntKind.i64.wrap ((q : Nat) : Int) = ((q : Nat) : Int) := wrap_i64 (by omega) (by omega)
  have hm : IntKind.i64.wrap (1 : Int) = 1 := rfl
  have hfin : IntKind.i64.wrap ((IntKind.i64.wrap (IntKind.i64.wrap (n + IntKind.i64.wrap (size - 25)) - 1)).tdiv (IntKind.i64.wrap (size - 25))) = (q : Int) := by rw [hs, ha, hb, hc, hd]
  have hp : partsV size n = max 1 q := by
    unfold partsV npar
    rw [if_pos ⟨hr, by omega, by omega⟩, hq]
  (refine sx_sound Γok _ ?_; conv => whnf)
  (repeat (first | (refine Both.of_false h1 ?_; conv => whnf) | (refine Both.of_false h2 ?_; conv => whnf) | (refine Both.of_false h3 ?_; conv => whnf) | (exact Out.same; conv => whnf) | (exact Out1.same; conv => whnf) | (refine QAnd.mk ?_ ?_; conv => whnf) | (apply QStepH.go; conv => whnf) | (refine Both.lit_true ?_; conv => whnf) | (refine Both.lit_false ?_; conv => whnf) | (apply QStep.go; conv => whnf) | (refine Need.au ?_; conv => whnf) | (refine ⟨_, rfl, ?_⟩; conv => whnf) | (refine CallVC.auto fright_k ?_; conv => whnf)))
  have hval : SV.int .i64 (max 1 (IntKind.i64.wrap ((IntKind.i64.wrap (IntKind.i64.wrap (n + IntKind.i64.wrap (size - 25)) - 1)).tdiv (IntKind.i64.wrap (size - 25))))) = SV.int .i64 ((partsV size n : Nat) : Int) := by
    rw [hfin, hp]
    exact congrArg _ (by omega)
  refine ⟨_, _, WeakV.drop rfl, ?_⟩
  exact (congrArg (fun x => Q x []) hval).mpr h
theorem parts_k : Contract Tryz.prog [] 33 partsS := ⟨⟨⟨_, rfl, rfl, rfl⟩⟩, parts_c⟩
theorem parts2_c : Meets Tryz.prog [] 9 partsS := by
  refine meets_of Γok Tryz.func9 rfl ?_
  intro args H Q h
  unfold partsS at h
  split at h
  case h_2 => exact h.elim
  rename_i size n
  by_cases hr : 64 ≤ size ∧ size ≤ 512
  case neg =>
    have h1 : (!rightN size) = true := by unfold rightN; simp only [decide_eq_false hr]; rfl
    have e : (0 : Int) = ((partsV size n : Nat) : Int) := by unfold partsV; rw [if_neg (fun q => hr q.1)]; rfl
    (refine sx_sound Γok _ ?_; conv => whnf)
    (repeat (first | (refine Both.of_true h1 ?_; conv => whnf) | (exact Out.same; conv => whnf) | (exact Out1.same; conv => whnf) | (refine QAnd.mk ?_ ?_; conv => whnf) | (apply QStepH.go; conv => whnf) | (refine Both.lit_true ?_; conv => whnf) | (refine Both.lit_false ?_; conv => whnf) | (apply QStep.go; conv => whnf) | (refine Need.au ?_; conv => whnf) | (refine ⟨_, rfl, ?_⟩; conv => whnf) | (refine CallVC.auto fright2_k ?_; conv => whnf)))
    refine ⟨_, _, WeakV.drop rfl, ?_⟩
    rw [e]
    exact h
  have h1 : (!rightN size) = false := by unfold rightN; simp only [decide_eq_true hr]; rfl
  by_cases h0 : n < 0
  · have e : (0 : Int) = ((partsV size n : Nat) : Int) := by unfold partsV; rw [if_neg (fun q => by omega)]; rfl
    have h2 : decide (n < 0) = true := decide_eq_true h0
    (refine sx_sound Γok _ ?_; conv => whnf)
    (repeat (first | (refine Both.of_false h1 ?_; conv => whnf) | (refine Both.of_true h2 ?_; conv => whnf) | (exact Out.same; conv => whnf) | (exact Out1.same; conv => whnf) | (refine QAnd.mk ?_ ?_; conv => whnf) | (apply QStepH.go; conv => whnf) | (refine Both.lit_true ?_; conv => whnf) | (refine Both.lit_false ?_; conv => whnf) | (apply QStep.go; conv => whnf) | (refine Need.au ?_; conv => whnf) | (refine ⟨_, rfl, ?_⟩; conv => whnf) | (refine CallVC.auto fright2_k ?_; conv => whnf)))
    refine ⟨_, _, WeakV.drop rfl, ?_⟩
    rw [e]
    exact h
  have h2 : decide (n < 0) = false := decide_eq_false h0
  by_cases h4 : 4096 < n
  · have e : (0 : Int) = ((partsV size n : Nat) : Int) := by unfold partsV; rw [if_neg (fun q => by omega)]; rfl
    have h3 : decide (4096 < n) = true := decide_eq_true h4
    (refine sx_sound Γok _ ?_; conv => whnf)
    (repeat (first | (refine Both.of_false h1 ?_; conv => whnf) | (refine Both.of_false h2 ?_; conv => whnf) | (refine Both.of_true h3 ?_; conv => whnf) | (exact Out.same; conv => whnf) | (exact Out1.same; conv => whnf) | (refine QAnd.mk ?_ ?_; conv => whnf) | (apply QStepH.go; conv => whnf) | (refine Both.lit_true ?_; conv => whnf) | (refine Both.lit_false ?_; conv => whnf) | (apply QStep.go; conv => whnf) | (refine Need.au ?_; conv => whnf) | (refine ⟨_, rfl, ?_⟩; conv => whnf) | (refine CallVC.auto fright2_k ?_; conv => whnf)))
    refine ⟨_, _, WeakV.drop rfl, ?_⟩
    rw [e]
    exact h
  have h3 : decide (4096 < n) = false := decide_eq_false h4
  obtain ⟨r, hr0⟩ : ∃ r : Nat, size.toNat - 25 = r := ⟨_, rfl⟩
  obtain ⟨m, hm⟩ : ∃ m : Nat, n.toNat = m := ⟨_, rfl⟩
  have hs : IntKind.i64.wrap (size - 25) = (r : Int) := by rw [wrap_i64 (by omega) (by omega)]; omega
  have hrp : 0 < r := by omega
  have hp : partsV size n = npar r m := by
    unfold partsV
    rw [if_pos ⟨hr, by omega, by omega⟩, hr0, hm]
  have hnm : n = ((m - 0 * r : Nat) : Int) := by omega
  have hpm : npar r m ≤ 5000 := by
    unfold npar
    have := Nat.div_le_self (m + r - 1) r
    omega
  (refine sx_sound Γok _ ?_; conv => whnf)
  (repeat (first | (refine Both.of_false h1 ?_; conv => whnf) | (refine Both.of_false h2 ?_; conv => whnf) | (refine Both.of_false h3 ?_; conv => whnf) | (exact Out.same; conv => whnf) | (exact Out1.same; conv => whnf) | (refine QAnd.mk ?_ ?_; conv => whnf) | (apply QStepH.go; conv => whnf) | (refine Both.lit_true ?_; conv => whnf) | (refine Both.lit_false ?_; conv => whnf) | (apply QStep.go; conv => whnf) | (refine Need.au ?_; conv => whnf) | (refine ⟨_, rfl, ?_⟩; conv => whnf) | (refine CallVC.auto fright2_k ?_; conv => whnf)))
  refine loop_rule (fun k : Nat => ⟨[.int .i64 size, .int .i64 ((m - k * r : Nat) : Int), .any, .any, .any, .int .i64 ((k + 1 : Nat) : Int), .any, .any, .any, .any, .any, .any, .any, .any, .any, .any, .any, .any, .any, .any, .any, .any, .any, .any, .any, .any, .any, .any], []⟩) (fun k => k < npar r m) (fun k => npar r m - k) 0 (npar_pos r m) (Weak.auto ?_) ?_
  · (repeat' ((conv => whnf); first | exact True.intro | (refine And.intro ?_ ?_)))
    all_goals first | rfl | exact congrArg (SV.int .i64) hnm | exact .eq rfl
  intro k hk
  have hlast := npar_last hrp hk
  (refine sx_sound Γok _ ?_; conv => whnf)
  (repeat (first | (exact Out.same; conv => whnf) | (exact Out1.same; conv => whnf) | (refine QAnd.mk ?_ ?_; conv => whnf) | (apply QStepH.go; conv => whnf) | (refine Both.lit_true ?_; conv => whnf) | (refine Both.lit_false ?_; conv => whnf) | (apply QStep.go; conv => whnf) | (refine Need.au ?_; conv => whnf) | (refine ⟨_, rfl, ?_⟩; conv => whnf)))
  refine Both.dec (fun hlt => ?_) (fun hge => ?_)
  · rw [hs] at hlt
    have hk1 : k + 1 < npar r m := by
      have : ¬ (k + 1 = npar r m) := fun q => by have := hlast.2 q; omega
      omega
    have hlo := npar_lo hrp hk1
    rw [Nat.add_mul] at hlo
    have e1 : IntKind.i64.wrap (((k + 1 : Nat) : Int) + 1) = ((k + 1 + 1 : Nat) : Int) := by rw [wrap_i64 (by omega) (by omega)]; rfl
    have e2 : IntKind.i64.wrap (((m - k * r : Nat) : Int) - IntKind.i64.wrap (size - 25)) = ((m - (k + 1) * r : Nat) : Int) := by
      rw [hs, wrap_i64 (by omega) (by omega), Nat.add_mul]
      omega
    (conv => whnf)
    (repeat (first | (exact Out.same; conv => whnf) | (exact Out1.same; conv => whnf) | (refine QAnd.mk ?_ ?_; conv => whnf) | (apply QStepH.go; conv => whnf) | (refine Both.lit_true ?_; conv => whnf) | (refine Both.lit_false ?_; conv => whnf) | (apply QStep.go; conv => whnf) | (refine Need.au ?_; conv => whnf) | (refine ⟨_, rfl, ?_⟩; conv => whnf)))
    refine ⟨k + 1, hk1, by omega, Weak.auto ?_⟩
    (repeat' ((conv => whnf); first | exact True.intro | (refine And.intro ?_ ?_)))
    all_goals first | rfl | exact .eq rfl | exact congrArg (SV.int .i64) e1 | exact congrArg (SV.int .i64) e2
  · rw [hs] at hge
    have hk1 : k + 1 = npar r m := hlast.1 (by omega)
    (conv => whnf)
    (repeat (first | (exact Out.same; conv => whnf) | (exact Out1.same; conv => whnf) | (refine QAnd.mk ?_ ?_; conv => whnf) | (apply QStepH.go; conv => whnf) | (refine Both.lit_true ?_; conv => whnf) | (refine Both.lit_false ?_; conv => whnf) | (apply QStep.go; conv => whnf) | (refine Need.au ?_; conv => whnf) | (refine ⟨_, rfl, ?_⟩; conv => whnf)))
    refine ⟨_, _, WeakV.drop rfl, ?_⟩
    rw [hp, ← hk1] at h
    exact h
theorem parts2_k : Contract Tryz.prog [] 9 partsS := ⟨⟨⟨_, rfl, rfl, rfl⟩⟩, parts2_c⟩
end Go.LX
end
section
set_option maxRecDepth 100000
set_option maxHeartbeats 1000000
set_option autoImplicit false
set_option linter.unusedVariables false
set_option linter.unusedSimpArgs false
namespace Go.LX
open Go.Proofs

def rsealS : Spec := fun args H Q => match args, H with
  | [.str s], [] => ∃ t : List UInt8, s = t ∧ t.length < 1000000 ∧ Q (.str (Crc.seal_ t)) []
  | _, _ => False
theorem rseal_k : Contract Tryz.prog [] 102 rsealS := seal2_k.imp fun args H Q h => by
  unfold rsealS at h
  split at h
  case h_2 => exact h.elim
  obtain ⟨t, rfl, hl, h⟩ := h
  exact ⟨hl, h⟩
def rawX (size g sr k n : Nat) (b : Bz) : Bz := [82] ++ beb g 8 ++ beb sr 8 ++ beb k 1 ++ beb n 1 ++ (beb b.length 2 ++ b) ++ List.replicate (size - 25 - b.length) 0
theorem secX_raw (size g sr k n : Nat) (b : Bz) : secX size g sr k n b = Crc.seal_ (rawX size g sr k n b) := rfl
theorem rawX_len {size : Nat} {b : Bz} (h : b.length + 25 ≤ size) (g sr k n : Nat) : (rawX size g sr k n b).length = size - 4 := by
  unfold rawX
  simp only [List.length_append, beb_length, List.length_replicate, List.length_singleton]
  omega
def secS : Spec := fun args H Q => match args, H with
  | [.int .i64 z, .int .u64 g, .int .u64 sr, .int .i64 k, .int .i64 n, .str b], [] => ∃ zn gn sn kn nn : Nat, z = zn ∧ g = gn ∧ sr = sn ∧ k = kn ∧ n = nn ∧ zn ≤ 512 ∧ gn < 18446744073709551616 ∧ sn < 18446744073709551616 ∧ kn < 256 ∧ nn < 256 ∧ b.length + 25 ≤ zn ∧
    Q (.str (secX zn gn sn kn nn b)) []
  | _, _ => False
theorem sec_c : Meets Tryz.prog [] 99 secS := by
  refine meets_of Γok Tryz.func99 rfl ?_
  intro args H Q h
  unfold secS at h
  split at h
  case h_2 => exact h.elim
  rename_i b
  obtain ⟨zn, gn, sn, kn, nn, rfl, rfl, rfl, rfl, rfl, hz, hg, hs, hk, hn, hb, h⟩ := h
  have hR1 : (⟨#[82]⟩ : ByteArray).data.toList = [82] := rfl
  have h8 : (8 : Nat) ≤ 8 := by omega
  have h1 : (1 : Nat) ≤ 8 := by omega
  have h2 : (2 : Nat) ≤ 8 := by omega
  have hk1 : IntKind.u64.wrap (kn : Int) = (kn : Int) := wrap_u64 (by omega) (by omega)
  have hn1 : IntKind.u64.wrap (nn : Int) = (nn : Int) := wrap_u64 (by omega) (by omega)
  have hb1 : IntKind.u64.wrap (b.length : Int) = (b.length : Int) := wrap_u64 (by omega) (by omega)
  have hk2 : kn < 18446744073709551616 := by omega
  have hn2 : nn < 18446744073709551616 := by omega
  have hb2 : b.length < 18446744073709551616 := by omega
  have c1 : ((⟨#[82]⟩ : ByteArray).data.toList).length + (beb gn 8).length ≤ 9223372036854775807 := by rw [hR1]; simp only [List.length_append, beb_length, List.length_singleton]; all_goals omega
  have c2 : ((⟨#[82]⟩ : ByteArray).data.toList ++ beb gn 8).length + (beb sn 8).length ≤ 9223372036854775807 := by rw [hR1]; simp only [List.length_append, beb_length, List.length_singleton]; all_goals omega
  have c3 : ((⟨#[82]⟩ : ByteArray).data.toList ++ beb gn 8 ++ beb sn 8).length + (beb kn 1).length ≤ 9223372036854775807 := by rw [hR1]; simp only [List.length_append, beb_length, List.length_singleton]; all_goals omega
  have c4 : ((⟨#[82]⟩ : ByteArray).data.toList ++ beb gn 8 ++ beb sn 8 ++ beb kn 1).length + (beb nn 1).length ≤ 9223372036854775807 := by rw [hR1]; simp only [List.length_append, beb_length, List.length_singleton]; all_goals omega
  have c5 : ((⟨#[82]⟩ : ByteArray).data.toList ++ beb gn 8 ++ beb sn 8 ++ beb kn 1 ++ beb nn 1).length + (beb b.length 2).length ≤ 9223372036854775807 := by rw [hR1]; simp only [List.length_append, beb_length, List.length_singleton]; all_goals omega
  have c6 : ((⟨#[82]⟩ : ByteArray).data.toList ++ beb gn 8 ++ beb sn 8 ++ beb kn 1 ++ beb nn 1 ++ beb b.length 2).length + b.length ≤ 9223372036854775807 := by rw [hR1]; simp only [List.length_append, beb_length, List.length_singleton]; all_goals omega
  have hlb : ((⟨#[82]⟩ : ByteArray).data.toList ++ beb gn 8 ++ beb sn 8 ++ beb kn 1 ++ beb nn 1 ++ beb b.length 2 ++ b).length = 21 + b.length := by rw [hR1]; simp only [List.length_append, beb_length, List.length_singleton]; all_goals omega
  obtain ⟨T, hT⟩ : ∃ T : List UInt8, (⟨#[82]⟩ : ByteArray).data.toList ++ beb gn 8 ++ beb sn 8 ++ beb kn 1 ++ beb nn 1 ++ beb b.length 2 ++ b = T := ⟨_, rfl⟩
  rw [hT] at hlb
  have hw1 : IntKind.i64.wrap (IntKind.i64.wrap ((zn : Int) - 4) - ((T.length : Nat) : Int)) = ((zn - 25 - b.length : Nat) : Int) := by
    rw [hlb, wrap_i64 (n := (zn : Int) - 4) (by omega) (by omega), wrap_i64 (by omega) (by omega)]
    omega
  have hmk : ((zn - 25 - b.length : Nat) : Int) = ((zn - 25 - b.length : Nat) : Int) ∧ 0 ≤ ((zn - 25 - b.length : Nat) : Int) ∧ 1 * ((zn - 25 - b.length : Nat) : Int) ≤ 140737488355328 ∧ ((zn - 25 - b.length : Nat) : Int) ≤ 140737488355328 := by omega
  have hcv : (zerosOf 1 ((zn - 25 - b.length : Nat) : Int).toNat [CV.int .u8 0]).length = ((zn - 25 - b.length : Nat) : Int).toNat ∧ ∀ x ∈ zerosOf 1 ((zn - 25 - b.length : Nat) : Int).toNat [CV.int .u8 0], isU8 x = true := by
    refine ⟨List.length_replicate, fun x hx => ?_⟩
    rw [List.eq_of_mem_replicate hx]
    rfl
  have hz2 : (zerosOf 1 ((zn - 25 - b.length : Nat) : Int).toNat [CV.int .u8 0]).map cvByte = List.replicate (zn - 25 - b.length) (0 : UInt8) := by
    show (List.replicate (zn - 25 - b.length) (CV.int .u8 0)).map cvByte = _
    rw [List.map_replicate]
    rfl
  have hcat : T.length + ((zerosOf 1 ((zn - 25 - b.length : Nat) : Int).toNat [CV.int .u8 0]).map cvByte).length ≤ 9223372036854775807 := by
    rw [hlb, hz2, List.length_replicate]
    omega
  have hraw : T ++ (zerosOf 1 ((zn - 25 - b.length : Nat) : Int).toNat [CV.int .u8 0]).map cvByte = rawX zn gn sn kn nn b := by
    rw [hz2, ← hT, hR1]
    unfold rawX
    simp only [List.append_assoc]
  (refine sx_sound Γok _ ?_; conv => whnf)
  (repeat (first | (refine CallVC.auto rb_k ⟨gn, 8, rfl, hg, rfl, h8, ?_⟩; conv => whnf) | (refine CallVC.auto rb_k ⟨sn, 8, rfl, hs, rfl, h8, ?_⟩; conv => whnf) | (refine CallVC.auto rb_k ⟨kn, 1, hk1, hk2, rfl, h1, ?_⟩; conv => whnf) | (refine CallVC.auto rb_k ⟨nn, 1, hn1, hn2, rfl, h1, ?_⟩; conv => whnf) | (refine CallVC.auto rb_k ⟨b.length, 2, hb1, hb2, rfl, h2, ?_⟩; conv => whnf) | (refine Need.mk c1 ?_; conv => whnf) | (refine Need.mk c2 ?_; conv => whnf) | (refine Need.mk c3 ?_; conv => whnf) | (refine Need.mk c4 ?_; conv => whnf) | (refine Need.mk c5 ?_; conv => whnf) | (refine Need.mk c6 ?_; conv => whnf) | (exact Out.same; conv => whnf) | (exact Out1.same; conv => whnf) | (refine QAnd.mk ?_ ?_; conv => whnf) | (apply QStepH.go; conv => whnf) | (refine Both.lit_true ?_; conv => whnf) | (refine Both.lit_false ?_; conv => whnf) | (apply QStep.go; conv => whnf) | (refine Need.au ?_; conv => whnf) | (refine ⟨_, rfl, ?_⟩; conv => whnf)))
  rw [hT, hw1]
  (repeat (first | (refine Need.mk hmk ?_; conv => whnf) | (refine Need.mk hcv ?_; conv => whnf) | (refine Need.mk hcat ?_; conv => whnf) | (exact Out.same; conv => whnf) | (exact Out1.same; conv => whnf) | (refine QAnd.mk ?_ ?_; conv => whnf) | (apply QStepH.go; conv => whnf) | (refine Both.lit_true ?_; conv => whnf) | (refine Both.lit_false ?_; conv => whnf) | (apply QStep.go; conv => whnf) | (refine Need.au ?_; conv => whnf) | (refine ⟨_, rfl, ?_⟩; conv => whnf)))
  refine CallVC.auto rseal_k ⟨_, hraw, by rw [rawX_len hb]; omega, ?_⟩
  (conv => whnf)
  (repeat (first | (exact Out.same; conv => whnf) | (exact Out1.same; conv => whnf) | (refine QAnd.mk ?_ ?_; conv => whnf) | (apply QStepH.go; conv => whnf) | (refine Both.lit_true ?_; conv => whnf) | (refine Both.lit_false ?_; conv => whnf) | (apply QStep.go; conv => whnf) | (refine Need.au ?_; conv => whnf) | (refine ⟨_, rfl, ?_⟩; conv => whnf)))
  exact ⟨_, _, WeakV.drop rfl, h⟩
theorem sec_k : Contract Tryz.prog [] 99 secS := ⟨⟨⟨_, rfl, rfl, rfl⟩⟩, sec_c⟩
end Go.LX
end
section
set_option maxRecDepth 100000
set_option maxHeartbeats 1000000
set_option autoImplicit false
set_option linter.unusedVariables false
set_option linter.unusedSimpArgs false
namespace Go.LX
open Go.Proofs Go.RowKit

theorem Weak.ownNilT {G : Gl} {N : Nat} {s : LS} (k e sz : Nat) (hk : s.t[k]? = some .nilsl) : Weak G N s ⟨s.t.set k (.own s.h.length), s.h ++ [LObj.own e sz 0 [] true]⟩ := by
  intro A E w a hA hs
  obtain ⟨r1, r2, r3⟩ := Rel.push (w' := w) hs.rel none 0 (.slice none 0 0) (.own e sz 0 [] true) ⟨Nat.le_refl _, rfl, rfl, rfl⟩ (fun b _ _ => rfl) (fun b hb => by simp [foot, Env.add_v, Value.blk] at hb) (fun hkI => by
    show OwnR _ _ ((E.add 0 (.slice none 0 0)).v E.n) _ _ _ _ _
    rw [Env.add_v]
    exact ⟨by simp, .inl ⟨rfl, rfl⟩⟩)
  obtain ⟨v, hv1, hv2⟩ := hs.vals.get hk
  cases hv2
  refine ⟨E.add 0 (.slice none 0 0), ⟨hs.anc.trans (E.le_add _ _), ?_, r1, ⟨hs.gl.ok⟩, hs.nod⟩, r2⟩
  refine (hs.vals.kept (E.le_add _ _) (fun _ h => h) (fun _ _ => rfl)).same hv1 ?_
  have := VR.own (E := E.add 0 (.slice none 0 0)) (w := w) E.n (Nat.lt_succ_self _)
  rw [Env.add_v] at this
  rw [hs.rel.len]
  exact this
def us (l : List Nat) : List CV := l.map fun (n : Nat) => CV.int .u64 (n : Int)
end Go.LX
end
section
set_option maxRecDepth 100000
set_option maxHeartbeats 1000000
set_option autoImplicit false
set_option linter.unusedVariables false
set_option linter.unusedSimpArgs false
namespace Go.LX
open Go.Proofs

def sec2S : Spec := fun args H Q => match args, H with
  | [.int .i64 z, .int .u64 g, .int .u64 sr, .int .i64 k, .int .i64 n, .str b], [] => ∃ zn gn sn kn nn : Nat, ∃ bb : Bz, z = zn ∧ g = gn ∧ sr = sn ∧ k = kn ∧ n = nn ∧ b = bb ∧ zn ≤ 512 ∧ gn < 18446744073709551616 ∧ sn < 18446744073709551616 ∧ kn < 256 ∧ nn < 256 ∧ bb.length + 25 ≤ zn ∧
    Q (.str (secX zn gn sn kn nn bb)) []
  | _, _ => False
theorem sec2_k : Contract Tryz.prog [] 99 sec2S := sec_k.imp fun args H Q h => by
  unfold sec2S at h
  split at h
  case h_2 => exact h.elim
  obtain ⟨zn, gn, sn, kn, nn, bb, h1, h2, h3, h4, h5, rfl, h6⟩ := h
  exact ⟨zn, gn, sn, kn, nn, h1, h2, h3, h4, h5, h6⟩
abbrev strL (l : List Bz) : List CV := l.map CV.str
def splitQ (z : Int) (gn sn : Nat) (s : Bz) (Q : SV → List LObj → Prop) : Prop :=
  (partsV z s.length = 0 → Q (.tuple [.nilsl, .int .i64 1]) []) ∧
  (partsV z s.length ≠ 0 → Q (.tuple [.own 0, .int .i64 0]) [.own 9 1 (splitL z.toNat gn sn s).length (strL (splitL z.toNat gn sn s)) true])
def splitS : Spec := fun args H Q => match args, H with
  | [.int .i64 z, .int .u64 g, .int .u64 sr, .str s], [] => ∃ gn sn : Nat, g = gn ∧ sr = sn ∧ gn < 18446744073709551616 ∧ sn < 18446744073709551616 ∧ s.length ≤ 9223372036854775807 ∧ splitQ z gn sn s Q
  | _, _ => False
theorem parts_facts {z : Int} {s : Bz} (h : partsV z s.length ≠ 0) : 64 ≤ z ∧ z ≤ 512 ∧ s.length ≤ 4096 ∧ partsV z s.length = npar (z.toNat - 25) s.length ∧ npar (z.toNat - 25) s.length ≤ 106 := by
  unfold partsV at h ⊢
  by_cases hc : (64 ≤ z ∧ z ≤ 512) ∧ 0 ≤ (s.length : Int) ∧ (s.length : Int) ≤ 4096
  · rw [if_pos hc]
    refine ⟨hc.1.1, hc.1.2, by omega, by rw [Int.toNat_natCast], npar_le (by omega) ?_ (by omega)⟩
    have h1 : 106 * 39 ≤ 106 * (z.toNat - 25) := Nat.mul_le_mul_left _ (by omega)
    omega
  · exact absurd (if_neg hc) h
theorem rsplit_c : Meets Tryz.prog [] 72 splitS := by
  refine meets_of Γok Tryz.func72 rfl ?_
  intro args H Q h
  unfold splitS at h
  split at h
  case h_2 => exact h.elim
  rename_i z g sr s
  obtain ⟨gn, sn, rfl, rfl, hg, hs, hl, h⟩ := h
  by_cases h0 : partsV z s.length = 0
  · have e : decide (((partsV z s.length : Nat) : Int) = 0) = true := by rw [h0]; rfl
    have h := h.1 h0
    (refine sx_sound Γok _ ?_; conv => whnf)
    (repeat (first | (refine Both.of_true e ?_; conv => whnf) | (exact Out.same; conv => whnf) | (exact Out1.same; conv => whnf) | (refine QAnd.mk ?_ ?_; conv => whnf) | (apply QStepH.go; conv => whnf) | (refine Both.lit_true ?_; conv => whnf) | (refine Both.lit_false ?_; conv => whnf) | (apply QStep.go; conv => whnf) | (refine Need.au ?_; conv => whnf) | (refine ⟨_, rfl, ?_⟩; conv => whnf) | (refine CallVC.auto parts2_k ?_; conv => whnf)))
    exact ⟨_, _, WeakV.drop rfl, h⟩
  have h := h.2 h0
  obtain ⟨z1, z2, sl, hp, hpb⟩ := parts_facts h0
  have e : decide (((partsV z s.length : Nat) : Int) = 0) = false := decide_eq_false (by omega)
  obtain ⟨zn, rfl⟩ := Int.eq_ofNat_of_zero_le (show 0 ≤ z by omega)
  obtain ⟨r, hr⟩ : ∃ r, zn - 25 = r := ⟨_, rfl⟩
  have htn : (zn : Int).toNat = zn := Int.toNat_natCast zn
  rw [htn] at hp hpb
  rw [hr] at hp hpb
  obtain ⟨np, hnp⟩ : ∃ np, npar r s.length = np := ⟨_, rfl⟩
  rw [hnp] at hp hpb
  have hrp : 0 < r := by omega
  have hz25 : IntKind.i64.wrap ((zn : Int) - 25) = (r : Int) := by rw [wrap_i64 (by omega) (by omega)]; omega
  (refine sx_sound Γok _ ?_; conv => whnf)
  (repeat (first | (refine Both.of_false e ?_; conv => whnf) | (exact Out.same; conv => whnf) | (exact Out1.same; conv => whnf) | (refine QAnd.mk ?_ ?_; conv => whnf) | (apply QStepH.go; conv => whnf) | (refine Both.lit_true ?_; conv => whnf) | (refine Both.lit_false ?_; conv => whnf) | (apply QStep.go; conv => whnf) | (refine Need.au ?_; conv => whnf) | (refine ⟨_, rfl, ?_⟩; conv => whnf) | (refine CallVC.auto parts2_k ?_; conv => whnf)))
  refine loop_rule (fun k : Nat => ⟨[.int .i64 (zn : Int), .int .u64 (gn : Int), .int .u64 (sn : Int), .str s, .any, .any, .any, .any, .any, .any, .int .i64 ((partsV (zn : Int) s.length : Nat) : Int), .own 0, .int .i64 (k : Int), .any, .any, .any, .any, .any, .any, .any, .any, .any, .any, .any, .any, .any, .any, .any, .any, .any, .any, .any, .any, .any, .any, .any, .any, .any, .any, .any, .any, .any, .any, .any, .any, .any, .any, .any, .any, .any, .any, .any, .any, .any, .any], [.own 9 1 k (strL (splitT zn gn sn s k)) true]⟩) (fun k => k ≤ np) (fun k => np - k) 0 (Nat.zero_le _) ((Weak.ownNilT 11 9 1 rfl).trans (Weak.auto ?_)) ?_
  · (repeat' ((conv => whnf); first | exact True.intro | (refine And.intro ?_ ?_)))
    all_goals first | rfl | exact .eq rfl
  intro k hk
  (refine sx_sound Γok _ ?_; conv => whnf)
  (repeat (first | (exact Out.same; conv => whnf) | (exact Out1.same; conv => whnf) | (refine QAnd.mk ?_ ?_; conv => whnf) | (apply QStepH.go; conv => whnf) | (refine Both.lit_true ?_; conv => whnf) | (refine Both.lit_false ?_; conv => whnf) | (apply QStep.go; conv => whnf) | (refine Need.au ?_; conv => whnf) | (refine ⟨_, rfl, ?_⟩; conv => whnf)))
  refine Both.dec (fun hlt => ?_) (fun hge => ?_)
  · have hkn : k < np := by omega
    have hkr : k * r ≤ 105 * r := Nat.mul_le_mul_right _ (by omega)
    have hf : IntKind.i64.wrap ((k : Int) * IntKind.i64.wrap ((zn : Int) - 25)) = ((k * r : Nat) : Int) := by
      rw [hz25, ← Int.natCast_mul, wrap_i64 (by omega) (by omega)]
    have hk1 : IntKind.i64.wrap ((k : Int) + 1) = ((k + 1 : Nat) : Int) := by rw [wrap_i64 (by omega) (by omega)]; rfl
    have ht : IntKind.i64.wrap (IntKind.i64.wrap ((k : Int) + 1) * IntKind.i64.wrap ((zn : Int) - 25)) = ((k * r + r : Nat) : Int) := by
      rw [hz25, hk1, ← Int.natCast_mul, wrap_i64 (by rw [Nat.add_mul]; omega) (by rw [Nat.add_mul]; omega), Nat.add_mul, Nat.one_mul]
    have hlast := npar_last hrp (show k < npar r s.length by omega)
    have hlow : k * r ≤ s.length := by
      rcases k with _ | j
      · omega
      · exact Nat.le_of_lt (npar_lo hrp (show j + 1 < npar r s.length by omega))
    have hchl := chunk_len r s k
    have hone := splitT_one zn gn sn s k
    rw [hr, hnp] at hone
    have htl := splitT_len zn gn sn s k
    have hcap : (k + 1) * ti9.bytes ≤ 140737488355328 := by
      show (k + 1) * 16 ≤ _
      omega
    have end1 : strL (splitT zn gn sn s k) ++ [CV.str (secX zn gn sn k np (chunk r s k))] = strL (splitT zn gn sn s (k + 1)) := by rw [hone]; simp [strL]
    (conv => whnf)
    (repeat (first | (exact Out.same; conv => whnf) | (exact Out1.same; conv => whnf) | (refine QAnd.mk ?_ ?_; conv => whnf) | (apply QStepH.go; conv => whnf) | (refine Both.lit_true ?_; conv => whnf) | (refine Both.lit_false ?_; conv => whnf) | (apply QStep.go; conv => whnf) | (refine Need.au ?_; conv => whnf) | (refine ⟨_, rfl, ?_⟩; conv => whnf)))
    rw [hf, ht]
    refine Both.dec (fun h5 => ?_) (fun h5 => ?_)
    · have hch : List.drop (((k * r : Nat) : Int)).toNat (List.take ((s.length : Nat) : Int).toNat s) = chunk r s k := by
        rw [Int.toNat_natCast, Int.toNat_natCast, List.take_length]
        unfold chunk
        rw [List.take_of_length_le (by rw [List.length_drop]; omega)]
      (conv => whnf)
      (repeat (first | (refine CallVC.auto sec2_k ⟨zn, gn, sn, k, np, chunk r s k, rfl, rfl, rfl, rfl, congrArg _ hp, hch, by omega, hg, hs, by omega, by omega, by omega, ?_⟩; conv => whnf) | (refine Need.mk hcap ?_; conv => whnf) | (exact Out.same; conv => whnf) | (exact Out1.same; conv => whnf) | (refine QAnd.mk ?_ ?_; conv => whnf) | (apply QStepH.go; conv => whnf) | (refine Both.lit_true ?_; conv => whnf) | (refine Both.lit_false ?_; conv => whnf) | (apply QStep.go; conv => whnf) | (refine Need.au ?_; conv => whnf) | (refine ⟨_, rfl, ?_⟩; conv => whnf)))
      refine ⟨k + 1, by omega, by omega, Weak.auto ?_⟩
      (repeat' ((conv => whnf); first | exact True.intro | (refine And.intro ?_ ?_)))
      all_goals first | rfl | exact .eq rfl | exact congrArg (SV.int .i64) hk1 | exact congrArg (fun l => LObj.own 9 1 (k + 1) l true) end1
    · have hch : List.drop (((k * r : Nat) : Int)).toNat (List.take (((k * r + r : Nat) : Int)).toNat s) = chunk r s k := by
        rw [Int.toNat_natCast, Int.toNat_natCast]
        unfold chunk
        rw [List.drop_take, Nat.add_sub_cancel_left]
      (conv => whnf)
      (repeat (first | (refine CallVC.auto sec2_k ⟨zn, gn, sn, k, np, chunk r s k, rfl, rfl, rfl, rfl, congrArg _ hp, hch, by omega, hg, hs, by omega, by omega, by omega, ?_⟩; conv => whnf) | (refine Need.mk hcap ?_; conv => whnf) | (exact Out.same; conv => whnf) | (exact Out1.same; conv => whnf) | (refine QAnd.mk ?_ ?_; conv => whnf) | (apply QStepH.go; conv => whnf) | (refine Both.lit_true ?_; conv => whnf) | (refine Both.lit_false ?_; conv => whnf) | (apply QStep.go; conv => whnf) | (refine Need.au ?_; conv => whnf) | (refine ⟨_, rfl, ?_⟩; conv => whnf)))
      refine ⟨k + 1, by omega, by omega, Weak.auto ?_⟩
      (repeat' ((conv => whnf); first | exact True.intro | (refine And.intro ?_ ?_)))
      all_goals first | rfl | exact .eq rfl | exact congrArg (SV.int .i64) hk1 | exact congrArg (fun l => LObj.own 9 1 (k + 1) l true) end1
  have hkn : k = np := by omega
  subst hkn
  have hall : splitT zn gn sn s k = splitL (zn : Int).toNat gn sn s := by
    unfold splitT splitL
    rw [htn, hr, hnp]
  rw [← hall, splitT_len] at h
  (conv => whnf)
  (repeat (first | (exact Out.same; conv => whnf) | (exact Out1.same; conv => whnf) | (refine QAnd.mk ?_ ?_; conv => whnf) | (apply QStepH.go; conv => whnf) | (refine Both.lit_true ?_; conv => whnf) | (refine Both.lit_false ?_; conv => whnf) | (apply QStep.go; conv => whnf) | (refine Need.au ?_; conv => whnf) | (refine ⟨_, rfl, ?_⟩; conv => whnf)))
  refine ⟨_, _, WeakV.auto ?_, h⟩
  (repeat' ((conv => whnf); first | exact True.intro | (refine And.intro ?_ ?_)))
  all_goals first | rfl | exact .eq rfl
theorem rsplit_k : Contract Tryz.prog [] 72 splitS := ⟨⟨⟨_, rfl, rfl, rfl⟩⟩, rsplit_c⟩
end Go.LX
end
section
set_option maxRecDepth 100000
set_option maxHeartbeats 1000000
set_option autoImplicit false
set_option linter.unusedVariables false
set_option linter.unusedSimpArgs false
namespace Go.LX
open Go.Proofs

structure MarkVC (P : Program) (G : Gl) (N : Nat) (c : Code) (s : LS) (K : Exit → LS → Prop) : Prop where
  out : WpM P G N c s K
section
variable {P : Program} {Γ : Ty} {G : Gl} {N : Nat}
theorem exThen_mono {p q : LS → Prop} {K : Exit → LS → Prop} (h : ∀ s, p s → q s) (e : Exit) (s : LS) (hp : exThen p K e s) : exThen q K e s := by
  cases e with
  | normal => exact h s hp
  | _ => exact hp
theorem MarkVC.of (hΓ : TyOk P Γ) {c : Code} {s : LS} {K : Exit → LS → Prop} (h : sx P Γ G N c s K) : MarkVC P G N c s K := ⟨(sx_sound hΓ c h).marks⟩
theorem MarkVC.seqM {x y : Code} {s : LS} {K : Exit → LS → Prop} (h : MarkVC P G N x s (exThen (fun s' => MarkVC P G N y s' K) K)) : MarkVC P G N (.seq x y) s K := ⟨WpM.seq (h.out.mono (exThen_mono fun s h => h.out))⟩
theorem MarkVC.seq (hΓ : TyOk P Γ) {x y : Code} {s : LS} {K : Exit → LS → Prop} (h : sx P Γ G N x s (exThen (fun s' => MarkVC P G N y s' K) K)) : MarkVC P G N (.seq x y) s K := MarkVC.seqM (MarkVC.of hΓ h)
theorem MarkVC.block {id : Nat} {c : Code} {s : LS} {K : Exit → LS → Prop} (h : MarkVC P G N c s (exBlock id K)) : MarkVC P G N (.block id c) s K := ⟨WpM.block h.out⟩
theorem MarkVC.weak {c : Code} {s s' : LS} {K : Exit → LS → Prop} (hw : Weak G N s s') (h : MarkVC P G N c s' K) : MarkVC P G N c s K := ⟨WpM.weak hw h.out⟩
structure WpVC (P : Program) (G : Gl) (N : Nat) (c : Code) (s : LS) (K : Exit → LS → Prop) : Prop where
  out : Wp P G N c s K
theorem Wp.two (hΓ : TyOk P Γ) {x y : Code} {s : LS} {K : Exit → LS → Prop} (h : sx P Γ G N x s (exThen (fun s' => WpVC P G N y s' K) fun _ _ => False)) : Wp P G N x s (exThen (fun s' => Wp P G N y s' K) fun _ _ => False) := (sx_sound hΓ x h).mono (exThen_mono fun s h => h.out)
theorem WpVC.of (hΓ : TyOk P Γ) {c : Code} {s : LS} {K : Exit → LS → Prop} (h : sx P Γ G N c s K) : WpVC P G N c s K := ⟨sx_sound hΓ c h⟩
structure YVC (P : Program) (G : Gl) (N : Nat) (X : Cx) (c : Code) (s : LS) (K : Exit → LS → Prop) : Prop where
  out : WpX P G N X c s K
variable {X : Cx}
theorem YVC.of (hΓ : TyOk P Γ) (hX : X.ro = none) {c : Code} {s : LS} {K : Exit → LS → Prop} (h : sx P Γ G N c s K) : YVC P G N X c s K := ⟨(sx_sound hΓ c h) X (.inl hX)⟩
theorem YVC.seqY {x y : Code} {s : LS} {K : Exit → LS → Prop} (h : YVC P G N X x s (exThen (fun s' => YVC P G N X y s' K) K)) : YVC P G N X (.seq x y) s K := ⟨WpX.seq (h.out.mono (exThen_mono fun s h => h.out))⟩
theorem YVC.seq (hΓ : TyOk P Γ) (hX : X.ro = none) {x y : Code} {s : LS} {K : Exit → LS → Prop} (h : sx P Γ G N x s (exThen (fun s' => YVC P G N X y s' K) K)) : YVC P G N X (.seq x y) s K := YVC.seqY (YVC.of hΓ hX h)
theorem YVC.block {id : Nat} {c : Code} {s : LS} {K : Exit → LS → Prop} (h : YVC P G N X c s (exBlock id K)) : YVC P G N X (.block id c) s K := ⟨WpX.block h.out⟩
theorem YVC.loop {c : Code} {s : LS} {K : Exit → LS → Prop} {α : Type} (st : α → LS) (I : α → Prop) (mu : α → Nat) (x0 : α) (h0 : I x0) (hw : Weak G N s (st x0))
    (hround : ∀ x, I x → YVC P G N X c (st x) (exThen (fun s' => ∃ y, I y ∧ mu y < mu x ∧ Weak G N s' (st y)) K)) : YVC P G N X (.loop c) s K := ⟨WpX.loop st I mu x0 h0 hw fun x hI => (hround x hI).out⟩
theorem YVC.yield (hΓ : TyOk P Γ) (hX : X.ro = none) {l : Nat} {Y : YSpec} (hY : YieldOk P G N X l Y) {id : Nat} {ops : Array Oper} {s : LS} {K : Exit → LS → Prop}
    (i : Nat) {y : Oper} (hi : ops.toList[i]? = some y) {c : Call} {x : Operand} (hy : y.op = .call c) (hc : c.callee = .value x) (hg : y.guard = none)
    (h : opsK P Γ G N ops.toList (ops.toList.take i) s fun s1 => ∃ s0, Weak G N s1 s0 ∧ s0.ev G x = .func (.yield l) [] ∧ Y (evL G s0 c.args.toList) s0.h fun H' => LS.put ⟨s0.t, H'⟩ y.dst (.bool true) fun s2 => opsK P Γ G N ops.toList (ops.toList.drop (i + 1)) s2 (K .normal)) : YVC P G N X (.region id ops false) s K := by
  refine ⟨WpX.region_yield hΓ hX hY (ops.toList.take i) (ops.toList.drop (i + 1)) y ?_ hy hc hg h⟩
  obtain ⟨hlt, he⟩ := List.getElem?_eq_some_iff.1 hi
  rw [← he, ← List.drop_eq_getElem_cons hlt, List.take_append_drop]
end
end Go.LX
end
section
set_option maxRecDepth 100000
set_option maxHeartbeats 1000000
set_option autoImplicit false
set_option linter.unusedVariables false
set_option linter.unusedSimpArgs false
namespace Go.LX
open Go.Proofs

def cutsS : Spec := fun args H Q => match args, H with
  | [.str s, .int .i64 r], [] => Q (.func (.func 86) [.ptr 0 0, .ptr 1 0]) [.cells [.int .i64 r] 3, .cells [.str s] 9]
  | _, _ => False
theorem cuts_c : Meets Tryz.prog [] 57 cutsS := by
  refine meets_of Γok Tryz.func57 rfl ?_
  intro args H Q h
  unfold cutsS at h
  split at h
  case h_2 => exact h.elim
  rename_i s r
  (refine sx_sound Γok _ ?_; conv => whnf)
  (repeat (first | (exact Out.same; conv => whnf) | (exact Out1.same; conv => whnf) | (refine QAnd.mk ?_ ?_; conv => whnf) | (apply QStepH.go; conv => whnf) | (refine Both.lit_true ?_; conv => whnf) | (refine Both.lit_false ?_; conv => whnf) | (apply QStep.go; conv => whnf) | (refine Need.au ?_; conv => whnf) | (refine ⟨_, rfl, ?_⟩; conv => whnf)))
  refine ⟨_, _, WeakV.auto ?_, h⟩
  (repeat' ((conv => whnf); first | exact True.intro | (refine And.intro ?_ ?_)))
  all_goals first | rfl | exact .eq rfl
theorem cuts_k : Contract Tryz.prog [] 57 cutsS := ⟨⟨⟨_, rfl, rfl, rfl⟩⟩, cuts_c⟩
def bytesAS : Spec := fun args H Q => match args, H with
  | [.ptr 0 0], [.cells [.int .i64 e, .opt 0 1, .own 1] 114, .own 5 1 m xs true] => ∃ l : List UInt8, xs = bys l ∧ m = l.length ∧ l.length < 1000000000 ∧
    ∀ s, s = (if e = 0 then l else []) → Q (.tuple [.str s, .int .i64 e]) [.cells [.int .i64 e, .opt 0 1, .own 1] 114, .gone]
  | _, _ => False
theorem bytesA_k : Contract Tryz.prog [] 62 bytesAS := bytes_k.imp fun args H Q h => by
  unfold bytesAS at h
  split at h
  case h_2 => exact h.elim
  obtain ⟨l, rfl, rfl, hl, h⟩ := h
  exact ⟨l, rfl, rfl, hl, h _ rfl⟩
def HB (z g sr np r : Nat) (o : SV) (txt : Bz) : List LObj :=
  [.cells [.int .i64 (z : Int)] 3, .cells [.int .u64 (g : Int)] 50, .cells [.int .u64 (sr : Int)] 50, .cells [.int .i64 (np : Int)] 3, .cells [o] 29, .cells [.int .i64 (r : Int)] 3, .cells [.str txt] 9]
def HS (z g sr np r : Nat) (s : Bz) : Nat → Bz → List LObj
  | 0, txt => HB z g sr np r .nilsl txt
  | k + 1, txt => HB z g sr np r (.own 7) txt ++ [.own 9 1 (k + 1) (strL (splitT z g sr s (k + 1))) true]
def HR (z g sr np r : Nat) (s : Bz) : Nat → Bz → List LObj
  | 0, txt => HB z g sr np r (.own 7) txt ++ [.own 9 1 1 (strL (splitT z g sr s 1)) true]
  | k + 1, txt => HB z g sr np r (.own 8) txt ++ [.gone, .own 9 1 (k + 2) (strL (splitT z g sr s (k + 2))) true]
def YS (z g sr np r : Nat) (s : Bz) : YSpec := fun args H Q => ∃ (k : Nat) (bs txt : Bz), args = [.int .i64 (k : Int), .str bs] ∧ bs = chunk r s k ∧ k < np ∧ H = HS z g sr np r s k txt ∧ Q (HR z g sr np r s k txt)
theorem fsplit_c : Meets Tryz.prog [] 37 splitS := by
  refine meets_of_marks Γok Tryz.func37 rfl ?_
  intro args H Q h
  unfold splitS at h
  split at h
  case h_2 => exact h.elim
  rename_i z g sr s
  obtain ⟨gn, sn, rfl, rfl, hg, hs, hl, h⟩ := h
  apply MarkVC.out
  refine MarkVC.seq Γok ?_
  (conv => whnf)
  (repeat (first | (exact Out.same; conv => whnf) | (exact Out1.same; conv => whnf) | (refine QAnd.mk ?_ ?_; conv => whnf) | (apply QStepH.go; conv => whnf) | (refine Both.lit_true ?_; conv => whnf) | (refine Both.lit_false ?_; conv => whnf) | (apply QStep.go; conv => whnf) | (refine Need.au ?_; conv => whnf) | (refine ⟨_, rfl, ?_⟩; conv => whnf)))
  refine MarkVC.seq Γok ?_
  (conv => whnf)
  (repeat (first | (exact Out.same; conv => whnf) | (exact Out1.same; conv => whnf) | (refine QAnd.mk ?_ ?_; conv => whnf) | (apply QStepH.go; conv => whnf) | (refine Both.lit_true ?_; conv => whnf) | (refine Both.lit_false ?_; conv => whnf) | (apply QStep.go; conv => whnf) | (refine Need.au ?_; conv => whnf) | (refine ⟨_, rfl, ?_⟩; conv => whnf) | (refine CallVC.auto parts_k ?_; conv => whnf)))
  refine MarkVC.seq Γok ?_
  by_cases h0 : partsV z s.length = 0
  · have e : decide (((partsV z s.length : Nat) : Int) = 0) = true := by rw [h0]; rfl
    have h := h.1 h0
    (conv => whnf)
    (repeat (first | (refine Both.of_true e ?_; conv => whnf) | (exact Out.same; conv => whnf) | (exact Out1.same; conv => whnf) | (refine QAnd.mk ?_ ?_; conv => whnf) | (apply QStepH.go; conv => whnf) | (refine Both.lit_true ?_; conv => whnf) | (refine Both.lit_false ?_; conv => whnf) | (apply QStep.go; conv => whnf) | (refine Need.au ?_; conv => whnf) | (refine ⟨_, rfl, ?_⟩; conv => whnf)))
    exact ⟨_, _, WeakV.drop rfl, h⟩
  have h := h.2 h0
  obtain ⟨z1, z2, sl, hp, hpb⟩ := parts_facts h0
  have e : decide (((partsV z s.length : Nat) : Int) = 0) = false := decide_eq_false (by omega)
  obtain ⟨zn, rfl⟩ := Int.eq_ofNat_of_zero_le (show 0 ≤ z by omega)
  have htn : (zn : Int).toNat = zn := Int.toNat_natCast zn
  rw [htn] at hp hpb
  obtain ⟨np, hnp⟩ : ∃ np, partsV (zn : Int) s.length = np := ⟨_, rfl⟩
  have hz25 : IntKind.i64.wrap ((zn : Int) - 25) = ((zn - 25 : Nat) : Int) := by rw [wrap_i64 (by omega) (by omega)]; omega
  rw [hnp] at e hp ⊢
  rw [← hp] at hpb
  (conv => whnf)
  (repeat (first | (refine Both.of_false e ?_; conv => whnf) | (exact Out.same; conv => whnf) | (exact Out1.same; conv => whnf) | (refine QAnd.mk ?_ ?_; conv => whnf) | (apply QStepH.go; conv => whnf) | (refine Both.lit_true ?_; conv => whnf) | (refine Both.lit_false ?_; conv => whnf) | (apply QStep.go; conv => whnf) | (refine Need.au ?_; conv => whnf) | (refine ⟨_, rfl, ?_⟩; conv => whnf)))
  refine MarkVC.seq Γok ?_
  (conv => whnf)
  (repeat (first | (exact Out.same; conv => whnf) | (exact Out1.same; conv => whnf) | (refine QAnd.mk ?_ ?_; conv => whnf) | (apply QStepH.go; conv => whnf) | (refine Both.lit_true ?_; conv => whnf) | (refine Both.lit_false ?_; conv => whnf) | (apply QStep.go; conv => whnf) | (refine Need.au ?_; conv => whnf) | (refine ⟨_, rfl, ?_⟩; conv => whnf)))
  refine MarkVC.seqM ?_
  refine MarkVC.seq Γok ?_
  (conv => whnf)
  (repeat (first | (exact Out.same; conv => whnf) | (exact Out1.same; conv => whnf) | (refine QAnd.mk ?_ ?_; conv => whnf) | (apply QStepH.go; conv => whnf) | (refine Both.lit_true ?_; conv => whnf) | (refine Both.lit_false ?_; conv => whnf) | (apply QStep.go; conv => whnf) | (refine Need.au ?_; conv => whnf) | (refine ⟨_, rfl, ?_⟩; conv => whnf) | (refine CallVC.auto cuts_k ?_; conv => whnf)))
  refine MarkVC.block ?_
  refine MarkVC.weak (s' := ⟨[.any, .any, .any, .any, .ptr 0 0, .ptr 1 0, .ptr 2 0, .any, .any, .any, .ptr 3 0, .ptr 4 0, .any, .any, .any, .any, .any, .any, .any, .any, .any, .any, .any, .any, .any, .any, .func (.func 86) [.ptr 5 0, .ptr 6 0], .any, .any, .any, .any, .any, .any, .any, .any, .any, .any, .any, .any, .any, .any, .any, .any, .any, .any, .any, .any, .any, .any, .any, .any, .any, .any, .any, .any, .any, .any], HS zn gn sn np (zn - 25) s 0 s⟩) (Weak.auto ?_) ?_
  · (repeat' ((conv => whnf); first | exact True.intro | (refine And.intro ?_ ?_)))
    all_goals first | rfl | exact .eq rfl | exact .eq (congrArg (fun x => [SV.int .i64 x]) hz25)
  have hg9 : (0 : Int) ≤ (gn : Int) ∧ (gn : Int) < 18446744073709551616 := by omega
  have hs9 : (0 : Int) ≤ (sn : Int) ∧ (sn : Int) < 18446744073709551616 := by omega
  have hn9 : (0 : Int) ≤ (np : Int) ∧ (np : Int) ≤ 255 := by omega
  refine ⟨WpM.rangeFunc (f := 86) (cap := [.ptr 5 0, .ptr 6 0]) rfl Tryz.func86 rfl ⟨_, rfl, rfl, rfl⟩ rfl (by kernel_rfl) (by kernel_rfl) (YS zn gn sn np (zn - 25) s) ?_ ?_⟩
  · rintro args H Q ⟨k, bs, txt, rfl, rfl, hk, rfl, hq⟩
    refine ⟨rfl, ?_⟩
    have hk9 : (0 : Int) ≤ (k : Int) ∧ (k : Int) ≤ 255 := by omega
    have hcl := chunk_len (zn - 25) s k
    have hc9 : (chunk (zn - 25) s k).length ≤ 65535 := by omega
    have hcb : (chunk (zn - 25) s k).length + 25 ≤ zn := by omega
    have hsub : IntKind.i64.wrap (IntKind.i64.wrap ((zn : Int) - 25) - (((chunk (zn - 25) s k).length : Nat) : Int)) = ((zn - 25 - (chunk (zn - 25) s k).length : Nat) : Int) := by
      rw [hz25, wrap_i64 (by omega) (by omega)]
      omega
    have hzr : 0 ≤ IntKind.i64.wrap (IntKind.i64.wrap ((zn : Int) - 25) - (((chunk (zn - 25) s k).length : Nat) : Int)) ∧ IntKind.i64.wrap (IntKind.i64.wrap ((zn : Int) - 25) - (((chunk (zn - 25) s k).length : Nat) : Int)) ≤ 140737488355328 := by
      rw [hsub]
      omega
    have hrr : (List.replicate (((zn - 25 - (chunk (zn - 25) s k).length : Nat) : Int)).toNat (0 : UInt8)).length < 10000000 := by
      rw [List.length_replicate]
      omega
    have hraw : [] ++ (⟨#[82]⟩ : ByteArray).data.toList ++ beb (gn : Int).toNat 8 ++ beb (sn : Int).toNat 8 ++ [UInt8.ofNat (k : Int).toNat] ++ [UInt8.ofNat (np : Int).toNat] ++ (beb (chunk (zn - 25) s k).length 2 ++ chunk (zn - 25) s k) ++ List.replicate (((zn - 25 - (chunk (zn - 25) s k).length : Nat) : Int)).toNat (0 : UInt8) = rawX zn gn sn k np (chunk (zn - 25) s k) := by
      have b1 : ∀ v : Nat, beb v 1 = [UInt8.ofNat v] := fun v => by simp [beb]
      unfold rawX
      rw [b1, b1]
      rfl
    have hrl : (rawX zn gn sn k np (chunk (zn - 25) s k)).length < 1000000 := by
      rw [rawX_len hcb]
      omega
    have hcap : (k + 1) * ti9.bytes ≤ 140737488355328 := by
      show (k + 1) * 16 ≤ _
      omega
    have end1 : strL (splitT zn gn sn s k) ++ [CV.str (Crc.seal_ (rawX zn gn sn k np (chunk (zn - 25) s k)))] = strL (splitT zn gn sn s (k + 1)) := by
      rw [splitT_one, ← hp]
      simp [strL, secX_raw]
    cases k with
    | zero =>
      refine Wp.two Γok ?_
      (conv => whnf)
      (repeat (first | (exact Out.same; conv => whnf) | (exact Out1.same; conv => whnf) | (refine QAnd.mk ?_ ?_; conv => whnf) | (apply QStepH.go; conv => whnf) | (refine Both.lit_true ?_; conv => whnf) | (refine Both.lit_false ?_; conv => whnf) | (apply QStep.go; conv => whnf) | (refine Need.au ?_; conv => whnf) | (refine ⟨_, rfl, ?_⟩; conv => whnf)))
      refine WpVC.of Γok ?_
      (conv => whnf)
      (repeat (first | (exact Out.same; conv => whnf) | (exact Out1.same; conv => whnf) | (refine QAnd.mk ?_ ?_; conv => whnf) | (apply QStepH.go; conv => whnf) | (refine Both.lit_true ?_; conv => whnf) | (refine Both.lit_false ?_; conv => whnf) | (apply QStep.go; conv => whnf) | (refine Need.au ?_; conv => whnf) | (refine ⟨_, rfl, ?_⟩; conv => whnf)))
      refine CallVC.autoW _ (Weak.wr 7 5 rfl) rawOk_k (Need.mk (by show 1 < 10000000; omega) ⟨[], rfl, rfl, by show 0 < 20000000; omega, ?_⟩)
      (conv => whnf)
      (repeat (first | (exact Out.same; conv => whnf) | (exact Out1.same; conv => whnf) | (refine QAnd.mk ?_ ?_; conv => whnf) | (apply QStepH.go; conv => whnf) | (refine Both.lit_true ?_; conv => whnf) | (refine Both.lit_false ?_; conv => whnf) | (apply QStep.go; conv => whnf) | (refine Need.au ?_; conv => whnf) | (refine ⟨_, rfl, ?_⟩; conv => whnf)))
      refine CallVC.auto numOk_k (Need.mk hg9 ⟨_, rfl, rfl, by simp, ?_⟩)
      (conv => whnf)
      (repeat (first | (exact Out.same; conv => whnf) | (exact Out1.same; conv => whnf) | (refine QAnd.mk ?_ ?_; conv => whnf) | (apply QStepH.go; conv => whnf) | (refine Both.lit_true ?_; conv => whnf) | (refine Both.lit_false ?_; conv => whnf) | (apply QStep.go; conv => whnf) | (refine Need.au ?_; conv => whnf) | (refine ⟨_, rfl, ?_⟩; conv => whnf)))
      refine CallVC.auto numOk_k (Need.mk hs9 ⟨_, rfl, rfl, by simp [beb_length], ?_⟩)
      (conv => whnf)
      (repeat (first | (exact Out.same; conv => whnf) | (exact Out1.same; conv => whnf) | (refine QAnd.mk ?_ ?_; conv => whnf) | (apply QStepH.go; conv => whnf) | (refine Both.lit_true ?_; conv => whnf) | (refine Both.lit_false ?_; conv => whnf) | (apply QStep.go; conv => whnf) | (refine Need.au ?_; conv => whnf) | (refine ⟨_, rfl, ?_⟩; conv => whnf)))
      refine CallVC.auto byteOk_k (Need.mk hk9 ⟨_, rfl, rfl, by simp [beb_length], ?_⟩)
      (conv => whnf)
      (repeat (first | (exact Out.same; conv => whnf) | (exact Out1.same; conv => whnf) | (refine QAnd.mk ?_ ?_; conv => whnf) | (apply QStepH.go; conv => whnf) | (refine Both.lit_true ?_; conv => whnf) | (refine Both.lit_false ?_; conv => whnf) | (apply QStep.go; conv => whnf) | (refine Need.au ?_; conv => whnf) | (refine ⟨_, rfl, ?_⟩; conv => whnf)))
      refine CallVC.auto byteOk_k (Need.mk hn9 ⟨_, rfl, rfl, by simp [beb_length], ?_⟩)
      (conv => whnf)
      (repeat (first | (exact Out.same; conv => whnf) | (exact Out1.same; conv => whnf) | (refine QAnd.mk ?_ ?_; conv => whnf) | (apply QStepH.go; conv => whnf) | (refine Both.lit_true ?_; conv => whnf) | (refine Both.lit_false ?_; conv => whnf) | (apply QStep.go; conv => whnf) | (refine Need.au ?_; conv => whnf) | (refine ⟨_, rfl, ?_⟩; conv => whnf)))
      refine CallVC.auto textOk_k (Need.mk hc9 ⟨_, rfl, rfl, by simp [beb_length], ?_⟩)
      (conv => whnf)
      (repeat (first | (exact Out.same; conv => whnf) | (exact Out1.same; conv => whnf) | (refine QAnd.mk ?_ ?_; conv => whnf) | (apply QStepH.go; conv => whnf) | (refine Both.lit_true ?_; conv => whnf) | (refine Both.lit_false ?_; conv => whnf) | (apply QStep.go; conv => whnf) | (refine Need.au ?_; conv => whnf) | (refine ⟨_, rfl, ?_⟩; conv => whnf)))
      refine CallVC.auto zero_k (Need.mk hzr ?_)
      rw [hsub]
      (conv => whnf)
      (repeat (first | (exact Out.same; conv => whnf) | (exact Out1.same; conv => whnf) | (refine QAnd.mk ?_ ?_; conv => whnf) | (apply QStepH.go; conv => whnf) | (refine Both.lit_true ?_; conv => whnf) | (refine Both.lit_false ?_; conv => whnf) | (apply QStep.go; conv => whnf) | (refine Need.au ?_; conv => whnf) | (refine ⟨_, rfl, ?_⟩; conv => whnf)))
      refine CallVC.auto rawOk_k (Need.mk hrr ⟨_, rfl, rfl, by simp [beb_length]; omega, ?_⟩)
      (conv => whnf)
      (repeat (first | (exact Out.same; conv => whnf) | (exact Out1.same; conv => whnf) | (refine QAnd.mk ?_ ?_; conv => whnf) | (apply QStepH.go; conv => whnf) | (refine Both.lit_true ?_; conv => whnf) | (refine Both.lit_false ?_; conv => whnf) | (apply QStep.go; conv => whnf) | (refine Need.au ?_; conv => whnf) | (refine ⟨_, rfl, ?_⟩; conv => whnf)))
      rw [hraw]
      refine CallVC.auto bytesA_k ⟨_, rfl, rfl, by rw [rawX_len hcb]; omega, ?_⟩
      intro t ht
      obtain rfl : t = rawX zn gn sn 0 np (chunk (zn - 25) s 0) := ht
      (conv => whnf)
      (repeat (first | (exact Out.same; conv => whnf) | (exact Out1.same; conv => whnf) | (refine QAnd.mk ?_ ?_; conv => whnf) | (apply QStepH.go; conv => whnf) | (refine Both.lit_true ?_; conv => whnf) | (refine Both.lit_false ?_; conv => whnf) | (apply QStep.go; conv => whnf) | (refine Need.au ?_; conv => whnf) | (refine ⟨_, rfl, ?_⟩; conv => whnf)))
      (refine DrawVC.any Γok (by kernel_rfl) (by kernel_rfl) (by kernel_rfl) (by rfl) ?_; conv => whnf)
      (repeat (first | (refine CallVC.auto seal_k ⟨hrl, ?_⟩; conv => whnf) | (refine Need.mk hcap ?_; conv => whnf) | (exact Out.same; conv => whnf) | (exact Out1.same; conv => whnf) | (refine QAnd.mk ?_ ?_; conv => whnf) | (apply QStepH.go; conv => whnf) | (refine Both.lit_true ?_; conv => whnf) | (refine Both.lit_false ?_; conv => whnf) | (apply QStep.go; conv => whnf) | (refine Need.au ?_; conv => whnf) | (refine ⟨_, rfl, ?_⟩; conv => whnf)))
      refine ⟨rfl, _, WeakV.auto ?_, hq⟩
      (repeat' ((conv => whnf); first | exact True.intro | (refine And.intro ?_ ?_)))
      all_goals first | rfl | exact .eq rfl | exact congrArg (fun l => LObj.own 9 1 (0 + 1) l true) end1
    | succ j =>
      refine Wp.two Γok ?_
      (conv => whnf)
      (repeat (first | (exact Out.same; conv => whnf) | (exact Out1.same; conv => whnf) | (refine QAnd.mk ?_ ?_; conv => whnf) | (apply QStepH.go; conv => whnf) | (refine Both.lit_true ?_; conv => whnf) | (refine Both.lit_false ?_; conv => whnf) | (apply QStep.go; conv => whnf) | (refine Need.au ?_; conv => whnf) | (refine ⟨_, rfl, ?_⟩; conv => whnf)))
      refine WpVC.of Γok ?_
      (conv => whnf)
      (repeat (first | (exact Out.same; conv => whnf) | (exact Out1.same; conv => whnf) | (refine QAnd.mk ?_ ?_; conv => whnf) | (apply QStepH.go; conv => whnf) | (refine Both.lit_true ?_; conv => whnf) | (refine Both.lit_false ?_; conv => whnf) | (apply QStep.go; conv => whnf) | (refine Need.au ?_; conv => whnf) | (refine ⟨_, rfl, ?_⟩; conv => whnf)))
      refine CallVC.autoW _ (Weak.wr 8 5 rfl) rawOk_k (Need.mk (by show 1 < 10000000; omega) ⟨[], rfl, rfl, by show 0 < 20000000; omega, ?_⟩)
      (conv => whnf)
      (repeat (first | (exact Out.same; conv => whnf) | (exact Out1.same; conv => whnf) | (refine QAnd.mk ?_ ?_; conv => whnf) | (apply QStepH.go; conv => whnf) | (refine Both.lit_true ?_; conv => whnf) | (refine Both.lit_false ?_; conv => whnf) | (apply QStep.go; conv => whnf) | (refine Need.au ?_; conv => whnf) | (refine ⟨_, rfl, ?_⟩; conv => whnf)))
      refine CallVC.auto numOk_k (Need.mk hg9 ⟨_, rfl, rfl, by simp, ?_⟩)
      (conv => whnf)
      (repeat (first | (exact Out.same; conv => whnf) | (exact Out1.same; conv => whnf) | (refine QAnd.mk ?_ ?_; conv => whnf) | (apply QStepH.go; conv => whnf) | (refine Both.lit_true ?_; conv => whnf) | (refine Both.lit_false ?_; conv => whnf) | (apply QStep.go; conv => whnf) | (refine Need.au ?_; conv => whnf) | (refine ⟨_, rfl, ?_⟩; conv => whnf)))
      refine CallVC.auto numOk_k (Need.mk hs9 ⟨_, rfl, rfl, by simp [beb_length], ?_⟩)
      (conv => whnf)
      (repeat (first | (exact Out.same; conv => whnf) | (exact Out1.same; conv => whnf) | (refine QAnd.mk ?_ ?_; conv => whnf) | (apply QStepH.go; conv => whnf) | (refine Both.lit_true ?_; conv => whnf) | (refine Both.lit_false ?_; conv => whnf) | (apply QStep.go; conv => whnf) | (refine Need.au ?_; conv => whnf) | (refine ⟨_, rfl, ?_⟩; conv => whnf)))
      refine CallVC.auto byteOk_k (Need.mk hk9 ⟨_, rfl, rfl, by simp [beb_length], ?_⟩)
      (conv => whnf)
      (repeat (first | (exact Out.same; conv => whnf) | (exact Out1.same; conv => whnf) | (refine QAnd.mk ?_ ?_; conv => whnf) | (apply QStepH.go; conv => whnf) | (refine Both.lit_true ?_; conv => whnf) | (refine Both.lit_false ?_; conv => whnf) | (apply QStep.go; conv => whnf) | (refine Need.au ?_; conv => whnf) | (refine ⟨_, rfl, ?_⟩; conv => whnf)))
      refine CallVC.auto byteOk_k (Need.mk hn9 ⟨_, rfl, rfl, by simp [beb_length], ?_⟩)
      (conv => whnf)
      (repeat (first | (exact Out.same; conv => whnf) | (exact Out1.same; conv => whnf) | (refine QAnd.mk ?_ ?_; conv => whnf) | (apply QStepH.go; conv => whnf) | (refine Both.lit_true ?_; conv => whnf) | (refine Both.lit_false ?_; conv => whnf) | (apply QStep.go; conv => whnf) | (refine Need.au ?_; conv => whnf) | (refine ⟨_, rfl, ?_⟩; conv => whnf)))
      refine CallVC.auto textOk_k (Need.mk hc9 ⟨_, rfl, rfl, by simp [beb_length], ?_⟩)
      (conv => whnf)
      (repeat (first | (exact Out.same; conv => whnf) | (exact Out1.same; conv => whnf) | (refine QAnd.mk ?_ ?_; conv => whnf) | (apply QStepH.go; conv => whnf) | (refine Both.lit_true ?_; conv => whnf) | (refine Both.lit_false ?_; conv => whnf) | (apply QStep.go; conv => whnf) | (refine Need.au ?_; conv => whnf) | (refine ⟨_, rfl, ?_⟩; conv => whnf)))
      refine CallVC.auto zero_k (Need.mk hzr ?_)
      rw [hsub]
      (conv => whnf)
      (repeat (first | (exact Out.same; conv => whnf) | (exact Out1.same; conv => whnf) | (refine QAnd.mk ?_ ?_; conv => whnf) | (apply QStepH.go; conv => whnf) | (refine Both.lit_true ?_; conv => whnf) | (refine Both.lit_false ?_; conv => whnf) | (apply QStep.go; conv => whnf) | (refine Need.au ?_; conv => whnf) | (refine ⟨_, rfl, ?_⟩; conv => whnf)))
      refine CallVC.auto rawOk_k (Need.mk hrr ⟨_, rfl, rfl, by simp [beb_length]; omega, ?_⟩)
      (conv => whnf)
      (repeat (first | (exact Out.same; conv => whnf) | (exact Out1.same; conv => whnf) | (refine QAnd.mk ?_ ?_; conv => whnf) | (apply QStepH.go; conv => whnf) | (refine Both.lit_true ?_; conv => whnf) | (refine Both.lit_false ?_; conv => whnf) | (apply QStep.go; conv => whnf) | (refine Need.au ?_; conv => whnf) | (refine ⟨_, rfl, ?_⟩; conv => whnf)))
      rw [hraw]
      refine CallVC.auto bytesA_k ⟨_, rfl, rfl, by rw [rawX_len hcb]; omega, ?_⟩
      intro t ht
      obtain rfl : t = rawX zn gn sn (j + 1) np (chunk (zn - 25) s (j + 1)) := ht
      (conv => whnf)
      (repeat (first | (exact Out.same; conv => whnf) | (exact Out1.same; conv => whnf) | (refine QAnd.mk ?_ ?_; conv => whnf) | (apply QStepH.go; conv => whnf) | (refine Both.lit_true ?_; conv => whnf) | (refine Both.lit_false ?_; conv => whnf) | (apply QStep.go; conv => whnf) | (refine Need.au ?_; conv => whnf) | (refine ⟨_, rfl, ?_⟩; conv => whnf)))
      (refine DrawVC.any Γok (by kernel_rfl) (by kernel_rfl) (by kernel_rfl) (by rfl) ?_; conv => whnf)
      (repeat (first | (refine CallVC.auto seal_k ⟨hrl, ?_⟩; conv => whnf) | (refine Need.mk hcap ?_; conv => whnf) | (exact Out.same; conv => whnf) | (exact Out1.same; conv => whnf) | (refine QAnd.mk ?_ ?_; conv => whnf) | (apply QStepH.go; conv => whnf) | (refine Both.lit_true ?_; conv => whnf) | (refine Both.lit_false ?_; conv => whnf) | (apply QStep.go; conv => whnf) | (refine Need.au ?_; conv => whnf) | (refine ⟨_, rfl, ?_⟩; conv => whnf)))
      refine ⟨rfl, _, WeakV.auto ?_, hq⟩
      (repeat' ((conv => whnf); first | exact True.intro | (refine And.intro ?_ ?_)))
      all_goals first | rfl | exact .eq rfl | exact congrArg (fun l => LObj.own 9 1 ((j + 1) + 1) l true) end1
  · intro X l hX hY
    have hrp : 0 < zn - 25 := by omega
    apply YVC.out
    refine YVC.seq Γok hX ?_
    (conv => whnf)
    (repeat (first | (exact Out.same; conv => whnf) | (exact Out1.same; conv => whnf) | (refine QAnd.mk ?_ ?_; conv => whnf) | (apply QStepH.go; conv => whnf) | (refine Both.lit_true ?_; conv => whnf) | (refine Both.lit_false ?_; conv => whnf) | (apply QStep.go; conv => whnf) | (refine Need.au ?_; conv => whnf) | (refine ⟨_, rfl, ?_⟩; conv => whnf)))
    refine YVC.block ?_
    refine YVC.loop (fun k : Nat => ⟨[.func (.yield l) [], .ptr 5 0, .ptr 6 0, .any, .int .i64 (k : Int), .any, .any, .any, .any, .any, .any, .any, .any, .any, .any, .any, .any, .any, .any, .any, .any, .any, .any, .any, .any, .any, .any, .any], HS zn gn sn np (zn - 25) s k (s.drop (k * (zn - 25)))⟩) (fun k => k < np) (fun k => np - k) 0 (by rw [hp]; exact npar_pos _ _) (Weak.auto ?_) ?_
    · (repeat' ((conv => whnf); first | exact True.intro | (refine And.intro ?_ ?_)))
      all_goals first | rfl | exact .eq rfl | exact .eq (congrArg (fun x => [SV.str x]) (by rw [Nat.zero_mul, List.drop_zero]))
    intro k hk
    have hlast := npar_last hrp (show k < npar (zn - 25) s.length by omega)
    have hdl : (s.drop (k * (zn - 25))).length = s.length - k * (zn - 25) := List.length_drop
    obtain ⟨txt, htxt⟩ : ∃ txt, s.drop (k * (zn - 25)) = txt := ⟨_, rfl⟩
    rw [htxt] at hdl ⊢
    have hmin : ∃ m : Nat, min ((zn - 25 : Nat) : Int) ((txt.length : Nat) : Int) = (m : Int) ∧ m = min (zn - 25) txt.length := ⟨_, by omega, rfl⟩
    obtain ⟨m, hm, hm2⟩ := hmin
    have hch : List.drop (Int.toNat 0) (List.take ((m : Nat) : Int).toNat txt) = chunk (zn - 25) s k := by
      unfold chunk
      rw [htxt, hm2]
      show List.take (min (zn - 25) txt.length) txt = _
      rcases Nat.le_total (zn - 25) txt.length with q | q
      · rw [Nat.min_eq_left q]
      · rw [Nat.min_eq_right q, List.take_length, List.take_of_length_le q]
    have hsl : 0 ≤ ((m : Nat) : Int) ∧ ((m : Nat) : Int) ≤ ((txt.length : Nat) : Int) := by omega
    refine YVC.seqY ?_
    refine YVC.block ?_
    refine YVC.seq Γok hX ?_
    cases k with
    | zero =>
      (conv => whnf)
      (repeat (first | (exact Out.same; conv => whnf) | (exact Out1.same; conv => whnf) | (refine QAnd.mk ?_ ?_; conv => whnf) | (apply QStepH.go; conv => whnf) | (refine Both.lit_true ?_; conv => whnf) | (refine Both.lit_false ?_; conv => whnf) | (apply QStep.go; conv => whnf) | (refine Need.au ?_; conv => whnf) | (refine ⟨_, rfl, ?_⟩; conv => whnf)))
      rw [hm]
      refine YVC.seqY ?_
      refine YVC.seqY ?_
      refine YVC.yield Γok hX hY 5 rfl rfl rfl rfl ?_
      (conv => whnf)
      (repeat (first | (refine Need.mk hsl ?_; conv => whnf) | (exact Out.same; conv => whnf) | (exact Out1.same; conv => whnf) | (refine QAnd.mk ?_ ?_; conv => whnf) | (apply QStepH.go; conv => whnf) | (refine Both.lit_true ?_; conv => whnf) | (refine Both.lit_false ?_; conv => whnf) | (apply QStep.go; conv => whnf) | (refine Need.au ?_; conv => whnf) | (refine ⟨_, rfl, ?_⟩; conv => whnf)))
      refine ⟨_, Weak.refl _ _ _, rfl, 0, _, _, rfl, hch, hk, rfl, ?_⟩
      (conv => whnf)
      (repeat (first | (exact Out.same; conv => whnf) | (exact Out1.same; conv => whnf) | (refine QAnd.mk ?_ ?_; conv => whnf) | (apply QStepH.go; conv => whnf) | (refine Both.lit_true ?_; conv => whnf) | (refine Both.lit_false ?_; conv => whnf) | (apply QStep.go; conv => whnf) | (refine Need.au ?_; conv => whnf) | (refine ⟨_, rfl, ?_⟩; conv => whnf)))
      refine YVC.of Γok hX ?_
      (conv => whnf)
      refine Both.dec (fun hq => ?_) (fun hq => ?_)
      · have hend : 0 + 1 = np := by rw [hp]; exact hlast.1 (by omega)
        have hall : splitT zn gn sn s (0 + 1) = splitL (zn : Int).toNat gn sn s := by
          unfold splitT splitL
          rw [htn, ← hp, hend]
        rw [← hall, splitT_len] at h
        (conv => whnf)
        refine ⟨.inr rfl, HS zn gn sn np (zn - 25) s (0 + 1) txt, WeakV.auto ?_, ?_⟩
        · (repeat' ((conv => whnf); first | exact True.intro | (refine And.intro ?_ ?_)))
          all_goals first | rfl | exact .eq rfl
        (conv => whnf)
        refine MarkVC.of Γok ?_
        (conv => whnf)
        (repeat (first | (exact Out.same; conv => whnf) | (exact Out1.same; conv => whnf) | (refine QAnd.mk ?_ ?_; conv => whnf) | (apply QStepH.go; conv => whnf) | (refine Both.lit_true ?_; conv => whnf) | (refine Both.lit_false ?_; conv => whnf) | (apply QStep.go; conv => whnf) | (refine Need.au ?_; conv => whnf) | (refine ⟨_, rfl, ?_⟩; conv => whnf)))
        refine ⟨_, _, WeakV.auto ?_, h⟩
        (repeat' ((conv => whnf); first | exact True.intro | (refine And.intro ?_ ?_)))
        all_goals first | rfl | exact .eq rfl
      · have hmr : m = zn - 25 := by omega
        have hk1 : 0 + 1 < np := by
          have : ¬ (0 + 1 = npar (zn - 25) s.length) := fun q => by have := hlast.2 q; omega
          omega
        have hnx : List.drop ((m : Nat) : Int).toNat (List.take ((txt.length : Nat) : Int).toNat txt) = s.drop ((0 + 1) * (zn - 25)) := by
          rw [Int.toNat_natCast, Int.toNat_natCast, List.take_length, hmr, ← htxt, List.drop_drop]
          exact congrArg (fun x => List.drop x s) (Nat.succ_mul _ _).symm
        have hw1 : IntKind.i64.wrap (((0 : Nat) : Int) + 1) = ((0 + 1 : Nat) : Int) := by rw [wrap_i64 (by omega) (by omega)]; rfl
        (conv => whnf)
        (repeat (first | (exact Out.same; conv => whnf) | (exact Out1.same; conv => whnf) | (refine QAnd.mk ?_ ?_; conv => whnf) | (apply QStepH.go; conv => whnf) | (refine Both.lit_true ?_; conv => whnf) | (refine Both.lit_false ?_; conv => whnf) | (apply QStep.go; conv => whnf) | (refine Need.au ?_; conv => whnf) | (refine ⟨_, rfl, ?_⟩; conv => whnf)))
        refine YVC.of Γok hX ?_
        (conv => whnf)
        (repeat (first | (refine Need.mk hsl ?_; conv => whnf) | (exact Out.same; conv => whnf) | (exact Out1.same; conv => whnf) | (refine QAnd.mk ?_ ?_; conv => whnf) | (apply QStepH.go; conv => whnf) | (refine Both.lit_true ?_; conv => whnf) | (refine Both.lit_false ?_; conv => whnf) | (apply QStep.go; conv => whnf) | (refine Need.au ?_; conv => whnf) | (refine ⟨_, rfl, ?_⟩; conv => whnf)))
        refine YVC.of Γok hX ?_
        (conv => whnf)
        (repeat (first | (exact Out.same; conv => whnf) | (exact Out1.same; conv => whnf) | (refine QAnd.mk ?_ ?_; conv => whnf) | (apply QStepH.go; conv => whnf) | (refine Both.lit_true ?_; conv => whnf) | (refine Both.lit_false ?_; conv => whnf) | (apply QStep.go; conv => whnf) | (refine Need.au ?_; conv => whnf) | (refine ⟨_, rfl, ?_⟩; conv => whnf)))
        refine ⟨0 + 1, hk1, by omega, Weak.auto ?_⟩
        (repeat' ((conv => whnf); first | exact True.intro | (refine And.intro ?_ ?_)))
        all_goals first | rfl | exact .eq rfl | exact congrArg (SV.int .i64) hw1 | exact .eq (congrArg (fun x => [SV.str x]) hnx)
    | succ j =>
      (conv => whnf)
      (repeat (first | (exact Out.same; conv => whnf) | (exact Out1.same; conv => whnf) | (refine QAnd.mk ?_ ?_; conv => whnf) | (apply QStepH.go; conv => whnf) | (refine Both.lit_true ?_; conv => whnf) | (refine Both.lit_false ?_; conv => whnf) | (apply QStep.go; conv => whnf) | (refine Need.au ?_; conv => whnf) | (refine ⟨_, rfl, ?_⟩; conv => whnf)))
      rw [hm]
      refine YVC.seqY ?_
      refine YVC.seqY ?_
      refine YVC.yield Γok hX hY 5 rfl rfl rfl rfl ?_
      (conv => whnf)
      (repeat (first | (refine Need.mk hsl ?_; conv => whnf) | (exact Out.same; conv => whnf) | (exact Out1.same; conv => whnf) | (refine QAnd.mk ?_ ?_; conv => whnf) | (apply QStepH.go; conv => whnf) | (refine Both.lit_true ?_; conv => whnf) | (refine Both.lit_false ?_; conv => whnf) | (apply QStep.go; conv => whnf) | (refine Need.au ?_; conv => whnf) | (refine ⟨_, rfl, ?_⟩; conv => whnf)))
      refine ⟨_, Weak.refl _ _ _, rfl, j + 1, _, _, rfl, hch, hk, rfl, ?_⟩
      (conv => whnf)
      (repeat (first | (exact Out.same; conv => whnf) | (exact Out1.same; conv => whnf) | (refine QAnd.mk ?_ ?_; conv => whnf) | (apply QStepH.go; conv => whnf) | (refine Both.lit_true ?_; conv => whnf) | (refine Both.lit_false ?_; conv => whnf) | (apply QStep.go; conv => whnf) | (refine Need.au ?_; conv => whnf) | (refine ⟨_, rfl, ?_⟩; conv => whnf)))
      refine YVC.of Γok hX ?_
      (conv => whnf)
      refine Both.dec (fun hq => ?_) (fun hq => ?_)
      · have hend : (j + 1) + 1 = np := by rw [hp]; exact hlast.1 (by omega)
        have hall : splitT zn gn sn s ((j + 1) + 1) = splitL (zn : Int).toNat gn sn s := by
          unfold splitT splitL
          rw [htn, ← hp, hend]
        rw [← hall, splitT_len] at h
        (conv => whnf)
        refine ⟨.inr rfl, HS zn gn sn np (zn - 25) s ((j + 1) + 1) txt, WeakV.auto ?_, ?_⟩
        · (repeat' ((conv => whnf); first | exact True.intro | (refine And.intro ?_ ?_)))
          all_goals first | rfl | exact .eq rfl
        (conv => whnf)
        refine MarkVC.of Γok ?_
        (conv => whnf)
        (repeat (first | (exact Out.same; conv => whnf) | (exact Out1.same; conv => whnf) | (refine QAnd.mk ?_ ?_; conv => whnf) | (apply QStepH.go; conv => whnf) | (refine Both.lit_true ?_; conv => whnf) | (refine Both.lit_false ?_; conv => whnf) | (apply QStep.go; conv => whnf) | (refine Need.au ?_; conv => whnf) | (refine ⟨_, rfl, ?_⟩; conv => whnf)))
        refine ⟨_, _, WeakV.auto ?_, h⟩
        (repeat' ((conv => whnf); first | exact True.intro | (refine And.intro ?_ ?_)))
        all_goals first | rfl | exact .eq rfl
      · have hmr : m = zn - 25 := by omega
        have hk1 : (j + 1) + 1 < np := by
          have : ¬ ((j + 1) + 1 = npar (zn - 25) s.length) := fun q => by have := hlast.2 q; omega
          omega
        have hnx : List.drop ((m : Nat) : Int).toNat (List.take ((txt.length : Nat) : Int).toNat txt) = s.drop (((j + 1) + 1) * (zn - 25)) := by
          rw [Int.toNat_natCast, Int.toNat_natCast, List.take_length, hmr, ← htxt, List.drop_drop]
          exact congrArg (fun x => List.drop x s) (Nat.succ_mul _ _).symm
        have hw1 : IntKind.i64.wrap ((((j + 1) : Nat) : Int) + 1) = (((j + 1) + 1 : Nat) : Int) := by rw [wrap_i64 (by omega) (by omega)]; rfl
        (conv => whnf)
        (repeat (first | (exact Out.same; conv => whnf) | (exact Out1.same; conv => whnf) | (refine QAnd.mk ?_ ?_; conv => whnf) | (apply QStepH.go; conv => whnf) | (refine Both.lit_true ?_; conv => whnf) | (refine Both.lit_false ?_; conv => whnf) | (apply QStep.go; conv => whnf) | (refine Need.au ?_; conv => whnf) | (refine ⟨_, rfl, ?_⟩; conv => whnf)))
        refine YVC.of Γok hX ?_
        (conv => whnf)
        (repeat (first | (refine Need.mk hsl ?_; conv => whnf) | (exact Out.same; conv => whnf) | (exact Out1.same; conv => whnf) | (refine QAnd.mk ?_ ?_; conv => whnf) | (apply QStepH.go; conv => whnf) | (refine Both.lit_true ?_; conv => whnf) | (refine Both.lit_false ?_; conv => whnf) | (apply QStep.go; conv => whnf) | (refine Need.au ?_; conv => whnf) | (refine ⟨_, rfl, ?_⟩; conv => whnf)))
        refine YVC.of Γok hX ?_
        (conv => whnf)
        (repeat (first | (exact Out.same; conv => whnf) | (exact Out1.same; conv => whnf) | (refine QAnd.mk ?_ ?_; conv => whnf) | (apply QStepH.go; conv => whnf) | (refine Both.lit_true ?_; conv => whnf) | (refine Both.lit_false ?_; conv => whnf) | (apply QStep.go; conv => whnf) | (refine Need.au ?_; conv => whnf) | (refine ⟨_, rfl, ?_⟩; conv => whnf)))
        refine ⟨(j + 1) + 1, hk1, by omega, Weak.auto ?_⟩
        (repeat' ((conv => whnf); first | exact True.intro | (refine And.intro ?_ ?_)))
        all_goals first | rfl | exact .eq rfl | exact congrArg (SV.int .i64) hw1 | exact .eq (congrArg (fun x => [SV.str x]) hnx)
theorem fsplit_k : Contract Tryz.prog [] 37 splitS := ⟨⟨⟨_, rfl, rfl, rfl⟩⟩, fsplit_c⟩
end Go.LX
end
section
set_option maxRecDepth 100000
set_option maxHeartbeats 1000000
set_option autoImplicit false
set_option linter.unusedVariables false
set_option linter.unusedSimpArgs false
namespace Go.LX
open Go.Proofs

theorem h6bev_inj : ∀ (x y : List UInt8), x.length = y.length → bev x = bev y → x = y
  | [], [], _, _ => rfl
  | a :: x, b :: y, hl, h => by
    have hl : x.length = y.length := by simpa using hl
    rw [bev_cons, bev_cons, hl] at h
    have hx := bev_lt x
    have hy := bev_lt y
    rw [hl] at hx
    have hp : 0 < 256 ^ y.length := Nat.pow_pos (by omega)
    generalize 256 ^ y.length = p at *
    have h1 : a.toNat = b.toNat := by
      have e1 : (a.toNat * p + bev x) / p = a.toNat := by rw [Nat.mul_comm, Nat.mul_add_div hp, Nat.div_eq_of_lt hx, Nat.add_zero]
      have e2 : (b.toNat * p + bev y) / p = b.toNat := by rw [Nat.mul_comm, Nat.mul_add_div hp, Nat.div_eq_of_lt hy, Nat.add_zero]
      rw [← e1, ← e2, h]
    rw [h1] at h
    rw [UInt8.toNat_inj.1 h1, h6bev_inj x y hl (by omega)]
theorem h6beb_bev {l : List UInt8} {k : Nat} (h : l.length = k) : beb (bev l) k = l := by
  subst h
  exact h6bev_inj _ _ (beb_length _ _) (bev_beb _ _ (bev_lt l))
def hG (s : List UInt8) : Int := (bev ((s.drop 1).take 8) : Int)
def hS (s : List UInt8) : Int := ((s.getD 9 0).toNat : Int)
def hGet (z : Int) (s : List UInt8) : (Int × Int) × Int :=
  if szB z = false then ((0, 0), 1) else if (s.length : Int) ≠ z then ((0, 0), 6) else if rightB s = false then ((0, 0), 8) else
    if hRes z (hG s) (hS s) = (s, 0) then ((hG s, hS s), 0) else ((0, 0), 5)
theorem hG_rng (s : List UInt8) : 0 ≤ hG s ∧ hG s < 18446744073709551616 := by
  have h := bev_lt ((s.drop 1).take 8)
  have h2 : ((s.drop 1).take 8).length ≤ 8 := by rw [List.length_take]; omega
  have h3 : 256 ^ ((s.drop 1).take 8).length ≤ 256 ^ 8 := Nat.pow_le_pow_right (by omega) h2
  unfold hG
  have : (256 : Nat) ^ 8 = 18446744073709551616 := by decide
  omega
theorem hS_rng (s : List UInt8) : 0 ≤ hS s ∧ hS s < 256 := by
  have := (s.getD 9 0).toNat_lt
  unfold hS
  omega
theorem cut10 {s : List UInt8} (h : 10 ≤ s.length) : s.drop 1 = (s.drop 1).take 8 ++ ([s.getD 9 0] ++ s.drop 10) := by
  have h1 : s.drop 9 = s.getD 9 0 :: s.drop 10 := by
    rw [List.drop_eq_getElem_cons (by omega), List.getD_eq_getElem?_getD, List.getElem?_eq_getElem (by omega)]
    rfl
  have h2 : (s.drop 1).drop 8 = s.drop 9 := by rw [List.drop_drop]
  rw [List.singleton_append, ← h1, ← h2, List.take_append_drop]
def rnumAS : Spec := fun args H Q => match args, H with
  | [.ptr 0 0], [.cells [.int .i64 e, .str s] 172] => ∃ a r : List UInt8, e = 0 ∧ s = a ++ r ∧ a.length = 8 ∧ s.length < 1000000 ∧ Q (.int .u64 (bev a : Int)) (rd 0 r)
  | _, _ => False
theorem rnumA_k : Contract Tryz.prog [] 95 rnumAS := rnum_k.imp fun args H Q h => by
  unfold rnumAS at h
  split at h
  case h_2 => exact h.elim
  obtain ⟨a, r, rfl, rfl, ha, hl, h⟩ := h
  obtain ⟨r1, r2, r3⟩ := rd_app 8 a r (by rw [ha]; rfl)
  refine ⟨hl, ?_⟩
  rw [rdV, r1, r2, r3]
  exact h
def rbyteAS : Spec := fun args H Q => match args, H with
  | [.ptr 0 0], [.cells [.int .i64 e, .str s] 172] => ∃ (b : UInt8) (r : List UInt8), e = 0 ∧ s = [b] ++ r ∧ s.length < 1000000 ∧ Q (.int .i64 (b.toNat : Int)) (rd 0 r)
  | _, _ => False
theorem rbyteA_k : Contract Tryz.prog [] 96 rbyteAS := rbyte_k.imp fun args H Q h => by
  unfold rbyteAS at h
  split at h
  case h_2 => exact h.elim
  obtain ⟨b, r, rfl, rfl, hl, h⟩ := h
  obtain ⟨r1, r2, r3⟩ := rd_app 1 [b] r rfl
  refine ⟨hl, ?_⟩
  rw [rdV, r1, r2, r3]
  have : bev [b] = b.toNat := by simp [bev]
  rw [this]
  exact h
def hgetS : Spec := fun args H Q => match args, H with
  | [.int .i64 z, .str s], [] => Need (s.length < 1000000) (∀ g sg e, ((g, sg), e) = hGet z s → Q (.tuple [.agg [.int .u64 g, .int .i64 sg], .int .i64 e]) [])
  | _, _ => False
theorem hget_c : Meets Tryz.prog [] 67 hgetS := by
  refine meets_of Γok Tryz.func67 rfl ?_
  intro args H Q h
  unfold hgetS at h
  split at h
  case h_2 => exact h.elim
  rename_i z s
  obtain ⟨hs, h⟩ := h
  (refine sx_sound Γok _ ?_; conv => whnf)
  (repeat (first | (exact Out.same; conv => whnf) | (exact Out1.same; conv => whnf) | (refine QAnd.mk ?_ ?_; conv => whnf) | (apply QStepH.go; conv => whnf) | (refine Both.lit_true ?_; conv => whnf) | (refine Both.lit_false ?_; conv => whnf) | (apply QStep.go; conv => whnf) | (refine Need.au ?_; conv => whnf) | (refine ⟨_, rfl, ?_⟩; conv => whnf)))
  refine CallVC.auto hright_k ?_
  intro b hb
  cases b
  · have good := h 0 0 1 (by rw [hGet, if_pos hb.symm])
    (conv => whnf)
    (repeat (first | (exact Out.same; conv => whnf) | (exact Out1.same; conv => whnf) | (refine QAnd.mk ?_ ?_; conv => whnf) | (apply QStepH.go; conv => whnf) | (refine Both.lit_true ?_; conv => whnf) | (refine Both.lit_false ?_; conv => whnf) | (apply QStep.go; conv => whnf) | (refine Need.au ?_; conv => whnf) | (refine ⟨_, rfl, ?_⟩; conv => whnf) | (refine Both.of_false ?_ ?_; (focus (first | rfl | (simp <;> fail))); conv => whnf) | (refine Both.of_true ?_ ?_; (focus (first | rfl | (simp <;> fail))); conv => whnf)))
    exact ⟨_, _, WeakV.drop rfl, good⟩
  have hz := of_decide_eq_true hb.symm
  (conv => whnf)
  (repeat (first | (exact Out.same; conv => whnf) | (exact Out1.same; conv => whnf) | (refine QAnd.mk ?_ ?_; conv => whnf) | (apply QStepH.go; conv => whnf) | (refine Both.lit_true ?_; conv => whnf) | (refine Both.lit_false ?_; conv => whnf) | (apply QStep.go; conv => whnf) | (refine Need.au ?_; conv => whnf) | (refine ⟨_, rfl, ?_⟩; conv => whnf) | (refine Both.of_false ?_ ?_; (focus (first | rfl | (simp <;> fail))); conv => whnf) | (refine Both.of_true ?_ ?_; (focus (first | rfl | (simp <;> fail))); conv => whnf)))
  refine Both.dec_not (fun h1 => ?_) (fun h1 => ?_)
  · have good := h 0 0 6 (by rw [hGet, if_neg (by rw [← hb]; decide), if_pos h1])
    (conv => whnf)
    (repeat (first | (exact Out.same; conv => whnf) | (exact Out1.same; conv => whnf) | (refine QAnd.mk ?_ ?_; conv => whnf) | (apply QStepH.go; conv => whnf) | (refine Both.lit_true ?_; conv => whnf) | (refine Both.lit_false ?_; conv => whnf) | (apply QStep.go; conv => whnf) | (refine Need.au ?_; conv => whnf) | (refine ⟨_, rfl, ?_⟩; conv => whnf) | (refine Both.of_false ?_ ?_; (focus (first | rfl | (simp <;> fail))); conv => whnf) | (refine Both.of_true ?_ ?_; (focus (first | rfl | (simp <;> fail))); conv => whnf)))
    exact ⟨_, _, WeakV.drop rfl, good⟩
  (conv => whnf)
  (repeat (first | (exact Out.same; conv => whnf) | (exact Out1.same; conv => whnf) | (refine QAnd.mk ?_ ?_; conv => whnf) | (apply QStepH.go; conv => whnf) | (refine Both.lit_true ?_; conv => whnf) | (refine Both.lit_false ?_; conv => whnf) | (apply QStep.go; conv => whnf) | (refine Need.au ?_; conv => whnf) | (refine ⟨_, rfl, ?_⟩; conv => whnf)))
  refine CallVC.auto right_k ⟨hs, ?_⟩
  cases hr : rightB s
  · have good := h 0 0 8 (by rw [hGet, if_neg (by rw [← hb]; decide), if_neg (by simpa using h1), if_pos hr])
    (conv => whnf)
    (repeat (first | (exact Out.same; conv => whnf) | (exact Out1.same; conv => whnf) | (refine QAnd.mk ?_ ?_; conv => whnf) | (apply QStepH.go; conv => whnf) | (refine Both.lit_true ?_; conv => whnf) | (refine Both.lit_false ?_; conv => whnf) | (apply QStep.go; conv => whnf) | (refine Need.au ?_; conv => whnf) | (refine ⟨_, rfl, ?_⟩; conv => whnf) | (refine Both.of_false ?_ ?_; (focus (first | rfl | (simp <;> fail))); conv => whnf) | (refine Both.of_true ?_ ?_; (focus (first | rfl | (simp <;> fail))); conv => whnf)))
    exact ⟨_, _, WeakV.drop rfl, good⟩
  have hl : 64 ≤ s.length := by omega
  have hc := cut10 (s := s) (by omega)
  have hc2 : List.drop (Int.toNat 1) (List.take ((s.length : Nat) : Int).toNat s) = (s.drop 1).take 8 ++ ([s.getD 9 0] ++ s.drop 10) := by
    show List.drop 1 (List.take s.length s) = _
    rw [List.take_length]
    exact hc
  have ha : ((s.drop 1).take 8).length = 8 := by rw [List.length_take, List.length_drop]; omega
  have hle : ((s.drop 1).take 8 ++ ([s.getD 9 0] ++ s.drop 10)).length < 1000000 := by rw [← hc, List.length_drop]; omega
  have hle2 : ([s.getD 9 0] ++ s.drop 10).length < 1000000 := by rw [List.length_append] at hle; omega
  have hcut : 0 ≤ (1 : Int) ∧ (1 : Int) ≤ ((s.length : Nat) : Int) ∧ ((s.length : Nat) : Int) ≤ ((s.length : Nat) : Int) := by omega
  have hgr := hG_rng s
  (conv => whnf)
  (repeat (first | (refine Need.mk hcut ?_; conv => whnf) | (exact Out.same; conv => whnf) | (exact Out1.same; conv => whnf) | (refine QAnd.mk ?_ ?_; conv => whnf) | (apply QStepH.go; conv => whnf) | (refine Both.lit_true ?_; conv => whnf) | (refine Both.lit_false ?_; conv => whnf) | (apply QStep.go; conv => whnf) | (refine Need.au ?_; conv => whnf) | (refine ⟨_, rfl, ?_⟩; conv => whnf)))
  rw [hc2]
  (repeat (first | (exact Out.same; conv => whnf) | (exact Out1.same; conv => whnf) | (refine QAnd.mk ?_ ?_; conv => whnf) | (apply QStepH.go; conv => whnf) | (refine Both.lit_true ?_; conv => whnf) | (refine Both.lit_false ?_; conv => whnf) | (apply QStep.go; conv => whnf) | (refine Need.au ?_; conv => whnf) | (refine ⟨_, rfl, ?_⟩; conv => whnf) | (refine CallVC.auto rnew_k ?_; conv => whnf)))
  refine CallVC.auto rnumA_k ⟨_, _, rfl, rfl, ha, hle, ?_⟩
  (conv => whnf)
  (repeat (first | (exact Out.same; conv => whnf) | (exact Out1.same; conv => whnf) | (refine QAnd.mk ?_ ?_; conv => whnf) | (apply QStepH.go; conv => whnf) | (refine Both.lit_true ?_; conv => whnf) | (refine Both.lit_false ?_; conv => whnf) | (apply QStep.go; conv => whnf) | (refine Need.au ?_; conv => whnf) | (refine ⟨_, rfl, ?_⟩; conv => whnf)))
  refine CallVC.auto rbyteA_k ⟨_, _, rfl, rfl, hle2, ?_⟩
  (conv => whnf)
  (repeat (first | (exact Out.same; conv => whnf) | (exact Out1.same; conv => whnf) | (refine QAnd.mk ?_ ?_; conv => whnf) | (apply QStepH.go; conv => whnf) | (refine Both.lit_true ?_; conv => whnf) | (refine Both.lit_false ?_; conv => whnf) | (apply QStep.go; conv => whnf) | (refine Need.au ?_; conv => whnf) | (refine ⟨_, rfl, ?_⟩; conv => whnf)))
  refine CallVC.auto hput_k (Need.mk hgr ?_)
  intro back e hbk
  have hbk : (back, e) = hRes z (hG s) (hS s) := hbk
  (conv => whnf)
  (repeat (first | (exact Out.same; conv => whnf) | (exact Out1.same; conv => whnf) | (refine QAnd.mk ?_ ?_; conv => whnf) | (apply QStepH.go; conv => whnf) | (refine Both.lit_true ?_; conv => whnf) | (refine Both.lit_false ?_; conv => whnf) | (apply QStep.go; conv => whnf) | (refine Need.au ?_; conv => whnf) | (refine ⟨_, rfl, ?_⟩; conv => whnf)))
  refine Both.dec_not (fun h2 => ?_) (fun h2 => ?_)
  · have good := h 0 0 5 (by rw [hGet, if_neg (by rw [← hb]; decide), if_neg (by simpa using h1), if_neg (by rw [hr]; decide), if_neg (fun h9 => h2 (by rw [h9] at hbk; cases hbk; rfl))])
    (conv => whnf)
    (repeat (first | (exact Out.same; conv => whnf) | (exact Out1.same; conv => whnf) | (refine QAnd.mk ?_ ?_; conv => whnf) | (apply QStepH.go; conv => whnf) | (refine Both.lit_true ?_; conv => whnf) | (refine Both.lit_false ?_; conv => whnf) | (apply QStep.go; conv => whnf) | (refine Need.au ?_; conv => whnf) | (refine ⟨_, rfl, ?_⟩; conv => whnf) | (refine Both.of_false ?_ ?_; (focus (first | rfl | (simp <;> fail))); conv => whnf) | (refine Both.of_true ?_ ?_; (focus (first | rfl | (simp <;> fail))); conv => whnf)))
    exact ⟨_, _, WeakV.drop rfl, good⟩
  (conv => whnf)
  (repeat (first | (exact Out.same; conv => whnf) | (exact Out1.same; conv => whnf) | (refine QAnd.mk ?_ ?_; conv => whnf) | (apply QStepH.go; conv => whnf) | (refine Both.lit_true ?_; conv => whnf) | (refine Both.lit_false ?_; conv => whnf) | (apply QStep.go; conv => whnf) | (refine Need.au ?_; conv => whnf) | (refine ⟨_, rfl, ?_⟩; conv => whnf)))
  refine Both.dec_not (fun h3 => ?_) (fun h3 => ?_)
  · have good := h 0 0 5 (by rw [hGet, if_neg (by rw [← hb]; decide), if_neg (by simpa using h1), if_neg (by rw [hr]; decide), if_neg (fun h9 => h3 (by rw [h9] at hbk; cases hbk; rfl))])
    (conv => whnf)
    (repeat (first | (exact Out.same; conv => whnf) | (exact Out1.same; conv => whnf) | (refine QAnd.mk ?_ ?_; conv => whnf) | (apply QStepH.go; conv => whnf) | (refine Both.lit_true ?_; conv => whnf) | (refine Both.lit_false ?_; conv => whnf) | (apply QStep.go; conv => whnf) | (refine Need.au ?_; conv => whnf) | (refine ⟨_, rfl, ?_⟩; conv => whnf) | (refine Both.of_false ?_ ?_; (focus (first | rfl | (simp <;> fail))); conv => whnf) | (refine Both.of_true ?_ ?_; (focus (first | rfl | (simp <;> fail))); conv => whnf)))
    exact ⟨_, _, WeakV.drop rfl, good⟩
  have good := h (hG s) (hS s) 0 (by rw [hGet, if_neg (by rw [← hb]; decide), if_neg (by simpa using h1), if_neg (by rw [hr]; decide), if_pos (by rw [← hbk, h2, h3])])
  (conv => whnf)
  (repeat (first | (exact Out.same; conv => whnf) | (exact Out1.same; conv => whnf) | (refine QAnd.mk ?_ ?_; conv => whnf) | (apply QStepH.go; conv => whnf) | (refine Both.lit_true ?_; conv => whnf) | (refine Both.lit_false ?_; conv => whnf) | (apply QStep.go; conv => whnf) | (refine Need.au ?_; conv => whnf) | (refine ⟨_, rfl, ?_⟩; conv => whnf) | (refine Both.of_false ?_ ?_; (focus (first | rfl | (simp <;> fail))); conv => whnf) | (refine Both.of_true ?_ ?_; (focus (first | rfl | (simp <;> fail))); conv => whnf)))
  exact ⟨_, _, WeakV.drop rfl, good⟩
theorem hget_k : Contract Tryz.prog [] 67 hgetS := ⟨⟨⟨_, rfl, rfl, rfl⟩⟩, hget_c⟩
end Go.LX
end
section
set_option maxRecDepth 100000
set_option maxHeartbeats 1000000
set_option autoImplicit false
set_option linter.unusedVariables false
set_option linter.unusedSimpArgs false
namespace Go.LX
open Go.Proofs

def hStep (z : Int) (x : (Int × Int) × Int) (k : Nat) (s : List UInt8) : (Int × Int) × Int :=
  if (hGet z s).2 = 0 ∧ x.1.1 < (hGet z s).1.1 then ((hGet z s).1, (k : Int)) else x
def hNew (z : Int) (l : List (List UInt8)) : Nat → (Int × Int) × Int
  | 0 => ((0, 0), -1)
  | k + 1 => hStep z (hNew z l k) k (l.getD k [])
theorem hGet_zero (z : Int) (s : List UInt8) : ((hGet z s).2 = 0 ∧ 0 < (hGet z s).1.1 ∧ 0 ≤ (hGet z s).1.2) ∨ ((hGet z s).2 ≠ 0 ∧ (hGet z s).1 = (0, 0)) := by
  unfold hGet
  split
  · exact .inr ⟨by decide, rfl⟩
  split
  · exact .inr ⟨by decide, rfl⟩
  split
  · exact .inr ⟨by decide, rfl⟩
  split
  · rename_i h
    refine .inl ⟨rfl, ?_, (hS_rng s).1⟩
    show 0 < hG s
    unfold hRes at h
    split at h
    · rename_i hk
      have := of_decide_eq_true hk
      have := (hG_rng s).1
      omega
    · cases h
  · exact .inr ⟨by decide, rfl⟩
theorem hGet_rng (z : Int) (s : List UInt8) : 0 ≤ (hGet z s).1.1 ∧ (hGet z s).1.1 < 18446744073709551616 := by
  have := hG_rng s
  unfold hGet
  (repeat' split) <;> first | exact this | exact ⟨by decide, by decide⟩
theorem hNew_at (z : Int) (l : List (List UInt8)) : ∀ k, ((hNew z l k).2 < 0 ∧ (hNew z l k).1 = (0, 0)) ∨ 0 ≤ (hNew z l k).2
  | 0 => .inl ⟨by show (-1 : Int) < 0; omega, rfl⟩
  | k + 1 => by
    rw [hNew, hStep]
    split
    · exact .inr (by show (0 : Int) ≤ (k : Int); omega)
    · exact hNew_at z l k
def hnewS : Spec := fun args H Q => match args, H with
  | [.int .i64 z, .sl 1 n cs f], [] => ∃ l : List (List UInt8), n = l.length ∧ cs = l.map CV.str ∧ l.length ≤ 1000 ∧ (∀ s ∈ l, s.length < 1000000) ∧ (∀ g sg e, ((g, sg), e) = hNew z l l.length → Q (.tuple [.agg [.int .u64 g, .int .i64 sg], .int .i64 e]) [])
  | _, _ => False
theorem strs_at (l : List (List UInt8)) (k : Nat) (hk : k < l.length) : (l.map CV.str)[((k : Int)).toNat]? = some (.str (l.getD k [])) := by
  show (l.map CV.str)[k]? = _
  rw [List.getElem?_map, List.getElem?_eq_getElem hk, List.getD_eq_getElem?_getD, List.getElem?_eq_getElem hk]
  rfl
theorem getD_lt {l : List (List UInt8)} (h : ∀ s ∈ l, s.length < 1000000) {k : Nat} (hk : k < l.length) : (l.getD k []).length < 1000000 := by
  rw [List.getD_eq_getElem?_getD, List.getElem?_eq_getElem hk]
  exact h _ (List.getElem_mem hk)
theorem hnew_c : Meets Tryz.prog [] 44 hnewS := by
  refine meets_of Γok Tryz.func44 rfl ?_
  intro args H Q h
  unfold hnewS at h
  split at h
  case h_2 => exact h.elim
  rename_i z n cs f
  obtain ⟨l, rfl, rfl, hl, hs, h⟩ := h
  (refine sx_sound Γok _ ?_; conv => whnf)
  (repeat (first | (exact Out.same; conv => whnf) | (exact Out1.same; conv => whnf) | (refine QAnd.mk ?_ ?_; conv => whnf) | (apply QStepH.go; conv => whnf) | (refine Both.lit_true ?_; conv => whnf) | (refine Both.lit_false ?_; conv => whnf) | (apply QStep.go; conv => whnf) | (refine Need.au ?_; conv => whnf) | (refine ⟨_, rfl, ?_⟩; conv => whnf)))
  refine loop_rule (fun k : Nat => ⟨[.int .i64 z, .any, .any, .any, .ptr 0 0, .any, .ptr 1 0, .int .i64 (hNew z l k).2, .any, .any, .any, .any, .any, .sl 1 l.length (l.map CV.str) f, .int .i64 (l.length : Int), .int .i64 (k : Int), .any, .any, .any, .any, .any, .any, .any, .any, .any, .any, .any, .any, .any, .any, .any, .any, .any, .any, .any, .any, .any, .any, .any, .any, .any], [.cells [.int .u64 0, .int .i64 0] 72, .cells [.int .u64 (hNew z l k).1.1, .int .i64 (hNew z l k).1.2] 72]⟩) (fun k => k ≤ l.length) (fun k => l.length - k) 0 (by omega) (Weak.auto ?_) ?_
  · (repeat' ((conv => whnf); first | exact True.intro | (refine And.intro ?_ ?_)))
    all_goals first | rfl | exact .eq rfl
  intro k hk
  (refine sx_sound Γok _ ?_; conv => whnf)
  refine Both.dec (fun hlt => ?_) (fun hge => ?_)
  rotate_left
  · have hke : k = l.length := by omega
    subst hke
    (conv => whnf)
    (repeat (first | (exact Out.same; conv => whnf) | (exact Out1.same; conv => whnf) | (refine QAnd.mk ?_ ?_; conv => whnf) | (apply QStepH.go; conv => whnf) | (refine Both.lit_true ?_; conv => whnf) | (refine Both.lit_false ?_; conv => whnf) | (apply QStep.go; conv => whnf) | (refine Need.au ?_; conv => whnf) | (refine ⟨_, rfl, ?_⟩; conv => whnf)))
    exact ⟨_, _, WeakV.drop rfl, h _ _ _ rfl⟩
  have hkl : k < l.length := by omega
  have hx := strs_at l k hkl
  have hsl := getD_lt hs hkl
  have hwr : IntKind.i64.wrap ((k : Int) + 1) = ((k + 1 : Nat) : Int) := by rw [wrap_i64 (by omega) (by omega)]; rfl
  have hn : hNew z l (k + 1) = hStep z (hNew z l k) k (l.getD k []) := rfl
  have hgz := hGet_zero z (l.getD k [])
  unfold hStep at hn
  (conv => whnf)
  (repeat (first | (refine ⟨_, hx, ?_⟩; conv => whnf) | (exact Out.same; conv => whnf) | (exact Out1.same; conv => whnf) | (refine QAnd.mk ?_ ?_; conv => whnf) | (apply QStepH.go; conv => whnf) | (refine Both.lit_true ?_; conv => whnf) | (refine Both.lit_false ?_; conv => whnf) | (apply QStep.go; conv => whnf) | (refine Need.au ?_; conv => whnf) | (refine ⟨_, rfl, ?_⟩; conv => whnf)))
  refine CallVC.auto hget_k (Need.mk hsl ?_)
  intro g sg e he
  rw [← he] at hn hgz
  dsimp only at hn hgz
  (conv => whnf)
  (repeat (first | (exact Out.same; conv => whnf) | (exact Out1.same; conv => whnf) | (refine QAnd.mk ?_ ?_; conv => whnf) | (apply QStepH.go; conv => whnf) | (refine Both.lit_true ?_; conv => whnf) | (refine Both.lit_false ?_; conv => whnf) | (apply QStep.go; conv => whnf) | (refine Need.au ?_; conv => whnf) | (refine ⟨_, rfl, ?_⟩; conv => whnf)))
  have fin : ∀ x : (Int × Int) × Int, hNew z l (k + 1) = x → SV.int .i64 x.2 = SV.int .i64 (hNew z l (k + 1)).2 ∧ [SV.int .u64 x.1.1, .int .i64 x.1.2] = [SV.int .u64 (hNew z l (k + 1)).1.1, .int .i64 (hNew z l (k + 1)).1.2] := fun x hx => by
    rw [hx]
    exact ⟨rfl, rfl⟩
  rcases hgz with ⟨he0, hg0, _⟩ | ⟨he0, hg0⟩
  · have hb1 : (!(decide (g = 0) && (decide (sg = 0) && true))) = true := by rw [decide_eq_false (by omega)]; rfl
    refine Both.of_true hb1 ?_
    (conv => whnf)
    (repeat (first | (exact Out.same; conv => whnf) | (exact Out1.same; conv => whnf) | (refine QAnd.mk ?_ ?_; conv => whnf) | (apply QStepH.go; conv => whnf) | (refine Both.lit_true ?_; conv => whnf) | (refine Both.lit_false ?_; conv => whnf) | (apply QStep.go; conv => whnf) | (refine Need.au ?_; conv => whnf) | (refine ⟨_, rfl, ?_⟩; conv => whnf)))
    refine Both.dec (fun h1 => ?_) (fun h1 => ?_)
    · rw [if_pos ⟨he0, h1⟩] at hn
      obtain ⟨f1, f2⟩ := fin _ hn
      (conv => whnf)
      (repeat (first | (exact Out.same; conv => whnf) | (exact Out1.same; conv => whnf) | (refine QAnd.mk ?_ ?_; conv => whnf) | (apply QStepH.go; conv => whnf) | (refine Both.lit_true ?_; conv => whnf) | (refine Both.lit_false ?_; conv => whnf) | (apply QStep.go; conv => whnf) | (refine Need.au ?_; conv => whnf) | (refine ⟨_, rfl, ?_⟩; conv => whnf)))
      refine ⟨k + 1, by omega, by omega, Weak.auto ?_⟩
      (repeat' ((conv => whnf); first | exact True.intro | (refine And.intro ?_ ?_)))
      all_goals first | rfl | exact .eq rfl | exact f1 | exact .eq f2 | exact congrArg (SV.int .i64) hwr
    · rw [if_neg (fun h2 => h1 h2.2)] at hn
      obtain ⟨f1, f2⟩ := fin _ hn
      (conv => whnf)
      (repeat (first | (exact Out.same; conv => whnf) | (exact Out1.same; conv => whnf) | (refine QAnd.mk ?_ ?_; conv => whnf) | (apply QStepH.go; conv => whnf) | (refine Both.lit_true ?_; conv => whnf) | (refine Both.lit_false ?_; conv => whnf) | (apply QStep.go; conv => whnf) | (refine Need.au ?_; conv => whnf) | (refine ⟨_, rfl, ?_⟩; conv => whnf)))
      refine ⟨k + 1, by omega, by omega, Weak.auto ?_⟩
      (repeat' ((conv => whnf); first | exact True.intro | (refine And.intro ?_ ?_)))
      all_goals first | rfl | exact .eq rfl | exact f1 | exact .eq f2 | exact congrArg (SV.int .i64) hwr
  · cases hg0
    rw [if_neg (fun h2 => he0 h2.1)] at hn
    obtain ⟨f1, f2⟩ := fin _ hn
    (repeat (first | (exact Out.same; conv => whnf) | (exact Out1.same; conv => whnf) | (refine QAnd.mk ?_ ?_; conv => whnf) | (apply QStepH.go; conv => whnf) | (refine Both.lit_true ?_; conv => whnf) | (refine Both.lit_false ?_; conv => whnf) | (apply QStep.go; conv => whnf) | (refine Need.au ?_; conv => whnf) | (refine ⟨_, rfl, ?_⟩; conv => whnf) | (refine Both.of_false ?_ ?_; (focus (first | rfl | (simp <;> fail))); conv => whnf) | (refine Both.of_true ?_ ?_; (focus (first | rfl | (simp <;> fail))); conv => whnf)))
    refine ⟨k + 1, by omega, by omega, Weak.auto ?_⟩
    (repeat' ((conv => whnf); first | exact True.intro | (refine And.intro ?_ ?_)))
    all_goals first | rfl | exact .eq rfl | exact f1 | exact .eq f2 | exact congrArg (SV.int .i64) hwr
theorem hnew_k : Contract Tryz.prog [] 44 hnewS := ⟨⟨⟨_, rfl, rfl, rfl⟩⟩, hnew_c⟩
def hNext (g sg : Int) : (Int × Int) × Int := if g = 18446744073709551615 then ((0, 0), 12) else ((g + 1, if sg = 0 then 1 else 0), 0)
def hnextS : Spec := fun args H Q => match args, H with
  | [.agg [.int .u64 g, .int .i64 sg]], [] => Need (0 ≤ g ∧ g < 18446744073709551616) (∀ g' sg' e, ((g', sg'), e) = hNext g sg → Q (.tuple [.agg [.int .u64 g', .int .i64 sg'], .int .i64 e]) [])
  | _, _ => False
theorem hnext_c : Meets Tryz.prog [] 36 hnextS := by
  refine meets_of Γok Tryz.func36 rfl ?_
  intro args H Q h
  unfold hnextS at h
  split at h
  case h_2 => exact h.elim
  rename_i g sg
  obtain ⟨hg, h⟩ := h
  (refine sx_sound Γok _ ?_; conv => whnf)
  (repeat (first | (exact Out.same; conv => whnf) | (exact Out1.same; conv => whnf) | (refine QAnd.mk ?_ ?_; conv => whnf) | (apply QStepH.go; conv => whnf) | (refine Both.lit_true ?_; conv => whnf) | (refine Both.lit_false ?_; conv => whnf) | (apply QStep.go; conv => whnf) | (refine Need.au ?_; conv => whnf) | (refine ⟨_, rfl, ?_⟩; conv => whnf)))
  refine Both.dec (fun h1 => ?_) (fun h1 => ?_)
  · (conv => whnf)
    (repeat (first | (exact Out.same; conv => whnf) | (exact Out1.same; conv => whnf) | (refine QAnd.mk ?_ ?_; conv => whnf) | (apply QStepH.go; conv => whnf) | (refine Both.lit_true ?_; conv => whnf) | (refine Both.lit_false ?_; conv => whnf) | (apply QStep.go; conv => whnf) | (refine Need.au ?_; conv => whnf) | (refine ⟨_, rfl, ?_⟩; conv => whnf)))
    exact ⟨_, _, WeakV.drop rfl, h 0 0 12 (by rw [hNext, if_pos h1])⟩
  have hw : IntKind.u64.wrap (g + 1) = g + 1 := wrap_u64 (by omega) (by omega)
  (conv => whnf)
  (repeat (first | (exact Out.same; conv => whnf) | (exact Out1.same; conv => whnf) | (refine QAnd.mk ?_ ?_; conv => whnf) | (apply QStepH.go; conv => whnf) | (refine Both.lit_true ?_; conv => whnf) | (refine Both.lit_false ?_; conv => whnf) | (apply QStep.go; conv => whnf) | (refine Need.au ?_; conv => whnf) | (refine ⟨_, rfl, ?_⟩; conv => whnf)))
  refine Both.dec (fun h2 => ?_) (fun h2 => ?_)
  · (conv => whnf)
    (repeat (first | (exact Out.same; conv => whnf) | (exact Out1.same; conv => whnf) | (refine QAnd.mk ?_ ?_; conv => whnf) | (apply QStepH.go; conv => whnf) | (refine Both.lit_true ?_; conv => whnf) | (refine Both.lit_false ?_; conv => whnf) | (apply QStep.go; conv => whnf) | (refine Need.au ?_; conv => whnf) | (refine ⟨_, rfl, ?_⟩; conv => whnf)))
    exact ⟨_, _, WeakV.drop rfl, h _ _ _ (by rw [hNext, if_neg h1, if_pos h2, hw])⟩
  · (conv => whnf)
    (repeat (first | (exact Out.same; conv => whnf) | (exact Out1.same; conv => whnf) | (refine QAnd.mk ?_ ?_; conv => whnf) | (apply QStepH.go; conv => whnf) | (refine Both.lit_true ?_; conv => whnf) | (refine Both.lit_false ?_; conv => whnf) | (apply QStep.go; conv => whnf) | (refine Need.au ?_; conv => whnf) | (refine ⟨_, rfl, ?_⟩; conv => whnf)))
    exact ⟨_, _, WeakV.drop rfl, h _ _ _ (by rw [hNext, if_neg h1, if_neg h2, hw])⟩
theorem hnext_k : Contract Tryz.prog [] 36 hnextS := ⟨⟨⟨_, rfl, rfl, rfl⟩⟩, hnext_c⟩
theorem rnext_c : Meets Tryz.prog [] 75 hnextS := by
  refine meets_of Γok Tryz.func75 rfl ?_
  intro args H Q h
  unfold hnextS at h
  split at h
  case h_2 => exact h.elim
  rename_i g sg
  obtain ⟨hg, h⟩ := h
  have hw0 : IntKind.u64.wrap (g + 1) = 0 ↔ g = 18446744073709551615 := by rw [wrap_u64_mod]; omega
  (refine sx_sound Γok _ ?_; conv => whnf)
  (repeat (first | (exact Out.same; conv => whnf) | (exact Out1.same; conv => whnf) | (refine QAnd.mk ?_ ?_; conv => whnf) | (apply QStepH.go; conv => whnf) | (refine Both.lit_true ?_; conv => whnf) | (refine Both.lit_false ?_; conv => whnf) | (apply QStep.go; conv => whnf) | (refine Need.au ?_; conv => whnf) | (refine ⟨_, rfl, ?_⟩; conv => whnf)))
  refine Both.dec (fun h1 => ?_) (fun h1 => ?_)
  · (conv => whnf)
    (repeat (first | (exact Out.same; conv => whnf) | (exact Out1.same; conv => whnf) | (refine QAnd.mk ?_ ?_; conv => whnf) | (apply QStepH.go; conv => whnf) | (refine Both.lit_true ?_; conv => whnf) | (refine Both.lit_false ?_; conv => whnf) | (apply QStep.go; conv => whnf) | (refine Need.au ?_; conv => whnf) | (refine ⟨_, rfl, ?_⟩; conv => whnf)))
    exact ⟨_, _, WeakV.drop rfl, h 0 0 12 (by rw [hNext, if_pos (hw0.1 h1)])⟩
  have h1 : ¬ g = 18446744073709551615 := fun h9 => h1 (hw0.2 h9)
  have hw : IntKind.u64.wrap (g + 1) = g + 1 := wrap_u64 (by omega) (by omega)
  (conv => whnf)
  (repeat (first | (exact Out.same; conv => whnf) | (exact Out1.same; conv => whnf) | (refine QAnd.mk ?_ ?_; conv => whnf) | (apply QStepH.go; conv => whnf) | (refine Both.lit_true ?_; conv => whnf) | (refine Both.lit_false ?_; conv => whnf) | (apply QStep.go; conv => whnf) | (refine Need.au ?_; conv => whnf) | (refine ⟨_, rfl, ?_⟩; conv => whnf)))
  refine Both.dec (fun h2 => ?_) (fun h2 => ?_)
  · (conv => whnf)
    (repeat (first | (exact Out.same; conv => whnf) | (exact Out1.same; conv => whnf) | (refine QAnd.mk ?_ ?_; conv => whnf) | (apply QStepH.go; conv => whnf) | (refine Both.lit_true ?_; conv => whnf) | (refine Both.lit_false ?_; conv => whnf) | (apply QStep.go; conv => whnf) | (refine Need.au ?_; conv => whnf) | (refine ⟨_, rfl, ?_⟩; conv => whnf)))
    exact ⟨_, _, WeakV.drop rfl, h _ _ _ (by rw [hNext, if_neg h1, if_pos h2, hw])⟩
  · (conv => whnf)
    (repeat (first | (exact Out.same; conv => whnf) | (exact Out1.same; conv => whnf) | (refine QAnd.mk ?_ ?_; conv => whnf) | (apply QStepH.go; conv => whnf) | (refine Both.lit_true ?_; conv => whnf) | (refine Both.lit_false ?_; conv => whnf) | (apply QStep.go; conv => whnf) | (refine Need.au ?_; conv => whnf) | (refine ⟨_, rfl, ?_⟩; conv => whnf)))
    exact ⟨_, _, WeakV.drop rfl, h _ _ _ (by rw [hNext, if_neg h1, if_neg h2, hw])⟩
theorem rnext_k : Contract Tryz.prog [] 75 hnextS := ⟨⟨⟨_, rfl, rfl, rfl⟩⟩, rnext_c⟩
def h6rsealS : Spec := fun args H Q => match args, H with
  | [.str s], [] => ∃ t : List UInt8, s = t ∧ t.length < 1000000 ∧ Q (.str (Crc.seal_ t)) []
  | _, _ => False
theorem h6rseal_k : Contract Tryz.prog [] 102 h6rsealS := seal2_k.imp fun args H Q h => by
  unfold h6rsealS at h
  split at h
  case h_2 => exact h.elim
  obtain ⟨t, rfl, hl, h⟩ := h
  exact ⟨hl, h⟩
theorem rput_c : Meets Tryz.prog [] 76 hputS := by
  refine meets_of Γok Tryz.func76 rfl ?_
  intro args H Q h
  unfold hputS at h
  split at h
  case h_2 => exact h.elim
  rename_i z g sg
  obtain ⟨hg, h⟩ := h
  have bad : ¬ (64 ≤ z ∧ z ≤ 512 ∧ g ≠ 0 ∧ 0 ≤ sg ∧ sg ≤ 1) → Q (.tuple [.str [], .int .i64 1]) [] := fun h0 => h [] 1 (by rw [hRes, hOk, decide_eq_false h0]; rfl)
  (refine sx_sound Γok _ ?_; conv => whnf)
  (repeat (first | (exact Out.same; conv => whnf) | (exact Out1.same; conv => whnf) | (refine QAnd.mk ?_ ?_; conv => whnf) | (apply QStepH.go; conv => whnf) | (refine Both.lit_true ?_; conv => whnf) | (refine Both.lit_false ?_; conv => whnf) | (apply QStep.go; conv => whnf) | (refine Need.au ?_; conv => whnf) | (refine ⟨_, rfl, ?_⟩; conv => whnf)))
  refine CallVC.auto rright5_k ?_
  intro b hb
  cases b
  · have h0 := of_decide_eq_false hb.symm
    (conv => whnf)
    (repeat (first | (exact Out.same; conv => whnf) | (exact Out1.same; conv => whnf) | (refine QAnd.mk ?_ ?_; conv => whnf) | (apply QStepH.go; conv => whnf) | (refine Both.lit_true ?_; conv => whnf) | (refine Both.lit_false ?_; conv => whnf) | (apply QStep.go; conv => whnf) | (refine Need.au ?_; conv => whnf) | (refine ⟨_, rfl, ?_⟩; conv => whnf) | (refine Both.of_false ?_ ?_; (focus (first | rfl | (simp <;> fail))); conv => whnf) | (refine Both.of_true ?_ ?_; (focus (first | rfl | (simp <;> fail))); conv => whnf)))
    exact ⟨_, _, WeakV.drop rfl, bad (fun h1 => h0 ⟨h1.1, h1.2.1⟩)⟩
  have h0 := of_decide_eq_true hb.symm
  (conv => whnf)
  (repeat (first | (exact Out.same; conv => whnf) | (exact Out1.same; conv => whnf) | (refine QAnd.mk ?_ ?_; conv => whnf) | (apply QStepH.go; conv => whnf) | (refine Both.lit_true ?_; conv => whnf) | (refine Both.lit_false ?_; conv => whnf) | (apply QStep.go; conv => whnf) | (refine Need.au ?_; conv => whnf) | (refine ⟨_, rfl, ?_⟩; conv => whnf) | (refine Both.of_false ?_ ?_; (focus (first | rfl | (simp <;> fail))); conv => whnf) | (refine Both.of_true ?_ ?_; (focus (first | rfl | (simp <;> fail))); conv => whnf)))
  refine Both.dec (fun h1 => ?_) (fun h1 => ?_)
  · (conv => whnf)
    (repeat (first | (exact Out.same; conv => whnf) | (exact Out1.same; conv => whnf) | (refine QAnd.mk ?_ ?_; conv => whnf) | (apply QStepH.go; conv => whnf) | (refine Both.lit_true ?_; conv => whnf) | (refine Both.lit_false ?_; conv => whnf) | (apply QStep.go; conv => whnf) | (refine Need.au ?_; conv => whnf) | (refine ⟨_, rfl, ?_⟩; conv => whnf) | (refine Both.of_false ?_ ?_; (focus (first | rfl | (simp <;> fail))); conv => whnf) | (refine Both.of_true ?_ ?_; (focus (first | rfl | (simp <;> fail))); conv => whnf)))
    exact ⟨_, _, WeakV.drop rfl, bad (by omega)⟩
  obtain ⟨zn, rfl⟩ := Int.eq_ofNat_of_zero_le (show 0 ≤ z by omega)
  have core : 0 ≤ sg ∧ sg ≤ 1 → (hOk (zn : Int) g sg = true) := fun h9 => decide_eq_true ⟨h0.1, h0.2, by omega, h9.1, h9.2⟩
  have good := fun h9 => h (hPut zn g sg) 0 (by rw [hRes, if_pos (core h9)]; rfl)
  have hlen := hRaw_len (z := zn) (by omega) g sg
  (conv => whnf)
  (repeat (first | (exact Out.same; conv => whnf) | (exact Out1.same; conv => whnf) | (refine QAnd.mk ?_ ?_; conv => whnf) | (apply QStepH.go; conv => whnf) | (refine Both.lit_true ?_; conv => whnf) | (refine Both.lit_false ?_; conv => whnf) | (apply QStep.go; conv => whnf) | (refine Need.au ?_; conv => whnf) | (refine ⟨_, rfl, ?_⟩; conv => whnf)))
  have hcase : 0 ≤ sg ∧ sg ≤ 1 → ∀ t : List SV, True := fun _ _ => trivial
  have hv1 : g = ((g.toNat : Nat) : Int) := by omega
  have hv2 : g.toNat < 18446744073709551616 := by omega
  have h8 : (8 : Nat) ≤ 8 := by omega
  have h81 : (1 : Nat) ≤ 8 := by omega
  have tail : ∀ (hsg : 0 ≤ sg ∧ sg ≤ 1), IntKind.u64.wrap sg = ((sg.toNat : Nat) : Int) ∧ sg.toNat < 18446744073709551616 := fun h9 => ⟨by rw [wrap_u64 (by omega) (by omega)]; omega, by omega⟩
  have hlb : ((⟨#[72]⟩ : ByteArray).data.toList ++ beb g.toNat 8 ++ beb sg.toNat 1).length = 10 := by
    rw [List.length_append, List.length_append, beb_length, beb_length]
    rfl
  have hw1 : IntKind.i64.wrap ((zn : Int) - 4) = ((zn - 4 : Nat) : Int) := by rw [wrap_i64 (by omega) (by omega)]; omega
  have hw2 : IntKind.i64.wrap (((zn - 4 : Nat) : Int) - ((((⟨#[72]⟩ : ByteArray).data.toList ++ beb g.toNat 8 ++ beb sg.toNat 1).length : Nat) : Int)) = ((zn - 14 : Nat) : Int) := by
    rw [hlb, wrap_i64 (by omega) (by omega)]
    omega
  have hmk : ((zn - 14 : Nat) : Int) = ((zn - 14 : Nat) : Int) ∧ 0 ≤ ((zn - 14 : Nat) : Int) ∧ 1 * ((zn - 14 : Nat) : Int) ≤ 140737488355328 ∧ ((zn - 14 : Nat) : Int) ≤ 140737488355328 := by omega
  have hcv : (zerosOf 1 ((zn - 14 : Nat) : Int).toNat [CV.int .u8 0]).length = ((zn - 14 : Nat) : Int).toNat ∧ ∀ x ∈ zerosOf 1 ((zn - 14 : Nat) : Int).toNat [CV.int .u8 0], isU8 x = true := by
    refine ⟨List.length_replicate, fun x hx => ?_⟩
    rw [List.eq_of_mem_replicate hx]
    rfl
  have hcat : ((⟨#[72]⟩ : ByteArray).data.toList ++ beb g.toNat 8 ++ beb sg.toNat 1).length + ((zerosOf 1 ((zn - 14 : Nat) : Int).toNat [CV.int .u8 0]).map cvByte).length ≤ 9223372036854775807 := by
    rw [hlb]
    show 10 + ((List.replicate (zn - 14) (CV.int .u8 0)).map cvByte).length ≤ _
    rw [List.length_map, List.length_replicate]
    omega
  have hcat1 : ((⟨#[72]⟩ : ByteArray).data.toList).length + (beb g.toNat 8).length ≤ 9223372036854775807 := by rw [beb_length]; decide
  have hcat2 : ((⟨#[72]⟩ : ByteArray).data.toList ++ beb g.toNat 8).length + (beb sg.toNat 1).length ≤ 9223372036854775807 := by rw [List.length_append, beb_length, beb_length]; decide
  have hraw : (⟨#[72]⟩ : ByteArray).data.toList ++ beb g.toNat 8 ++ beb sg.toNat 1 ++ (zerosOf 1 ((zn - 14 : Nat) : Int).toNat [CV.int .u8 0]).map cvByte = hRaw zn g sg := by
    show [72] ++ beb g.toNat 8 ++ beb sg.toNat 1 ++ (List.replicate (zn - 14) (CV.int .u8 0)).map cvByte = _
    have h1 : beb sg.toNat 1 = [UInt8.ofNat sg.toNat] := by simp [beb]
    have h2 : (List.replicate (zn - 14) (CV.int .u8 0)).map cvByte = List.replicate (zn - 14) (0 : UInt8) := by
      rw [List.map_replicate]
      rfl
    rw [h1, h2]
    rfl
  refine Both.dec_not (fun h2 => ?_) (fun h2 => ?_)
  · (conv => whnf)
    (repeat (first | (exact Out.same; conv => whnf) | (exact Out1.same; conv => whnf) | (refine QAnd.mk ?_ ?_; conv => whnf) | (apply QStepH.go; conv => whnf) | (refine Both.lit_true ?_; conv => whnf) | (refine Both.lit_false ?_; conv => whnf) | (apply QStep.go; conv => whnf) | (refine Need.au ?_; conv => whnf) | (refine ⟨_, rfl, ?_⟩; conv => whnf)))
    refine Both.dec_not (fun h3 => ?_) (fun h3 => ?_)
    · (conv => whnf)
      (repeat (first | (exact Out.same; conv => whnf) | (exact Out1.same; conv => whnf) | (refine QAnd.mk ?_ ?_; conv => whnf) | (apply QStepH.go; conv => whnf) | (refine Both.lit_true ?_; conv => whnf) | (refine Both.lit_false ?_; conv => whnf) | (apply QStep.go; conv => whnf) | (refine Need.au ?_; conv => whnf) | (refine ⟨_, rfl, ?_⟩; conv => whnf) | (refine Both.of_false ?_ ?_; (focus (first | rfl | (simp <;> fail))); conv => whnf) | (refine Both.of_true ?_ ?_; (focus (first | rfl | (simp <;> fail))); conv => whnf)))
      exact ⟨_, _, WeakV.drop rfl, bad (by omega)⟩
    · have good := good (by omega)
      obtain ⟨hs1, hs2⟩ := tail (by omega)
      (conv => whnf)
      (repeat (first | (exact Out.same; conv => whnf) | (exact Out1.same; conv => whnf) | (refine QAnd.mk ?_ ?_; conv => whnf) | (apply QStepH.go; conv => whnf) | (refine Both.lit_true ?_; conv => whnf) | (refine Both.lit_false ?_; conv => whnf) | (apply QStep.go; conv => whnf) | (refine Need.au ?_; conv => whnf) | (refine ⟨_, rfl, ?_⟩; conv => whnf) | (refine Both.of_false ?_ ?_; (focus (first | rfl | (simp <;> fail))); conv => whnf) | (refine Both.of_true ?_ ?_; (focus (first | rfl | (simp <;> fail))); conv => whnf)))
      (refine DrawVC.any Γok (by kernel_rfl) (by kernel_rfl) (by kernel_rfl) (by rfl) ?_; conv => whnf)
      (repeat (first | (refine CallVC.auto rb_k ⟨g.toNat, 8, hv1, hv2, rfl, h8, ?_⟩; conv => whnf) | (refine CallVC.auto rb_k ⟨sg.toNat, 1, hs1, hs2, rfl, h81, ?_⟩; conv => whnf) | (refine Need.mk hcat1 ?_; conv => whnf) | (refine Need.mk hcat2 ?_; conv => whnf) | (exact Out.same; conv => whnf) | (exact Out1.same; conv => whnf) | (refine QAnd.mk ?_ ?_; conv => whnf) | (apply QStepH.go; conv => whnf) | (refine Both.lit_true ?_; conv => whnf) | (refine Both.lit_false ?_; conv => whnf) | (apply QStep.go; conv => whnf) | (refine Need.au ?_; conv => whnf) | (refine ⟨_, rfl, ?_⟩; conv => whnf)))
      rw [hw1, hw2]
      (repeat (first | (refine Need.mk hmk ?_; conv => whnf) | (refine Need.mk hcv ?_; conv => whnf) | (refine Need.mk hcat ?_; conv => whnf) | (exact Out.same; conv => whnf) | (exact Out1.same; conv => whnf) | (refine QAnd.mk ?_ ?_; conv => whnf) | (apply QStepH.go; conv => whnf) | (refine Both.lit_true ?_; conv => whnf) | (refine Both.lit_false ?_; conv => whnf) | (apply QStep.go; conv => whnf) | (refine Need.au ?_; conv => whnf) | (refine ⟨_, rfl, ?_⟩; conv => whnf)))
      refine CallVC.auto h6rseal_k ⟨_, hraw, by omega, ?_⟩
      (conv => whnf)
      (repeat (first | (exact Out.same; conv => whnf) | (exact Out1.same; conv => whnf) | (refine QAnd.mk ?_ ?_; conv => whnf) | (apply QStepH.go; conv => whnf) | (refine Both.lit_true ?_; conv => whnf) | (refine Both.lit_false ?_; conv => whnf) | (apply QStep.go; conv => whnf) | (refine Need.au ?_; conv => whnf) | (refine ⟨_, rfl, ?_⟩; conv => whnf)))
      exact ⟨_, _, WeakV.drop rfl, good⟩
  · have good := good (by omega)
    obtain ⟨hs1, hs2⟩ := tail (by omega)
    (conv => whnf)
    (repeat (first | (exact Out.same; conv => whnf) | (exact Out1.same; conv => whnf) | (refine QAnd.mk ?_ ?_; conv => whnf) | (apply QStepH.go; conv => whnf) | (refine Both.lit_true ?_; conv => whnf) | (refine Both.lit_false ?_; conv => whnf) | (apply QStep.go; conv => whnf) | (refine Need.au ?_; conv => whnf) | (refine ⟨_, rfl, ?_⟩; conv => whnf) | (refine Both.of_false ?_ ?_; (focus (first | rfl | (simp <;> fail))); conv => whnf) | (refine Both.of_true ?_ ?_; (focus (first | rfl | (simp <;> fail))); conv => whnf)))
    (refine DrawVC.any Γok (by kernel_rfl) (by kernel_rfl) (by kernel_rfl) (by rfl) ?_; conv => whnf)
    (repeat (first | (refine CallVC.auto rb_k ⟨g.toNat, 8, hv1, hv2, rfl, h8, ?_⟩; conv => whnf) | (refine CallVC.auto rb_k ⟨sg.toNat, 1, hs1, hs2, rfl, h81, ?_⟩; conv => whnf) | (refine Need.mk hcat1 ?_; conv => whnf) | (refine Need.mk hcat2 ?_; conv => whnf) | (exact Out.same; conv => whnf) | (exact Out1.same; conv => whnf) | (refine QAnd.mk ?_ ?_; conv => whnf) | (apply QStepH.go; conv => whnf) | (refine Both.lit_true ?_; conv => whnf) | (refine Both.lit_false ?_; conv => whnf) | (apply QStep.go; conv => whnf) | (refine Need.au ?_; conv => whnf) | (refine ⟨_, rfl, ?_⟩; conv => whnf)))
    rw [hw1, hw2]
    (repeat (first | (refine Need.mk hmk ?_; conv => whnf) | (refine Need.mk hcv ?_; conv => whnf) | (refine Need.mk hcat ?_; conv => whnf) | (exact Out.same; conv => whnf) | (exact Out1.same; conv => whnf) | (refine QAnd.mk ?_ ?_; conv => whnf) | (apply QStepH.go; conv => whnf) | (refine Both.lit_true ?_; conv => whnf) | (refine Both.lit_false ?_; conv => whnf) | (apply QStep.go; conv => whnf) | (refine Need.au ?_; conv => whnf) | (refine ⟨_, rfl, ?_⟩; conv => whnf)))
    refine CallVC.auto h6rseal_k ⟨_, hraw, by omega, ?_⟩
    (conv => whnf)
    (repeat (first | (exact Out.same; conv => whnf) | (exact Out1.same; conv => whnf) | (refine QAnd.mk ?_ ?_; conv => whnf) | (apply QStepH.go; conv => whnf) | (refine Both.lit_true ?_; conv => whnf) | (refine Both.lit_false ?_; conv => whnf) | (apply QStep.go; conv => whnf) | (refine Need.au ?_; conv => whnf) | (refine ⟨_, rfl, ?_⟩; conv => whnf)))
    exact ⟨_, _, WeakV.drop rfl, good⟩
theorem rput_k : Contract Tryz.prog [] 76 hputS := ⟨⟨⟨_, rfl, rfl, rfl⟩⟩, rput_c⟩
end Go.LX
end
section
set_option maxRecDepth 100000
set_option maxHeartbeats 2000000
set_option autoImplicit false
set_option linter.unusedVariables false
set_option linter.unusedSimpArgs false
namespace Go.LX
open Go.Proofs

structure W7 where
  g : Nat
  sg : Int
  slot : Int
  used : Nat
  sn : Nat
  ready : Bool
  broken : Bool
structure W7.Ok (w : W7) (D : Dsk) : Prop where
  sc : 4 ≤ D.sc
  g : 1 ≤ w.g ∧ w.g < 18446744073709551616
  sg : 0 ≤ w.sg ∧ w.sg ≤ 1
  slot : 0 ≤ w.slot ∧ w.slot ≤ 1
  used : w.used ≤ segV D
  sn : w.sn ≤ w.used
def wCells (w : W7) : LObj := .cells [.ptr 1 0, .int .u64 (w.g : Int), .int .i64 w.sg, .int .i64 w.slot, .int .i64 (w.used : Int), .int .u64 (w.sn : Int), .bool w.ready, .bool w.broken] 74
def wB (D : Dsk) (w : W7) : List LObj := [wCells w, .cells [.int .i64 (D.sz : Int), .int .i64 (D.sc : Int), .own 2, .own 3, .int .i64 (D.ar : Int)] 79, .own 9 1 D.st.length (D.st.map CV.str) true, .own 91 2 D.buf.length (D.buf.flatMap wrEn) true]
def wA (D : Dsk) (w : W7) : List LObj := [wCells w, .cells [.int .i64 (D.sz : Int), .int .i64 (D.sc : Int), .own 2, .own 4, .int .i64 (D.ar : Int)] 79, .own 9 1 D.st.length (D.st.map CV.str) true, .gone, .own 91 2 D.buf.length (D.buf.flatMap wrEn) true]
def wIn (H : List LObj) (k : Dsk → W7 → Prop) : Prop :=
  match H with
  | [.cells [.ptr 1 0, .int .u64 g, .int .i64 sg, .int .i64 sl, .int .i64 us, .int .u64 sn, .bool rd, .bool br] 74, .cells [.int .i64 z, .int .i64 c, .own 2, .own 3, .int .i64 a] 79, .own 9 1 n xs true, .own 91 2 m ys true] =>
    ∃ (D : Dsk) (w : W7), (g = w.g ∧ sg = w.sg ∧ sl = w.slot ∧ us = w.used ∧ sn = w.sn ∧ rd = w.ready ∧ br = w.broken) ∧ (z = D.sz ∧ c = D.sc ∧ a = D.ar ∧ n = D.st.length ∧ xs = D.st.map CV.str ∧ m = D.buf.length ∧ ys = D.buf.flatMap wrEn) ∧ D.Ok ∧ w.Ok D ∧ k D w
  | _ => False
theorem wIn_out {H : List LObj} {k : Dsk → W7 → Prop} (h : wIn H k) : ∃ (D : Dsk) (w : W7), H = wB D w ∧ D.Ok ∧ w.Ok D ∧ k D w := by
  unfold wIn at h
  split at h
  case h_2 => exact h.elim
  obtain ⟨D, w, ⟨rfl, rfl, rfl, rfl, rfl, rfl, rfl⟩, ⟨rfl, rfl, rfl, rfl, rfl, rfl, rfl⟩, h1, h2, h3⟩ := h
  exact ⟨D, w, rfl, h1, h2, h3⟩
theorem wIn_mk {D : Dsk} {w : W7} {k : Dsk → W7 → Prop} (h1 : D.Ok) (h2 : w.Ok D) (h3 : k D w) : wIn (wB D w) k := ⟨D, w, ⟨rfl, rfl, rfl, rfl, rfl, rfl, rfl⟩, ⟨rfl, rfl, rfl, rfl, rfl, rfl, rfl⟩, h1, h2, h3⟩
def sizeDS : Spec := fun args H Q => match args, H with
  | [.agg [.int .i64 z, .int .i64 c]], [] => Q (.int .i64 z) []
  | _, _ => False
theorem sizeD_k : Contract Tryz.prog [] 34 sizeDS := size_k.imp fun args H Q h => by
  unfold sizeDS at h
  split at h
  case h_2 => exact h.elim
  exact h
def sectDS : Spec := fun args H Q => match args, H with
  | [.agg [.int .i64 z, .int .i64 c]], [] => Q (.int .i64 c) []
  | _, _ => False
theorem sectD_k : Contract Tryz.prog [] 42 sectDS := sectors_k.imp fun args H Q h => by
  unfold sectDS at h
  split at h
  case h_2 => exact h.elim
  exact h
def partsES : Spec := fun args H Q => match args, H with
  | [.int .i64 size, .int .i64 n], [] => ∀ m : Nat, partsV size n = m → Q (.int .i64 ((m : Nat) : Int)) []
  | _, _ => False
theorem partsE_k : Contract Tryz.prog [] 33 partsES := parts_k.imp fun args H Q h => by
  unfold partsES at h
  split at h
  case h_2 => exact h.elim
  exact h _ rfl
def fitsW (D : Dsk) (w : W7) (b : Int) : Prop := 0 < partsV D.sz b ∧ partsV D.sz b ≤ segV D - w.used
instance (D : Dsk) (w : W7) (b : Int) : Decidable (fitsW D w b) := inferInstanceAs (Decidable (_ ∧ _))
def fitsWS : Spec := fun args H Q => match args with
  | [.ptr 0 0, .int .i64 b] => wIn H fun D w => Q (.bool (decide (fitsW D w b))) (wB D w)
  | _ => False
theorem fitsW_c : Meets Tryz.prog [] 11 fitsWS := by
  refine meets_of Γok Tryz.func11 rfl ?_
  intro args H Q h
  unfold fitsWS at h
  split at h
  case h_2 => exact h.elim
  rename_i b
  obtain ⟨D, w, rfl, ho, hw, h⟩ := wIn_out h
  have hs := ho.sc
  have hsc := hw.sc
  have hu := hw.used
  have hv : segV D ≤ 2047 := by unfold segV; omega
  have hws : IntKind.i64.wrap (((segV D : Nat) : Int) - ((w.used : Nat) : Int)) = ((segV D - w.used : Nat) : Int) := by rw [wrap_i64 (by omega) (by omega)]; omega
  obtain ⟨n, hn⟩ : ∃ n, partsV D.sz b = n := ⟨_, rfl⟩
  have hfin : ∀ c : Bool, (c = true ↔ 0 < n ∧ n ≤ segV D - w.used) → Q (.bool c) (wB D w) := fun c q => by
    have e : c = decide (fitsW D w b) := by
      have q2 : c = true ↔ fitsW D w b := by unfold fitsW; rw [hn]; exact q
      cases c with
      | true => exact (decide_eq_true (q2.1 rfl)).symm
      | false => exact (decide_eq_false (fun u => by cases q2.2 u)).symm
    rw [e]
    exact h
  have h2 : 2 ≤ D.sc := by omega
  (refine sx_sound Γok _ ?_; conv => whnf)
  (repeat (first | (exact Out.same; conv => whnf) | (exact Out1.same; conv => whnf) | (refine QAnd.mk ?_ ?_; conv => whnf) | (apply QStepH.go; conv => whnf) | (refine Both.lit_true ?_; conv => whnf) | (refine Both.lit_false ?_; conv => whnf) | (apply QStep.go; conv => whnf) | (refine Need.au ?_; conv => whnf) | (refine ⟨_, rfl, ?_⟩; conv => whnf) | (refine CallVC.auto sizeD_k ?_; conv => whnf)))
  refine CallVC.auto partsE_k (fun n1 hn1 => ?_)
  obtain rfl : n = n1 := hn.symm.trans hn1
  by_cases h0 : 0 < n
  · have c0 : decide ((0 : Int) < ((n : Nat) : Int)) = true := decide_eq_true (by omega)
    have h := hfin (decide (((n : Nat) : Int) ≤ IntKind.i64.wrap (((segV D : Nat) : Int) - ((w.used : Nat) : Int)))) (by
      rw [hws]
      exact ⟨fun u => ⟨h0, by have := of_decide_eq_true u; omega⟩, fun u => decide_eq_true (by omega)⟩)
    (conv => whnf)
    (repeat (first | (exact Out.same; conv => whnf) | (exact Out1.same; conv => whnf) | (refine QAnd.mk ?_ ?_; conv => whnf) | (apply QStepH.go; conv => whnf) | (refine Both.lit_true ?_; conv => whnf) | (refine Both.lit_false ?_; conv => whnf) | (apply QStep.go; conv => whnf) | (refine Need.au ?_; conv => whnf) | (refine ⟨_, rfl, ?_⟩; conv => whnf)))
    (refine DrawVC.any Γok (by kernel_rfl) (by kernel_rfl) (by kernel_rfl) (by rfl) ?_; conv => whnf)
    (repeat (first | (refine Both.of_true c0 ?_; conv => whnf) | (refine CallVC.auto seg_k (dIn_mk ho ⟨h2, ?_⟩); conv => whnf) | (exact Out.same; conv => whnf) | (exact Out1.same; conv => whnf) | (refine QAnd.mk ?_ ?_; conv => whnf) | (apply QStepH.go; conv => whnf) | (refine Both.lit_true ?_; conv => whnf) | (refine Both.lit_false ?_; conv => whnf) | (apply QStep.go; conv => whnf) | (refine Need.au ?_; conv => whnf) | (refine ⟨_, rfl, ?_⟩; conv => whnf)))
    refine ⟨_, _, WeakV.auto ?_, h⟩
    (repeat' ((conv => whnf); first | exact True.intro | (refine And.intro ?_ ?_)))
    all_goals first | rfl | exact .eq rfl
  · have c0 : decide ((0 : Int) < ((n : Nat) : Int)) = false := decide_eq_false (by omega)
    have h := hfin false ⟨fun u => (by cases u), fun u => absurd u.1 h0⟩
    (conv => whnf)
    (repeat (first | (exact Out.same; conv => whnf) | (exact Out1.same; conv => whnf) | (refine QAnd.mk ?_ ?_; conv => whnf) | (apply QStepH.go; conv => whnf) | (refine Both.lit_true ?_; conv => whnf) | (refine Both.lit_false ?_; conv => whnf) | (apply QStep.go; conv => whnf) | (refine Need.au ?_; conv => whnf) | (refine ⟨_, rfl, ?_⟩; conv => whnf)))
    (refine DrawVC.any Γok (by kernel_rfl) (by kernel_rfl) (by kernel_rfl) (by rfl) ?_; conv => whnf)
    (repeat (first | (refine Both.of_false c0 ?_; conv => whnf) | (exact Out.same; conv => whnf) | (exact Out1.same; conv => whnf) | (refine QAnd.mk ?_ ?_; conv => whnf) | (apply QStepH.go; conv => whnf) | (refine Both.lit_true ?_; conv => whnf) | (refine Both.lit_false ?_; conv => whnf) | (apply QStep.go; conv => whnf) | (refine Need.au ?_; conv => whnf) | (refine ⟨_, rfl, ?_⟩; conv => whnf)))
    refine ⟨_, _, WeakV.auto ?_, h⟩
    (repeat' ((conv => whnf); first | exact True.intro | (refine And.intro ?_ ?_)))
    all_goals first | rfl | exact .eq rfl
theorem fitsW_k : Contract Tryz.prog [] 11 fitsWS := ⟨⟨⟨_, rfl, rfl, rfl⟩⟩, fitsW_c⟩
end Go.LX
end
section
set_option maxRecDepth 100000
set_option maxHeartbeats 1000000
set_option autoImplicit false
set_option linter.unusedVariables false
set_option linter.unusedSimpArgs false
namespace Go.LX
open Go.Proofs

theorem Contract.post {P : Program} {G : Gl} {f : FuncId} {S S' : Spec} (hc : Contract P G f S) (h : ∀ args H Q, S' args H Q → S args H fun r H1 => ∃ r' H', WeakV G H.length r H1 r' H' ∧ Q r' H') : Contract P G f S' := by
  refine ⟨hc.ok, fun args H Q hs E w vs hv hr hg => ?_⟩
  refine (hc.meets args H _ (h args H Q hs) E w vs hv hr hg).mono ?_
  rintro e w' ⟨v, r, H1, E1, h1, ⟨r', H', hw, hq⟩, h3, h4, h5, h6⟩
  obtain ⟨E2, a1, a2, a3, a4, a5⟩ := hw E E1 w' v hr.len.symm h6 h3 h4 (hg.kept h5.Imono fun b hb => h5.keep b (hr.ltI b hb) fun q => hr.imm b q hb)
  exact ⟨v, r', H', E2, h1, hq, a2, a3, h5.trans a5, a1⟩
theorem WeakV.pubTup {G : Gl} {N : Nat} {rs : List SV} {H : List LObj} (i : Nat) {e sz n : Nat} {xs : List CV} {wr : Bool} (hi : H[i]? = some (.own e sz n xs wr)) :
    WeakV G N (.tuple rs) H (.tuple (pubL i sz n xs rs)) (H.set i .gone) := fun A E w v hA hle hv hr hg => by
  obtain ⟨le, h1, h2, h3⟩ := hr.pub hi
  cases hv with
  | tuple vs hl h =>
    have hvs : VRs E w rs vs := ⟨hl, h⟩
    have hk := pubL_sound h3 (hvs.kept le (fun _ h => .inl h) (fun _ _ => rfl))
    exact ⟨_, hle.trans le, .tuple vs hk.1 hk.2, h1, hg.kept (fun _ h => .inl h) (fun _ _ => rfl), h2⟩
end Go.LX
end
