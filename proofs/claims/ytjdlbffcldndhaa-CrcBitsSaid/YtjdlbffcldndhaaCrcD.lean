import Derived.Test.YtjdlbffcldndhaaCrcC
set_option maxRecDepth 100000
set_option autoImplicit false
set_option linter.unusedVariables false
set_option linter.unusedSimpArgs false
namespace Go.LX
open Go.Proofs

def updS : Spec := fun args H Q => match args, H with
  | [.int .u32 x, .str s], [] => ∃ r : BitVec 32, x = u32 r ∧ s.length < 1000000 ∧ Q (.int .u32 (u32 (~~~ Crc.over (~~~ r) s))) []
  | _, _ => False
theorem upd_c : Meets Try.prog [] 10 updS := by
  refine meets_of Γok Try.func10 rfl ?_
  intro args H Q h
  unfold updS at h
  split at h
  case h_2 => exact h.elim
  obtain ⟨r, rfl, hs, h⟩ := h
  (refine sx_sound Γok _ ?_; conv => whnf)
  refine CallVC.of [] over_k ⟨~~~ r, not_u32 _, hs, ?_⟩
  (conv => whnf)
  refine ⟨_, _, WeakV.drop (congrArg (SV.int .u32) (not_u32 _)), h⟩
theorem upd_k : Contract Try.prog [] 10 updS := ⟨⟨⟨_, rfl, rfl, rfl⟩⟩, upd_c⟩

def lesS : Spec := fun args H Q => match args, H with
  | [.int .u32 x], [] => ∃ r : BitVec 32, x = u32 r ∧ Q (.str (Crc.le 4 r)) []
  | _, _ => False
def lesTo (r : BitVec 32) (k : Nat) : List SV := (List.range 4).map fun i => .int .u8 (if i < k then u8 ((r >>> (8 * i)).setWidth 8) else 0)
theorem les_set (r : BitVec 32) (k : Nat) (h : k < 4) : (lesTo r k).set k (.int .u8 (u8 ((r >>> (8 * k)).setWidth 8))) = lesTo r (k + 1) := by
  match k, h with
  | 0, _ => rfl
  | 1, _ => rfl
  | 2, _ => rfl
  | 3, _ => rfl
theorem by_u8 (b : BitVec 8) : UInt8.ofNat (u8 b).toNat = ⟨b⟩ := by
  apply UInt8.toNat_inj.1
  unfold u8
  rw [Int.toNat_natCast]
  simp
theorem les_bytes (r : BitVec 32) : (lesTo r 4).map svByte = Crc.le 4 r := by
  have h : ∀ k, svByte (.int .u8 (u8 ((r >>> (8 * k)).setWidth 8))) = Crc.lo (r >>> (8 * k)) := fun k => by_u8 _
  show [svByte (.int .u8 (u8 ((r >>> (8 * 0)).setWidth 8))), svByte (.int .u8 (u8 ((r >>> (8 * 1)).setWidth 8))), svByte (.int .u8 (u8 ((r >>> (8 * 2)).setWidth 8))), svByte (.int .u8 (u8 ((r >>> (8 * 3)).setWidth 8)))] = _
  rw [h, h, h, h]
  simp only [Crc.le, ← BitVec.shiftRight_add]
  simp
theorem les_far (r : BitVec 32) (k : Nat) : ∀ x ∈ lesTo r k, isU8s x = true := by
  intro x hx
  obtain ⟨i, _, rfl⟩ := List.mem_map.1 hx
  rfl
theorem les2_bytes (r : BitVec 32) : [UInt8.ofNat (IntKind.u8.wrap ((u32 r).tmod 256)).toNat, UInt8.ofNat (IntKind.u8.wrap ((IntKind.u32.wrap ((u32 r).tdiv 256)).tmod 256)).toNat, UInt8.ofNat (IntKind.u8.wrap ((IntKind.u32.wrap ((u32 r).tdiv 65536)).tmod 256)).toNat, UInt8.ofNat (IntKind.u8.wrap (IntKind.u32.wrap ((u32 r).tdiv 16777216))).toNat] = Crc.le 4 r := by
  have hn := u32_nonneg r
  have hl := u32_lt r
  have hq : ∀ d : Int, (u32 r).tdiv d = u32 r / d := fun d => Int.tdiv_eq_ediv_of_nonneg hn
  have hm : ∀ x : Int, IntKind.u32.wrap x = x % 4294967296 := wrap_u32_mod
  have e : ∀ x d : Int, 0 ≤ x → x.tmod d = x % d := fun x d h => Int.tmod_eq_emod_of_nonneg h
  rw [hq, hq, hq, hm, hm, hm, e _ _ hn, e _ _ (by omega), e _ _ (by omega)]
  simp only [wrap_u8_mod, Crc.le, ← BitVec.shiftRight_add]
  have g : ∀ (x : Int) (k : Nat), x = u32 r / (2 ^ k : Nat) % 256 → UInt8.ofNat x.toNat = Crc.lo (r >>> k) := by
    intro x k hx
    apply UInt8.toNat_inj.1
    unfold Crc.lo
    rw [hx]
    show (UInt8.ofNat _).toNat = ((r >>> k).setWidth 8).toNat
    rw [BitVec.toNat_setWidth, BitVec.toNat_ushiftRight, Nat.shiftRight_eq_div_pow]
    unfold u32
    have : ((r.toNat : Int) / ((2 ^ k : Nat) : Int) % 256).toNat = r.toNat / 2 ^ k % 256 := by
      rw [show ((r.toNat : Int) / ((2 ^ k : Nat) : Int) % 256) = ((r.toNat / 2 ^ k % 256 : Nat) : Int) by simp, Int.toNat_natCast]
    rw [this]
    simp
  rw [g _ 0 (by show _ = u32 r / (1 : Int) % 256; omega), g _ 8 (by show _ = u32 r / (256 : Int) % 256; omega), g _ 16 (by show _ = u32 r / (65536 : Int) % 256; omega), g _ 24 (by show _ = u32 r / (16777216 : Int) % 256; omega)]
  simp
theorem les_c : Meets Try.prog [] 15 lesS := by
  refine meets_of Γok Try.func15 rfl ?_
  intro args H Q h
  unfold lesS at h
  split at h
  case h_2 => exact h.elim
  obtain ⟨r, rfl, h⟩ := h
  (refine sx_sound Γok _ ?_; conv => whnf)
  refine loop_rule (fun k : Nat => ⟨[.int .u32 (u32 r), .any, .any, .ptr 0 0, .any, .int .i64 (k : Int), .any, .any, .any, .any, .any, .any, .any, .any, .any, .any, .any, .any], [.cells (lesTo r k) 36]⟩) (fun k => k ≤ 4) (fun k => 4 - k) 0 (by omega) ?_ ?_
  · refine Weak.le ?_ ?_
    · (repeat' ((conv => whnf); first | exact True.intro | (refine And.intro ?_ ?_)))
      all_goals rfl
    · (repeat' ((conv => whnf); first | exact True.intro | (refine And.intro ?_ ?_)))
      all_goals first | rfl | exact .eq rfl
  · intro k hk
    (refine sx_sound Γok _ ?_; conv => whnf)
    refine Both.dec (fun hlt => ?_) (fun hge => ?_)
    · (conv => whnf)
      (repeat (first | (refine Both.lit_true ?_; conv => whnf) | (refine Both.lit_false ?_; conv => whnf) | (refine Need.mk (by first | omega | exact ⟨by omega, by omega⟩ | rfl | exact ⟨rfl, rfl⟩) ?_; conv => whnf)))
      rw [wrap_i64 (by omega) (by omega)]
      (repeat (first | (refine Both.lit_true ?_; conv => whnf) | (refine Both.lit_false ?_; conv => whnf) | (refine Need.mk (by first | omega | exact ⟨by omega, by omega⟩ | rfl | exact ⟨rfl, rfl⟩) ?_; conv => whnf)))
      refine Need.mk ⟨rfl, by rw [show (lesTo r k).length = 4 from rfl]; omega⟩ ?_
      (conv => whnf)
      refine ⟨k + 1, by omega, by omega, Weak.le ?_ ?_⟩
      · (repeat' ((conv => whnf); first | exact True.intro | (refine And.intro ?_ ?_)))
        all_goals first | rfl | (rw [wrap_i64 (by omega) (by omega)]; rfl)
      · (repeat' ((conv => whnf); first | exact True.intro | (refine And.intro ?_ ?_)))
        all_goals first | rfl | (refine .eq ?_; rw [← les_set r k (by omega)]; rw [show (8 : Int) * (k : Int) = ((8 * k : Nat) : Int) by omega, shr_u32 _ _ (by omega), u8_of_u32, Nat.zero_add, Int.toNat_natCast]; done)
    · have hk' : k = 4 := by omega
      subst hk'
      (conv => whnf)
      (repeat (first | (refine Both.lit_true ?_; conv => whnf) | (refine Both.lit_false ?_; conv => whnf) | (refine Need.mk (by first | omega | exact ⟨by omega, by omega⟩ | rfl | exact ⟨rfl, rfl⟩) ?_; conv => whnf)))
      refine Need.mk ⟨rfl, les_far r 4⟩ ?_
      (conv => whnf)
      refine ⟨_, _, WeakV.drop (congrArg SV.str (les_bytes r)), h⟩
theorem les_k : Contract Try.prog [] 15 lesS := ⟨⟨⟨_, rfl, rfl, rfl⟩⟩, les_c⟩

theorem les2_c : Meets Try.prog [] 16 lesS := by
  refine meets_of Γok Try.func16 rfl ?_
  intro args H Q h
  unfold lesS at h
  split at h
  case h_2 => exact h.elim
  obtain ⟨r, rfl, h⟩ := h
  (refine sx_sound Γok _ ?_; conv => whnf)
  (repeat (first | (refine Both.lit_true ?_; conv => whnf) | (refine Both.lit_false ?_; conv => whnf) | (refine Need.mk (by first | omega | exact ⟨by omega, by omega⟩ | rfl | exact ⟨rfl, rfl⟩) ?_; conv => whnf)))
  refine Need.mk ⟨rfl, by simp [isU8]⟩ ?_
  (conv => whnf)
  refine ⟨_, _, WeakV.drop (congrArg SV.str (les2_bytes r)), h⟩
theorem les2_k : Contract Try.prog [] 16 lesS := ⟨⟨⟨_, rfl, rfl, rfl⟩⟩, les2_c⟩

def sealS : Spec := fun args H Q => match args, H with
  | [.str s], [] => s.length < 1000000 ∧ Q (.str (Crc.seal_ s)) []
  | _, _ => False
theorem seal_c : Meets Try.prog [] 11 sealS := by
  refine meets_of Γok Try.func11 rfl ?_
  intro args H Q h
  unfold sealS at h
  split at h
  case h_2 => exact h.elim
  obtain ⟨hs, h⟩ := h
  rename_i s
  (refine sx_sound Γok _ ?_; conv => whnf)
  refine CallVC.of [] sum_k ⟨[s], .inl rfl, by show 1 < 1000000; decide, by simpa using hs, ?_⟩
  (conv => whnf)
  refine CallVC.of [] les_k ⟨_, rfl, ?_⟩
  (conv => whnf)
  refine Need.mk (by rw [Crc.le_length]; omega) ?_
  (conv => whnf)
  refine ⟨_, _, WeakV.drop (congrArg SV.str (by rw [List.flatten_cons, List.flatten_nil, List.append_nil]; rfl)), h⟩
theorem seal_k : Contract Try.prog [] 11 sealS := ⟨⟨⟨_, rfl, rfl, rfl⟩⟩, seal_c⟩
end Go.LX
