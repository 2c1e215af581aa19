import Derived.Test.YtjdlbffcldndhaaCrc
set_option maxRecDepth 100000
set_option autoImplicit false
set_option linter.unusedVariables false
set_option linter.unusedSimpArgs false
namespace Go.LX
open Go.Proofs

def overS : Spec := fun args H Q => match args, H with
  | [.int .u32 x, .str s], [] => ∃ r : BitVec 32, x = u32 r ∧ s.length < 1000000 ∧ Q (.int .u32 (u32 (Crc.over r s))) []
  | _, _ => False
theorem idx_go (x : BitVec 32) (b : UInt8) : bitXor .u8 (IntKind.u8.wrap (u32 x)) (b.toNat : Int) = u8 (x.setWidth 8 ^^^ b.toBitVec) := by
  rw [u8_of_u32, show ((b.toNat : Nat) : Int) = u8 b.toBitVec from rfl, xor_u8]
theorem tab_get (n : BitVec 8) : (tabTo 256)[(u8 n).toNat]? = some (.int .u32 (u32 (Crc.tab n))) := by
  have hn := n.isLt
  unfold tabTo u8
  rw [List.getElem?_map, Int.toNat_natCast, List.getElem?_range (by omega)]
  simp only [Option.map_some, hn, if_true]
  unfold tabAt Crc.tab
  congr 4
  apply BitVec.eq_of_toNat_eq
  simp
theorem over_go (r : BitVec 32) (s : List UInt8) {k : Nat} (h : k < s.length) : bitXor .u32 (shrI .u32 (u32 (Crc.over r (s.take k))) 8) (u32 (Crc.tab ((Crc.over r (s.take k)).setWidth 8 ^^^ (s.getD k 0).toBitVec))) = u32 (Crc.over r (s.take (k + 1))) := by
  rw [show (8 : Int) = ((8 : Nat) : Int) from rfl, shr_u32 _ 8 (by omega), xor_u32, ← Crc.byte_tab, List.take_succ_eq_append_getElem h, Crc.over_append, List.getD_eq_getElem?_getD, List.getElem?_eq_getElem h]
  rfl
theorem table_k : Contract Try.prog [] 21 tableS := ⟨⟨⟨_, rfl, rfl, rfl⟩⟩, table_c⟩
theorem over_c : Meets Try.prog [] 19 overS := by
  refine meets_of Γok Try.func19 rfl ?_
  intro args H Q h
  unfold overS at h
  split at h
  case h_2 => exact h.elim
  obtain ⟨r, rfl, hs, h⟩ := h
  (refine sx_sound Γok _ ?_; conv => whnf)
  refine CallVC.of [] table_k ?_
  (conv => whnf)
  simp only [tabTo_ren]
  refine Need.mk ⟨tabTo_length _, rfl, tabTo_far _⟩ ?_
  (conv => whnf)
  rename_i s
  refine loop_rule (fun k : Nat => ⟨[.int .u32 (u32 (Crc.over r (s.take k))), .str s, .any, .any, .any, .ptr 0 0, .any, .any, .str s, .int .i64 (s.length : Int), .int .i64 (k : Int), .any, .any, .any, .any, .any, .any, .any, .any, .any, .any, .any, .any, .any, .any, .any], [.cells (tabTo 256) 37]⟩) (fun k => k ≤ s.length) (fun k => s.length - k) 0 (by omega) ?_ ?_
  · refine Weak.le ?_ ?_
    · (repeat' ((conv => whnf); first | exact True.intro | (refine And.intro ?_ ?_)))
      all_goals rfl
    · (repeat' ((conv => whnf); first | exact True.intro | (refine And.intro ?_ ?_)))
      all_goals first | rfl | exact .eq rfl
  · intro k hk
    (refine sx_sound Γok _ ?_; conv => whnf)
    refine Both.dec (fun hlt => ?_) (fun hge => ?_)
    · (conv => whnf)
      (repeat (first | (refine Both.lit_true ?_; conv => whnf) | (refine Both.lit_false ?_; conv => whnf) | (refine Need.mk (by first | omega | exact ⟨by omega, by omega⟩ | rfl | exact ⟨rfl, rfl⟩) ?_; conv => whnf)))
      rw [idx_go]
      refine Need.mk ⟨u8_nonneg _, u8_lt _⟩ ?_
      (conv => whnf)
      refine ⟨_, (congrArg _ (Nat.zero_add _)).trans (tab_get _), ?_⟩
      (conv => whnf)
      refine ⟨k + 1, by omega, by omega, Weak.le ?_ ?_⟩
      · (repeat' ((conv => whnf); first | exact True.intro | (refine And.intro ?_ ?_)))
        all_goals first | rfl | (rw [wrap_i64 (by omega) (by omega)]; rfl) | (rw [Int.toNat_natCast]; exact congrArg (SV.int .u32) (over_go r s (by omega)))
      · (repeat' ((conv => whnf); first | exact True.intro | (refine And.intro ?_ ?_)))
        all_goals first | rfl | exact .eq rfl
    · have hk' : k = s.length := by omega
      subst hk'
      (conv => whnf)
      exact ⟨_, _, WeakV.drop (congrArg (SV.int .u32) (by rw [List.take_length])), h⟩
end Go.LX
