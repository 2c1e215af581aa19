import Derived.Test.YtfbkkhpcmnnmfaaDoorSw
set_option maxRecDepth 100000
set_option maxHeartbeats 1000000
set_option autoImplicit false
set_option linter.unusedVariables false
set_option linter.unusedSimpArgs false
namespace Go.LX
open Go.Proofs

/-! ## The document's Pad -/
def stp (N : Nat) : Nat → List UInt8
  | 0 => List.replicate 8 0
  | j + 1 => (stp N j).set (7 - j) (UInt8.ofNat (N / 256 ^ j))
theorem stp_len (N : Nat) : ∀ j, (stp N j).length = 8
  | 0 => rfl
  | j + 1 => by rw [stp, List.length_set, stp_len N j]
theorem stp_end (N : Nat) : stp N 8 = beL N 8 := by
  simp [stp, beL, List.range_succ, List.replicate]
theorem pad_len (n : Nat) : (pad n).length = 1 + (119 - n % 64) % 64 + 8 := by
  unfold pad
  rw [List.length_append, List.length_append, List.length_replicate, beL_len]
  rfl
def padS : Spec := fun args H Q => match args, H with
  | [.str s], [] => Need (s.length < 1000000) (Q (.str (s ++ pad s.length)) [])
  | _, _ => False
theorem zer_bys (n : Nat) : zerosOf 1 n [CV.int .u8 0] = bys (List.replicate n 0) := by
  unfold zerosOf bys
  rw [List.map_replicate]
  rfl
theorem bys_back (l : List UInt8) : (bys l).map cvByte = l := by
  rw [bys, List.map_map]
  refine (List.map_congr_left (g := id) fun b _ => ?_).trans (List.map_id _)
  show UInt8.ofNat ((b.toNat : Int)).toNat = b
  rw [Int.toNat_natCast, UInt8.ofNat_toNat]
theorem pad_c : Meets Tryd.prog [] 20 padS := by
  refine meets_of Γok Tryd.func20 rfl ?_
  intro args H Q h
  unfold padS at h
  split at h
  case h_2 => exact h.elim
  rename_i s
  obtain ⟨hs, h⟩ := h
  obtain ⟨N, hN⟩ : ∃ N, s.length * 8 = N := ⟨_, rfl⟩
  obtain ⟨z, hz⟩ : ∃ z, (119 - s.length % 64) % 64 = z := ⟨_, rfl⟩
  have hNv : IntKind.u64.wrap (IntKind.u64.wrap ((s.length : Nat) : Int) * 8) = (N : Int) := by
    rw [wrap_u64 (n := ((s.length : Nat) : Int)) (by omega) (by omega), wrap_u64 (by omega) (by omega)]
    omega
  have hp : s ++ pad s.length = ((s ++ [128]) ++ List.replicate z 0) ++ beL N 8 := by
    unfold pad
    rw [hz, hN]
    simp
  rw [hp] at h
  clear hp
  have hu1 : ∀ b : UInt8, [CV.int .u8 (b.toNat : Int)].length = 1 ∧ ∀ x, x ∈ [CV.int .u8 (b.toNat : Int)] → isU8 x = true := fun b => ⟨rfl, fun x hx => by rw [List.mem_singleton.1 hx]; rfl⟩
  have e128 : List.map cvByte [CV.int .u8 128] = [128] := rfl
  have e0 : List.map cvByte [CV.int .u8 0] = [0] := rfl
  have hl1 : s.length + (List.map cvByte [CV.int .u8 128]).length ≤ 9223372036854775807 := by rw [e128]; show s.length + 1 ≤ _; omega
  (refine sx_sound Γok _ ?_; conv => whnf)
  (repeat (first | (refine Need.mk (hu1 128) ?_; conv => whnf) | (refine Need.mk hl1 ?_; conv => whnf) | (exact Out.same; conv => whnf) | (exact Out1.same; conv => whnf) | (refine QAnd.mk ?_ ?_; conv => whnf) | (apply QStepH.go; conv => whnf) | (refine Both.lit_true ?_; conv => whnf) | (refine Both.lit_false ?_; conv => whnf) | (apply QStep.go; conv => whnf) | (refine Need.mk ?_ ?_; (focus (first | omega | exact ⟨by omega, by omega⟩ | rfl | exact ⟨rfl, rfl⟩ | exact ⟨rfl, by omega, by omega⟩ | exact ⟨by omega, by omega, by omega⟩ | exact ⟨rfl, Nat.le_of_ble_eq_true rfl⟩ | exact Nat.le_of_ble_eq_true rfl | (refine ⟨rfl, rfl, ?_⟩; simp [isFar, ofV0, CV.up, SV.renL, SV.ren] <;> fail) | (refine ⟨rfl, Nat.le_of_ble_eq_true rfl, ?_⟩; simp [isFar, ofV0, CV.up, SV.renL, SV.ren] <;> fail) | (simp only [List.length_append, List.length_drop, List.length_take, List.length_replicate, List.length_map]; omega) | (simp <;> fail))); conv => whnf) | (refine ⟨_, rfl, ?_⟩; conv => whnf)))
  rw [hNv, e128]
  refine loop_rule (fun j : Nat => ⟨[.str ((s ++ [128]) ++ List.replicate j 0), .any, .any, .int .u64 (N : Int), .any, .any, .any, .any, .any, .any, .any, .any, .any, .any, .any, .any, .any, .any, .any, .any, .any, .any, .any, .any, .any, .any, .any, .any, .any, .any, .any, .any, .any, .any, .any, .any, .any, .any, .any], []⟩) (fun j => j ≤ z) (fun j => z - j) 0 (Nat.zero_le _) (Weak.auto ?_) ?_
  · have h0 : SV.str (s ++ [128]) = SV.str ((s ++ [128]) ++ List.replicate 0 0) := by rw [List.replicate_zero, List.append_nil]
    (repeat' ((conv => whnf); first | exact True.intro | (refine And.intro ?_ ?_)))
    all_goals first | exact h0 | rfl | exact .eq rfl
  intro j hj
  have hlen : ((s ++ [128]) ++ List.replicate j (0 : UInt8)).length = s.length + 1 + j := by
    rw [List.length_append, List.length_append, List.length_replicate]
    rfl
  have hnx : ((s ++ [128]) ++ List.replicate j (0 : UInt8)) ++ [0] = (s ++ [128]) ++ List.replicate (j + 1) 0 := by
    rw [List.append_assoc, ← List.replicate_succ']
  have hse : j = z → ((s ++ [128]) ++ List.replicate j (0 : UInt8)) = ((s ++ [128]) ++ List.replicate z (0 : UInt8)) := fun h => by rw [h]
  revert hlen hnx hse
  generalize hq : (s ++ [128]) ++ List.replicate j (0 : UInt8) = q
  generalize hq1 : (s ++ [128]) ++ List.replicate (j + 1) (0 : UInt8) = q1
  intro hlen hnx hse
  have hmod : ((q.length : Nat) : Int).tmod 64 = (((s.length + 1 + j) % 64 : Nat) : Int) := by rw [hlen]; rfl
  (refine sx_sound Γok _ ?_; conv => whnf)
  (repeat (first | (exact Out.same; conv => whnf) | (exact Out1.same; conv => whnf) | (refine QAnd.mk ?_ ?_; conv => whnf) | (apply QStepH.go; conv => whnf) | (refine Both.lit_true ?_; conv => whnf) | (refine Both.lit_false ?_; conv => whnf) | (apply QStep.go; conv => whnf) | (refine Need.mk ?_ ?_; (focus (first | omega | exact ⟨by omega, by omega⟩ | rfl | exact ⟨rfl, rfl⟩ | exact ⟨rfl, by omega, by omega⟩ | exact ⟨by omega, by omega, by omega⟩ | exact ⟨rfl, Nat.le_of_ble_eq_true rfl⟩ | exact Nat.le_of_ble_eq_true rfl | (refine ⟨rfl, rfl, ?_⟩; simp [isFar, ofV0, CV.up, SV.renL, SV.ren] <;> fail) | (refine ⟨rfl, Nat.le_of_ble_eq_true rfl, ?_⟩; simp [isFar, ofV0, CV.up, SV.renL, SV.ren] <;> fail) | (simp only [List.length_append, List.length_drop, List.length_take, List.length_replicate, List.length_map]; omega) | (simp <;> fail))); conv => whnf) | (refine ⟨_, rfl, ?_⟩; conv => whnf)))
  rw [hmod]
  refine Both.dec_not (fun hne => ?_) (fun heq => ?_)
  · have hjz : j < z := by
      rcases Nat.lt_or_ge j z with h1 | h1
      · exact h1
      · exfalso
        have : j = z := by omega
        subst this
        omega
    have hl2 : q.length + (List.map cvByte [CV.int .u8 0]).length ≤ 9223372036854775807 := by rw [e0, hlen]; show _ + 1 ≤ _; omega
    have hst : SV.str (q ++ List.map cvByte [CV.int .u8 0]) = SV.str ((s ++ [128]) ++ List.replicate (j + 1) 0) := by rw [e0, hnx, hq1]
    (conv => whnf)
    (repeat (first | (refine Need.mk (hu1 0) ?_; conv => whnf) | (refine Need.mk hl2 ?_; conv => whnf) | (exact Out.same; conv => whnf) | (exact Out1.same; conv => whnf) | (refine QAnd.mk ?_ ?_; conv => whnf) | (apply QStepH.go; conv => whnf) | (refine Both.lit_true ?_; conv => whnf) | (refine Both.lit_false ?_; conv => whnf) | (apply QStep.go; conv => whnf) | (refine Need.mk ?_ ?_; (focus (first | omega | exact ⟨by omega, by omega⟩ | rfl | exact ⟨rfl, rfl⟩ | exact ⟨rfl, by omega, by omega⟩ | exact ⟨by omega, by omega, by omega⟩ | exact ⟨rfl, Nat.le_of_ble_eq_true rfl⟩ | exact Nat.le_of_ble_eq_true rfl | (refine ⟨rfl, rfl, ?_⟩; simp [isFar, ofV0, CV.up, SV.renL, SV.ren] <;> fail) | (refine ⟨rfl, Nat.le_of_ble_eq_true rfl, ?_⟩; simp [isFar, ofV0, CV.up, SV.renL, SV.ren] <;> fail) | (simp only [List.length_append, List.length_drop, List.length_take, List.length_replicate, List.length_map]; omega) | (simp <;> fail))); conv => whnf) | (refine ⟨_, rfl, ?_⟩; conv => whnf)))
    refine ⟨j + 1, by omega, by omega, Weak.auto ?_⟩
    (repeat' ((conv => whnf); first | exact True.intro | (refine And.intro ?_ ?_)))
    all_goals first | exact hst | rfl | exact .eq rfl
  have hjz : j = z := by
    rcases Nat.lt_or_ge j z with h1 | h1
    · exfalso
      omega
    · omega
  rw [← hse hjz] at h
  clear hse hnx hmod hq hq1
  have hobj0 : LObj.own 5 ti5.size (8 : Int).toNat (zerosOf ti5.size (8 : Int).toNat [CV.int .u8 0]) true = LObj.own 5 1 8 (bys (stp N 0)) true := by
    rw [show ti5.size = 1 from rfl, zer_bys]
    rfl
  have hmk : (8 : Int) = 8 ∧ (0 : Int) ≤ 8 ∧ (ti5.bytes : Int) * 8 ≤ 140737488355328 ∧ (8 : Int) ≤ 140737488355328 := by decide
  (conv => whnf)
  (repeat (first | (refine Need.mk hmk ?_; conv => whnf) | (exact Out.same; conv => whnf) | (exact Out1.same; conv => whnf) | (refine QAnd.mk ?_ ?_; conv => whnf) | (apply QStepH.go; conv => whnf) | (refine Both.lit_true ?_; conv => whnf) | (refine Both.lit_false ?_; conv => whnf) | (apply QStep.go; conv => whnf) | (refine Need.mk ?_ ?_; (focus (first | omega | exact ⟨by omega, by omega⟩ | rfl | exact ⟨rfl, rfl⟩ | exact ⟨rfl, by omega, by omega⟩ | exact ⟨by omega, by omega, by omega⟩ | exact ⟨rfl, Nat.le_of_ble_eq_true rfl⟩ | exact Nat.le_of_ble_eq_true rfl | (refine ⟨rfl, rfl, ?_⟩; simp [isFar, ofV0, CV.up, SV.renL, SV.ren] <;> fail) | (refine ⟨rfl, Nat.le_of_ble_eq_true rfl, ?_⟩; simp [isFar, ofV0, CV.up, SV.renL, SV.ren] <;> fail) | (simp only [List.length_append, List.length_drop, List.length_take, List.length_replicate, List.length_map]; omega) | (simp <;> fail))); conv => whnf) | (refine ⟨_, rfl, ?_⟩; conv => whnf)))
  refine loop_rule (fun j : Nat => ⟨[.str q, .any, .any, .int .u64 ((N / 256 ^ j : Nat) : Int), .own 0, .int .i64 (7 - (j : Int)), .any, .any, .any, .any, .any, .any, .any, .any, .any, .any, .any, .any, .any, .any, .any, .any, .any, .any, .any, .any, .any, .any, .any, .any, .any, .any, .any, .any, .any, .any, .any, .any, .any], [.own 5 1 8 (bys (stp N j)) true]⟩) (fun j => j ≤ 8) (fun j => 8 - j) 0 (Nat.zero_le _) (Weak.auto ?_) ?_
  · have h0 : SV.int .u64 ((N : Nat) : Int) = SV.int .u64 ((N / 256 ^ 0 : Nat) : Int) := by rw [Nat.pow_zero, Nat.div_one]
    (repeat' ((conv => whnf); first | exact True.intro | (refine And.intro ?_ ?_)))
    all_goals first | exact hobj0 | exact h0 | rfl | exact .eq rfl
  clear hobj0 hmk
  intro k hk
  have hsl := stp_len N k
  have hsn : stp N (k + 1) = (stp N k).set (7 - k) (UInt8.ofNat (N / 256 ^ k)) := rfl
  have hdiv : N / 256 ^ (k + 1) = N / 256 ^ k / 256 := by rw [Nat.pow_succ, Nat.div_div_eq_div_mul]
  have hbd : N / 256 ^ k < 18446744073709551616 := Nat.lt_of_le_of_lt (Nat.div_le_self _ _) (by omega)
  have hend : k = 8 → stp N k = beL N 8 := fun h => by rw [h]; exact stp_end N
  revert hsn hsl hdiv hbd hend
  generalize hM : N / 256 ^ k = M
  generalize hM1 : N / 256 ^ (k + 1) = M1
  generalize hl : stp N k = l
  generalize hl' : stp N (k + 1) = l1
  intro hsl hsn hdiv hbd hend
  (refine sx_sound Γok _ ?_; conv => whnf)
  (repeat (first | (exact Out.same; conv => whnf) | (exact Out1.same; conv => whnf) | (refine QAnd.mk ?_ ?_; conv => whnf) | (apply QStepH.go; conv => whnf) | (refine Both.lit_true ?_; conv => whnf) | (refine Both.lit_false ?_; conv => whnf) | (apply QStep.go; conv => whnf) | (refine Need.mk ?_ ?_; (focus (first | omega | exact ⟨by omega, by omega⟩ | rfl | exact ⟨rfl, rfl⟩ | exact ⟨rfl, by omega, by omega⟩ | exact ⟨by omega, by omega, by omega⟩ | exact ⟨rfl, Nat.le_of_ble_eq_true rfl⟩ | exact Nat.le_of_ble_eq_true rfl | (refine ⟨rfl, rfl, ?_⟩; simp [isFar, ofV0, CV.up, SV.renL, SV.ren] <;> fail) | (refine ⟨rfl, Nat.le_of_ble_eq_true rfl, ?_⟩; simp [isFar, ofV0, CV.up, SV.renL, SV.ren] <;> fail) | (simp only [List.length_append, List.length_drop, List.length_take, List.length_replicate, List.length_map]; omega) | (simp <;> fail))); conv => whnf) | (refine ⟨_, rfl, ?_⟩; conv => whnf)))
  refine Both.dec (fun hlt => ?_) (fun hge => ?_)
  · have hk8 : k < 8 := by omega
    have hix : ((7 : Int) - (k : Int)).toNat = 7 - k := by omega
    have hby : IntKind.u8.wrap ((M : Int).tmod 256) = ((UInt8.ofNat M).toNat : Int) := by
      rw [show (M : Int).tmod 256 = ((M % 256 : Nat) : Int) from rfl, wrap_u8_mod]
      simp
    have hst : ti5.size = 1 ∧ ((7 : Int) - (k : Int)).toNat < (bys l).length := ⟨rfl, by rw [hix, bys, List.length_map, hsl]; omega⟩
    have hin : ti5.size = ti5.size ∧ 0 ≤ (7 : Int) - (k : Int) ∧ (7 : Int) - (k : Int) < ((8 : Nat) : Int) := ⟨rfl, by omega, by omega⟩
    have hobj : LObj.own 5 1 8 ((bys l).set ((7 : Int) - (k : Int)).toNat (CV.int .u8 (IntKind.u8.wrap ((M : Int).tmod 256)))) true = LObj.own 5 1 8 (bys (stp N (k + 1))) true := by
      rw [hby, hix, hl', hsn, bys, bys, List.map_set]
    have hdv : IntKind.u64.wrap ((M : Int).tdiv 256) = ((N / 256 ^ (k + 1) : Nat) : Int) := by
      rw [show (M : Int).tdiv 256 = ((M / 256 : Nat) : Int) from rfl, wrap_u64 (by omega) (by omega), hM1, hdiv]
    have hw7 : IntKind.i64.wrap (7 - (k : Int) - 1) = 7 - ((k + 1 : Nat) : Int) := by rw [wrap_i64 (by omega) (by omega)]; omega
    (conv => whnf)
    (repeat (first | (refine Need.mk hin ?_; conv => whnf) | (refine Need.mk hst ?_; conv => whnf) | (exact Out.same; conv => whnf) | (exact Out1.same; conv => whnf) | (refine QAnd.mk ?_ ?_; conv => whnf) | (apply QStepH.go; conv => whnf) | (refine Both.lit_true ?_; conv => whnf) | (refine Both.lit_false ?_; conv => whnf) | (apply QStep.go; conv => whnf) | (refine Need.mk ?_ ?_; (focus (first | omega | exact ⟨by omega, by omega⟩ | rfl | exact ⟨rfl, rfl⟩ | exact ⟨rfl, by omega, by omega⟩ | exact ⟨by omega, by omega, by omega⟩ | exact ⟨rfl, Nat.le_of_ble_eq_true rfl⟩ | exact Nat.le_of_ble_eq_true rfl | (refine ⟨rfl, rfl, ?_⟩; simp [isFar, ofV0, CV.up, SV.renL, SV.ren] <;> fail) | (refine ⟨rfl, Nat.le_of_ble_eq_true rfl, ?_⟩; simp [isFar, ofV0, CV.up, SV.renL, SV.ren] <;> fail) | (simp only [List.length_append, List.length_drop, List.length_take, List.length_replicate, List.length_map]; omega) | (simp <;> fail))); conv => whnf) | (refine ⟨_, rfl, ?_⟩; conv => whnf)))
    refine ⟨k + 1, by omega, by omega, Weak.auto ?_⟩
    (repeat' ((conv => whnf); first | exact True.intro | (refine And.intro ?_ ?_)))
    all_goals first | exact hobj | rfl | exact .eq rfl | exact congrArg (SV.int .u64) hdv | exact congrArg (SV.int .i64) hw7
  have hk8 : k = 8 := by omega
  have hlb : l = beL N 8 := hend hk8
  rw [← hlb] at h
  have hln : l.length = 8 := hsl
  have hu : (bys l).length = 8 ∧ ∀ x, x ∈ bys l → isU8 x = true := ⟨by rw [bys, List.length_map, hln], fun x hx => by
    obtain ⟨b, _, rfl⟩ := List.mem_map.1 hx
    rfl⟩
  have hbk : (bys l).map cvByte = l := bys_back l
  have hl3 : q.length + ((bys l).map cvByte).length ≤ 9223372036854775807 := by rw [hbk, hln, hlen]; omega
  (conv => whnf)
  (repeat (first | (refine Need.mk hu ?_; conv => whnf) | (refine Need.mk hl3 ?_; conv => whnf) | (exact Out.same; conv => whnf) | (exact Out1.same; conv => whnf) | (refine QAnd.mk ?_ ?_; conv => whnf) | (apply QStepH.go; conv => whnf) | (refine Both.lit_true ?_; conv => whnf) | (refine Both.lit_false ?_; conv => whnf) | (apply QStep.go; conv => whnf) | (refine Need.mk ?_ ?_; (focus (first | omega | exact ⟨by omega, by omega⟩ | rfl | exact ⟨rfl, rfl⟩ | exact ⟨rfl, by omega, by omega⟩ | exact ⟨by omega, by omega, by omega⟩ | exact ⟨rfl, Nat.le_of_ble_eq_true rfl⟩ | exact Nat.le_of_ble_eq_true rfl | (refine ⟨rfl, rfl, ?_⟩; simp [isFar, ofV0, CV.up, SV.renL, SV.ren] <;> fail) | (refine ⟨rfl, Nat.le_of_ble_eq_true rfl, ?_⟩; simp [isFar, ofV0, CV.up, SV.renL, SV.ren] <;> fail) | (simp only [List.length_append, List.length_drop, List.length_take, List.length_replicate, List.length_map]; omega) | (simp <;> fail))); conv => whnf) | (refine ⟨_, rfl, ?_⟩; conv => whnf)))
  rw [hbk]
  exact ⟨_, _, WeakV.drop rfl, h⟩
theorem rpad_k : Contract Tryd.prog [] 20 padS := ⟨⟨⟨_, rfl, rfl, rfl⟩⟩, pad_c⟩
end Go.LX
