import Derived.Test.YtfbkkhpcmnnmfaaDoorSa
set_option maxRecDepth 100000
set_option maxHeartbeats 1000000
set_option autoImplicit false
set_option linter.unusedVariables false
set_option linter.unusedSimpArgs false
namespace Go.LX
open Go.Proofs

/-! ## The digest, in plain words -/
abbrev W32 := BitVec 32
def uL (l : List W32) : List SV := l.map fun x => SV.int .u32 (u32 x)
def wd (b : UInt8) : W32 := b.toBitVec.setWidth 32
def be4 (b : List UInt8) : W32 := (((wd (b.getD 0 0) <<< 24) ||| (wd (b.getD 1 0) <<< 16)) ||| (wd (b.getD 2 0) <<< 8)) ||| wd (b.getD 3 0)
def ws0 (s : List UInt8) : Nat → List W32
  | 0 => List.replicate 64 0
  | t + 1 => (ws0 s t).set t (be4 (List.drop (4 * t) (List.take (4 * t + 4) s)))
def sg0 (x : W32) : W32 := (rotr x 7 ^^^ rotr x 18) ^^^ (x >>> 3)
def sg1 (x : W32) : W32 := (rotr x 17 ^^^ rotr x 19) ^^^ (x >>> 10)
def ws1 (s : List UInt8) : Nat → List W32
  | 0 => ws0 s 16
  | k + 1 => (ws1 s k).set (16 + k) (((ws1 s k).getD k 0 + sg0 ((ws1 s k).getD (k + 1) 0)) + (ws1 s k).getD (k + 9) 0 + sg1 ((ws1 s k).getD (k + 14) 0))
def words (s : List UInt8) : List W32 := ws1 s 48
theorem ws0_len (s : List UInt8) : ∀ t, (ws0 s t).length = 64
  | 0 => rfl
  | t + 1 => by rw [ws0, List.length_set, ws0_len s t]
theorem ws1_len (s : List UInt8) : ∀ t, (ws1 s t).length = 64
  | 0 => ws0_len s 16
  | t + 1 => by rw [ws1, List.length_set, ws1_len s t]
theorem uL_get {l : List W32} {i : Nat} (h : i < l.length) : (uL l)[i]? = some (.int .u32 (u32 (l.getD i 0))) := by
  rw [uL, List.getElem?_map, List.getElem?_eq_getElem h, List.getD_eq_getElem?_getD, List.getElem?_eq_getElem h]
  rfl
theorem uL_set (l : List W32) (i : Nat) (x : W32) : (uL l).set i (.int .u32 (u32 x)) = uL (l.set i x) := by
  unfold uL
  rw [List.map_set]
theorem uL_len (l : List W32) : (uL l).length = l.length := by rw [uL, List.length_map]
theorem uL_far (l : List W32) {y : SV} (hy : y ∈ uL l) : isFar y := by
  obtain ⟨x, _, rfl⟩ := List.mem_map.1 hy
  trivial
theorem uL_ren (f : Nat → Option Nat) : ∀ l, SV.renL f (uL l) = uL l
  | [] => rfl
  | x :: r => by
    show SV.renL f (.int .u32 (u32 x) :: uL r) = _
    rw [SV.renL, uL_ren f r]
    rfl
theorem agg_ren (f : Nat → Option Nat) (l : List W32) : SV.ren f (.agg (uL l)) = .agg (uL l) := by rw [SV.ren, uL_ren]
theorem wd_go (b : UInt8) : IntKind.u32.wrap (b.toNat : Int) = u32 (wd b) := by
  have := b.toNat_lt
  rw [wrap_u32_mod]
  unfold u32 wd
  rw [BitVec.toNat_setWidth]
  show _ = (((b.toNat) % 2 ^ 32 : Nat) : Int)
  omega
theorem be4_go (b : List UInt8) : bitOr .u32 (bitOr .u32 (bitOr .u32 (shlI .u32 (IntKind.u32.wrap ((b.getD 0 0).toNat : Int)) 24) (shlI .u32 (IntKind.u32.wrap ((b.getD 1 0).toNat : Int)) 16)) (shlI .u32 (IntKind.u32.wrap ((b.getD 2 0).toNat : Int)) 8)) (IntKind.u32.wrap ((b.getD 3 0).toNat : Int)) = u32 (be4 b) := by
  rw [wd_go, wd_go, wd_go, wd_go, show (24 : Int) = ((24 : Nat) : Int) from rfl, shl_u32 _ _ (by omega), show (16 : Int) = ((16 : Nat) : Int) from rfl, shl_u32 _ _ (by omega), show (8 : Int) = ((8 : Nat) : Int) from rfl, shl_u32 _ _ (by omega), or_u32, or_u32, or_u32]
  rfl
theorem uL_at {l : List W32} {i : Nat} {n : Int} (hn : n = (i : Int)) (h : i < l.length) : (uL l)[0 + n.toNat]? = some (.int .u32 (u32 (l.getD i 0))) := by
  rw [hn, Int.toNat_natCast, Nat.zero_add]
  exact uL_get h
theorem sg_go (x : W32) (a b : W32) (n : Nat) (hn : n ≤ 32) : bitXor .u32 (bitXor .u32 (u32 a) (u32 b)) (shrI .u32 (u32 x) (n : Int)) = u32 ((a ^^^ b) ^^^ (x >>> n)) := by
  rw [shr_u32 _ _ hn, xor_u32, xor_u32]
theorem w1_go (p q x y : W32) : IntKind.u32.wrap (IntKind.u32.wrap (IntKind.u32.wrap (u32 p + bitXor .u32 (bitXor .u32 (u32 (rotr x 7)) (u32 (rotr x 18))) (shrI .u32 (u32 x) 3)) + u32 q) + bitXor .u32 (bitXor .u32 (u32 (rotr y 17)) (u32 (rotr y 19))) (shrI .u32 (u32 y) 10)) = u32 ((p + sg0 x) + q + sg1 y) := by
  have h1 := sg_go x (rotr x 7) (rotr x 18) 3 (by omega)
  have h2 := sg_go y (rotr y 17) (rotr y 19) 10 (by omega)
  have e3 : ((3 : Nat) : Int) = 3 := rfl
  have e10 : ((10 : Nat) : Int) = 10 := rfl
  rw [e3] at h1
  rw [e10] at h2
  rw [h1, h2, add_u32, add_u32, add_u32]
  rfl
theorem normL_back {l : List SV} {k : List SV → Prop} (h : k l) : normL l k := by
  rw [normL_eq]
  exact h
def wordsS : Spec := fun args H Q => match args, H with
  | [.str s], [] => Need (s.length = 64) (Q (.agg (uL (words s))) [])
  | _, _ => False
theorem words_c : Meets Tryd.prog [] 34 wordsS := by
  refine meets_of Γok Tryd.func34 rfl ?_
  intro args H Q h
  unfold wordsS at h
  split at h
  case h_2 => exact h.elim
  rename_i s
  obtain ⟨hs, h⟩ := h
  obtain ⟨zs, hzs⟩ : ∃ zs, uL (List.replicate 64 0) = zs := ⟨_, rfl⟩
  have hzl : zs.length = 64 := by rw [← hzs, uL_len]; rfl
  (refine sx_sound Γok _ ?_; conv => whnf)
  (repeat (first | (exact Out.same; conv => whnf) | (exact Out1.same; conv => whnf) | (refine QAnd.mk ?_ ?_; conv => whnf) | (apply QStepH.go; conv => whnf) | (refine Both.lit_true ?_; conv => whnf) | (refine Both.lit_false ?_; conv => whnf) | (apply QStep.go; conv => whnf) | (refine Need.mk ?_ ?_; (focus (first | omega | exact ⟨by omega, by omega⟩ | rfl | exact ⟨rfl, rfl⟩ | exact ⟨rfl, by omega, by omega⟩ | exact ⟨by omega, by omega, by omega⟩ | exact ⟨rfl, Nat.le_of_ble_eq_true rfl⟩ | exact Nat.le_of_ble_eq_true rfl | (refine ⟨rfl, rfl, ?_⟩; simp [isFar, ofV0, CV.up, SV.renL, SV.ren] <;> fail) | (refine ⟨rfl, Nat.le_of_ble_eq_true rfl, ?_⟩; simp [isFar, ofV0, CV.up, SV.renL, SV.ren] <;> fail) | (simp only [List.length_append, List.length_drop, List.length_take, List.length_replicate, List.length_map]; omega) | (simp <;> fail))); conv => whnf) | (refine ⟨_, rfl, ?_⟩; conv => whnf)))
  refine loop_rule (fun t : Nat => ⟨[.str s, .any, .ptr 0 0, .ptr 1 0, .any, .any, .any, .any, .any, .int .i64 (t : Int), .any, .any, .any, .any, .any, .any, .any, .any, .any, .any, .any, .any, .any, .any, .any, .any, .any, .any, .any, .any, .any, .any, .any, .any, .any, .any, .any, .any, .any, .any, .any, .any, .any, .any, .any, .any, .any, .any, .any, .any, .any, .any, .any, .any, .any, .any, .any, .any, .any, .any, .any, .any, .any, .any, .any, .any, .any, .any, .any, .any, .any, .any, .any, .any, .any, .any, .any, .any, .any, .any, .any, .any], [.cells zs 66, .cells (uL (ws0 s t)) 66]⟩) (fun t => t ≤ 16) (fun t => 16 - t) 0 (by omega) (Weak.auto ?_) ?_
  · (repeat' ((conv => whnf); first | exact True.intro | (refine And.intro ?_ ?_)))
    all_goals first | rfl | exact .eq rfl | exact .eq hzs
  intro t ht
  have hwl := ws0_len s t
  (refine sx_sound Γok _ ?_; conv => whnf)
  (repeat (first | (exact Out.same; conv => whnf) | (exact Out1.same; conv => whnf) | (refine QAnd.mk ?_ ?_; conv => whnf) | (apply QStepH.go; conv => whnf) | (refine Both.lit_true ?_; conv => whnf) | (refine Both.lit_false ?_; conv => whnf) | (apply QStep.go; conv => whnf) | (refine Need.mk ?_ ?_; (focus (first | omega | exact ⟨by omega, by omega⟩ | rfl | exact ⟨rfl, rfl⟩ | exact ⟨rfl, by omega, by omega⟩ | exact ⟨by omega, by omega, by omega⟩ | exact ⟨rfl, Nat.le_of_ble_eq_true rfl⟩ | exact Nat.le_of_ble_eq_true rfl | (refine ⟨rfl, rfl, ?_⟩; simp [isFar, ofV0, CV.up, SV.renL, SV.ren] <;> fail) | (refine ⟨rfl, Nat.le_of_ble_eq_true rfl, ?_⟩; simp [isFar, ofV0, CV.up, SV.renL, SV.ren] <;> fail) | (simp only [List.length_append, List.length_drop, List.length_take, List.length_replicate, List.length_map]; omega) | (simp <;> fail))); conv => whnf) | (refine ⟨_, rfl, ?_⟩; conv => whnf)))
  refine Both.dec (fun hlt => ?_) (fun hge => ?_)
  · have ht16 : t < 16 := by omega
    have h4 : IntKind.i64.wrap (4 * (t : Int)) = ((4 * t : Nat) : Int) := by rw [wrap_i64 (by omega) (by omega)]; omega
    have h44 : IntKind.i64.wrap (((4 * t : Nat) : Int) + 4) = ((4 * t + 4 : Nat) : Int) := by rw [wrap_i64 (by omega) (by omega)]; omega
    have hwr : IntKind.i64.wrap ((t : Int) + 1) = ((t + 1 : Nat) : Int) := by rw [wrap_i64 (by omega) (by omega)]; rfl
    (conv => whnf)
    (repeat (first | (exact Out.same; conv => whnf) | (exact Out1.same; conv => whnf) | (refine QAnd.mk ?_ ?_; conv => whnf) | (apply QStepH.go; conv => whnf) | (refine Both.lit_true ?_; conv => whnf) | (refine Both.lit_false ?_; conv => whnf) | (apply QStep.go; conv => whnf) | (refine Need.mk ?_ ?_; (focus (first | omega | exact ⟨by omega, by omega⟩ | rfl | exact ⟨rfl, rfl⟩ | exact ⟨rfl, by omega, by omega⟩ | exact ⟨by omega, by omega, by omega⟩ | exact ⟨rfl, Nat.le_of_ble_eq_true rfl⟩ | exact Nat.le_of_ble_eq_true rfl | (refine ⟨rfl, rfl, ?_⟩; simp [isFar, ofV0, CV.up, SV.renL, SV.ren] <;> fail) | (refine ⟨rfl, Nat.le_of_ble_eq_true rfl, ?_⟩; simp [isFar, ofV0, CV.up, SV.renL, SV.ren] <;> fail) | (simp only [List.length_append, List.length_drop, List.length_take, List.length_replicate, List.length_map]; omega) | (simp <;> fail))); conv => whnf) | (refine ⟨_, rfl, ?_⟩; conv => whnf)))
    rw [h4, h44]
    (repeat (first | (exact Out.same; conv => whnf) | (exact Out1.same; conv => whnf) | (refine QAnd.mk ?_ ?_; conv => whnf) | (apply QStepH.go; conv => whnf) | (refine Both.lit_true ?_; conv => whnf) | (refine Both.lit_false ?_; conv => whnf) | (apply QStep.go; conv => whnf) | (refine Need.mk ?_ ?_; (focus (first | omega | exact ⟨by omega, by omega⟩ | rfl | exact ⟨rfl, rfl⟩ | exact ⟨rfl, by omega, by omega⟩ | exact ⟨by omega, by omega, by omega⟩ | exact ⟨rfl, Nat.le_of_ble_eq_true rfl⟩ | exact Nat.le_of_ble_eq_true rfl | (refine ⟨rfl, rfl, ?_⟩; simp [isFar, ofV0, CV.up, SV.renL, SV.ren] <;> fail) | (refine ⟨rfl, Nat.le_of_ble_eq_true rfl, ?_⟩; simp [isFar, ofV0, CV.up, SV.renL, SV.ren] <;> fail) | (simp only [List.length_append, List.length_drop, List.length_take, List.length_replicate, List.length_map]; omega) | (simp <;> fail))); conv => whnf) | (refine ⟨_, rfl, ?_⟩; conv => whnf)))
    obtain ⟨b, hb⟩ : ∃ b, List.drop (((4 * t : Nat) : Int)).toNat (List.take (((4 * t + 4 : Nat) : Int)).toNat s) = b := ⟨_, rfl⟩
    have hb' : List.drop (4 * t) (List.take (4 * t + 4) s) = b := hb
    have hbl : b.length = 4 := by rw [← hb', List.length_drop, List.length_take]; omega
    have hset : (uL (ws0 s t)).set (0 + ((t : Int)).toNat) (.int .u32 (bitOr .u32 (bitOr .u32 (bitOr .u32 (shlI .u32 (IntKind.u32.wrap ((b.getD 0 0).toNat : Int)) 24) (shlI .u32 (IntKind.u32.wrap ((b.getD 1 0).toNat : Int)) 16)) (shlI .u32 (IntKind.u32.wrap ((b.getD 2 0).toNat : Int)) 8)) (IntKind.u32.wrap ((b.getD 3 0).toNat : Int)))) = uL (ws0 s (t + 1)) := by
      rw [be4_go, ws0, hb', ← uL_set]
      congr 1
      omega
    have hul : 0 + ((t : Int)).toNat < (uL (ws0 s t)).length := by rw [uL_len, hwl]; omega
    have hul2 : (1 : Nat) = 1 ∧ 0 + ((t : Int)).toNat < (uL (ws0 s t)).length := ⟨rfl, hul⟩
    rw [hb]
    clear hb
    (refine DrawVC.any Γok (by kernel_rfl) (by kernel_rfl) (by kernel_rfl) (by rfl) ?_; conv => whnf)
    (repeat (first | (refine Need.mk hul ?_; conv => whnf) | (refine Need.mk hul2 ?_; conv => whnf) | (exact Out.same; conv => whnf) | (exact Out1.same; conv => whnf) | (refine QAnd.mk ?_ ?_; conv => whnf) | (apply QStepH.go; conv => whnf) | (refine Both.lit_true ?_; conv => whnf) | (refine Both.lit_false ?_; conv => whnf) | (apply QStep.go; conv => whnf) | (refine Need.mk ?_ ?_; (focus (first | omega | exact ⟨by omega, by omega⟩ | rfl | exact ⟨rfl, rfl⟩ | exact ⟨rfl, by omega, by omega⟩ | exact ⟨by omega, by omega, by omega⟩ | exact ⟨rfl, Nat.le_of_ble_eq_true rfl⟩ | exact Nat.le_of_ble_eq_true rfl | (refine ⟨rfl, rfl, ?_⟩; simp [isFar, ofV0, CV.up, SV.renL, SV.ren] <;> fail) | (refine ⟨rfl, Nat.le_of_ble_eq_true rfl, ?_⟩; simp [isFar, ofV0, CV.up, SV.renL, SV.ren] <;> fail) | (simp only [List.length_append, List.length_drop, List.length_take, List.length_replicate, List.length_map]; omega) | (simp <;> fail))); conv => whnf) | (refine ⟨_, rfl, ?_⟩; conv => whnf)))
    refine ⟨t + 1, by omega, by omega, Weak.le ?_ ?_⟩
    · (repeat' ((conv => whnf); first | exact True.intro | (refine And.intro ?_ ?_)))
      all_goals first | rfl | exact .eq rfl | exact congrArg (SV.int .i64) hwr | trace_state
    · (repeat' ((conv => whnf); first | exact True.intro | (refine And.intro ?_ ?_)))
      all_goals first | exact .eq hset | rfl | exact .eq rfl | trace_state
  have ht16 : t = 16 := by omega
  subst ht16
  (conv => whnf)
  (repeat (first | (exact Out.same; conv => whnf) | (exact Out1.same; conv => whnf) | (refine QAnd.mk ?_ ?_; conv => whnf) | (apply QStepH.go; conv => whnf) | (refine Both.lit_true ?_; conv => whnf) | (refine Both.lit_false ?_; conv => whnf) | (apply QStep.go; conv => whnf) | (refine Need.mk ?_ ?_; (focus (first | omega | exact ⟨by omega, by omega⟩ | rfl | exact ⟨rfl, rfl⟩ | exact ⟨rfl, by omega, by omega⟩ | exact ⟨by omega, by omega, by omega⟩ | exact ⟨rfl, Nat.le_of_ble_eq_true rfl⟩ | exact Nat.le_of_ble_eq_true rfl | (refine ⟨rfl, rfl, ?_⟩; simp [isFar, ofV0, CV.up, SV.renL, SV.ren] <;> fail) | (refine ⟨rfl, Nat.le_of_ble_eq_true rfl, ?_⟩; simp [isFar, ofV0, CV.up, SV.renL, SV.ren] <;> fail) | (simp only [List.length_append, List.length_drop, List.length_take, List.length_replicate, List.length_map]; omega) | (simp <;> fail))); conv => whnf) | (refine ⟨_, rfl, ?_⟩; conv => whnf)))
  refine loop_rule (fun k : Nat => ⟨[.any, .any, .ptr 0 0, .ptr 1 0, .any, .any, .int .i64 ((16 + k : Nat) : Int), .any, .any, .any, .any, .any, .any, .any, .any, .any, .any, .any, .any, .any, .any, .any, .any, .any, .any, .any, .any, .any, .any, .any, .any, .any, .any, .any, .any, .any, .any, .any, .any, .any, .any, .any, .any, .any, .any, .any, .any, .any, .any, .any, .any, .any, .any, .any, .any, .any, .any, .any, .any, .any, .any, .any, .any, .any, .any, .any, .any, .any, .any, .any, .any, .any, .any, .any, .any, .any, .any, .any, .any, .any, .any, .any], [.cells zs 66, .cells (uL (ws1 s k)) 66]⟩) (fun k => k ≤ 48) (fun k => 48 - k) 0 (by omega) (Weak.le ?_ ?_) ?_
  · (repeat' ((conv => whnf); first | exact True.intro | (refine And.intro ?_ ?_)))
    all_goals first | rfl | exact .eq rfl
  · (repeat' ((conv => whnf); first | exact True.intro | (refine And.intro ?_ ?_)))
    all_goals first | rfl | exact .eq rfl
  intro k hk
  have hwl := ws1_len s k
  (refine sx_sound Γok _ ?_; conv => whnf)
  (repeat (first | (exact Out.same; conv => whnf) | (exact Out1.same; conv => whnf) | (refine QAnd.mk ?_ ?_; conv => whnf) | (apply QStepH.go; conv => whnf) | (refine Both.lit_true ?_; conv => whnf) | (refine Both.lit_false ?_; conv => whnf) | (apply QStep.go; conv => whnf) | (refine Need.mk ?_ ?_; (focus (first | omega | exact ⟨by omega, by omega⟩ | rfl | exact ⟨rfl, rfl⟩ | exact ⟨rfl, by omega, by omega⟩ | exact ⟨by omega, by omega, by omega⟩ | exact ⟨rfl, Nat.le_of_ble_eq_true rfl⟩ | exact Nat.le_of_ble_eq_true rfl | (refine ⟨rfl, rfl, ?_⟩; simp [isFar, ofV0, CV.up, SV.renL, SV.ren] <;> fail) | (refine ⟨rfl, Nat.le_of_ble_eq_true rfl, ?_⟩; simp [isFar, ofV0, CV.up, SV.renL, SV.ren] <;> fail) | (simp only [List.length_append, List.length_drop, List.length_take, List.length_replicate, List.length_map]; omega) | (simp <;> fail))); conv => whnf) | (refine ⟨_, rfl, ?_⟩; conv => whnf)))
  refine Both.dec (fun hlt => ?_) (fun hge => ?_)
  · have hk48 : k < 48 := by omega
    have hwr : IntKind.i64.wrap (((16 + k : Nat) : Int) + 1) = ((16 + (k + 1) : Nat) : Int) := by rw [wrap_i64 (by omega) (by omega)]; omega
    have i15 : IntKind.i64.wrap (((16 + k : Nat) : Int) - 15) = ((k + 1 : Nat) : Int) := by rw [wrap_i64 (by omega) (by omega)]; omega
    have i2 : IntKind.i64.wrap (((16 + k : Nat) : Int) - 2) = ((k + 14 : Nat) : Int) := by rw [wrap_i64 (by omega) (by omega)]; omega
    have i16 : IntKind.i64.wrap (((16 + k : Nat) : Int) - 16) = ((k : Nat) : Int) := by rw [wrap_i64 (by omega) (by omega)]; omega
    have i7 : IntKind.i64.wrap (((16 + k : Nat) : Int) - 7) = ((k + 9 : Nat) : Int) := by rw [wrap_i64 (by omega) (by omega)]; omega
    (conv => whnf)
    (repeat (first | (exact Out.same; conv => whnf) | (exact Out1.same; conv => whnf) | (refine QAnd.mk ?_ ?_; conv => whnf) | (apply QStepH.go; conv => whnf) | (refine Both.lit_true ?_; conv => whnf) | (refine Both.lit_false ?_; conv => whnf) | (apply QStep.go; conv => whnf) | (refine Need.mk ?_ ?_; (focus (first | omega | exact ⟨by omega, by omega⟩ | rfl | exact ⟨rfl, rfl⟩ | exact ⟨rfl, by omega, by omega⟩ | exact ⟨by omega, by omega, by omega⟩ | exact ⟨rfl, Nat.le_of_ble_eq_true rfl⟩ | exact Nat.le_of_ble_eq_true rfl | (refine ⟨rfl, rfl, ?_⟩; simp [isFar, ofV0, CV.up, SV.renL, SV.ren] <;> fail) | (refine ⟨rfl, Nat.le_of_ble_eq_true rfl, ?_⟩; simp [isFar, ofV0, CV.up, SV.renL, SV.ren] <;> fail) | (simp only [List.length_append, List.length_drop, List.length_take, List.length_replicate, List.length_map]; omega) | (simp <;> fail))); conv => whnf) | (refine ⟨_, rfl, ?_⟩; conv => whnf)))
    have g15 := uL_at (l := ws1 s k) i15 (by omega)
    have g2 := uL_at (l := ws1 s k) i2 (by omega)
    have g16 := uL_at (l := ws1 s k) i16 (by omega)
    have g7 := uL_at (l := ws1 s k) i7 (by omega)
    have hws : ws1 s (k + 1) = (ws1 s k).set (16 + k) (((ws1 s k).getD k 0 + sg0 ((ws1 s k).getD (k + 1) 0)) + (ws1 s k).getD (k + 9) 0 + sg1 ((ws1 s k).getD (k + 14) 0)) := rfl
    have hix : 0 + (((16 + k : Nat) : Int)).toNat = 16 + k := by omega
    revert g15 g2 g16 g7 hws
    generalize (ws1 s k).getD (k + 1) 0 = x
    generalize (ws1 s k).getD (k + 14) 0 = y
    generalize (ws1 s k).getD k 0 = p
    generalize (ws1 s k).getD (k + 9) 0 = q
    generalize ws1 s k = ws at hwl ⊢
    intro g15 g2 g16 g7 hws
    have hul2 : (1 : Nat) = 1 ∧ 0 + (((16 + k : Nat) : Int)).toNat < (uL ws).length := ⟨rfl, by rw [uL_len, hwl]; omega⟩
    have hset : (uL ws).set (0 + (((16 + k : Nat) : Int)).toNat) (.int .u32 (IntKind.u32.wrap (IntKind.u32.wrap (IntKind.u32.wrap (u32 p + bitXor .u32 (bitXor .u32 (u32 (rotr x 7)) (u32 (rotr x 18))) (shrI .u32 (u32 x) 3)) + u32 q) + bitXor .u32 (bitXor .u32 (u32 (rotr y 17)) (u32 (rotr y 19))) (shrI .u32 (u32 y) 10)))) = uL (ws1 s (k + 1)) := by
      rw [w1_go, hix, uL_set, hws]
    (refine DrawVC.any Γok (by kernel_rfl) (by kernel_rfl) (by kernel_rfl) (by rfl) ?_; conv => whnf)
    (repeat (first | (refine ⟨_, g15, ?_⟩; conv => whnf) | (refine ⟨_, g2, ?_⟩; conv => whnf) | (exact Out.same; conv => whnf) | (exact Out1.same; conv => whnf) | (refine QAnd.mk ?_ ?_; conv => whnf) | (apply QStepH.go; conv => whnf) | (refine Both.lit_true ?_; conv => whnf) | (refine Both.lit_false ?_; conv => whnf) | (apply QStep.go; conv => whnf) | (refine Need.mk ?_ ?_; (focus (first | omega | exact ⟨by omega, by omega⟩ | rfl | exact ⟨rfl, rfl⟩ | exact ⟨rfl, by omega, by omega⟩ | exact ⟨by omega, by omega, by omega⟩ | exact ⟨rfl, Nat.le_of_ble_eq_true rfl⟩ | exact Nat.le_of_ble_eq_true rfl | (refine ⟨rfl, rfl, ?_⟩; simp [isFar, ofV0, CV.up, SV.renL, SV.ren] <;> fail) | (refine ⟨rfl, Nat.le_of_ble_eq_true rfl, ?_⟩; simp [isFar, ofV0, CV.up, SV.renL, SV.ren] <;> fail) | (simp only [List.length_append, List.length_drop, List.length_take, List.length_replicate, List.length_map]; omega) | (simp <;> fail))); conv => whnf) | (refine ⟨_, rfl, ?_⟩; conv => whnf)))
    (refine DrawVC.any Γok (by kernel_rfl) (by kernel_rfl) (by kernel_rfl) (by rfl) ?_; conv => whnf)
    (repeat (first | (refine normL_back ?_; conv => whnf) | (refine ⟨_, g16, ?_⟩; conv => whnf) | (refine ⟨_, g7, ?_⟩; conv => whnf) | (refine Need.mk hul2 ?_; conv => whnf) | (refine CallVC.auto turn_k ⟨_, 7, rfl, rfl, ⟨by decide, by decide⟩, ?_⟩; conv => whnf) | (refine CallVC.auto turn_k ⟨_, 18, rfl, rfl, ⟨by decide, by decide⟩, ?_⟩; conv => whnf) | (refine CallVC.auto turn_k ⟨_, 17, rfl, rfl, ⟨by decide, by decide⟩, ?_⟩; conv => whnf) | (refine CallVC.auto turn_k ⟨_, 19, rfl, rfl, ⟨by decide, by decide⟩, ?_⟩; conv => whnf) | (exact Out.same; conv => whnf) | (exact Out1.same; conv => whnf) | (refine QAnd.mk ?_ ?_; conv => whnf) | (apply QStepH.go; conv => whnf) | (refine Both.lit_true ?_; conv => whnf) | (refine Both.lit_false ?_; conv => whnf) | (apply QStep.go; conv => whnf) | (refine Need.mk ?_ ?_; (focus (first | omega | exact ⟨by omega, by omega⟩ | rfl | exact ⟨rfl, rfl⟩ | exact ⟨rfl, by omega, by omega⟩ | exact ⟨by omega, by omega, by omega⟩ | exact ⟨rfl, Nat.le_of_ble_eq_true rfl⟩ | exact Nat.le_of_ble_eq_true rfl | (refine ⟨rfl, rfl, ?_⟩; simp [isFar, ofV0, CV.up, SV.renL, SV.ren] <;> fail) | (refine ⟨rfl, Nat.le_of_ble_eq_true rfl, ?_⟩; simp [isFar, ofV0, CV.up, SV.renL, SV.ren] <;> fail) | (simp only [List.length_append, List.length_drop, List.length_take, List.length_replicate, List.length_map]; omega) | (simp <;> fail))); conv => whnf) | (refine ⟨_, rfl, ?_⟩; conv => whnf)))
    refine ⟨k + 1, by omega, by omega, Weak.le ?_ ?_⟩
    · (repeat' ((conv => whnf); first | exact True.intro | (refine And.intro ?_ ?_)))
      all_goals first | rfl | exact .eq rfl | exact congrArg (SV.int .i64) hwr | trace_state
    · (repeat' ((conv => whnf); first | exact True.intro | (refine And.intro ?_ ?_)))
      all_goals first | exact .eq hset | rfl | exact .eq rfl | trace_state
  have hk48 : k = 48 := by omega
  have h : Q (.agg (uL (ws1 s k))) [] := by rw [hk48]; exact h
  revert h hwl
  generalize ws1 s k = wf
  intro hwl h
  have hlw : (uL wf).length = ti66.size := by rw [uL_len]; exact hwl
  (conv => whnf)
  have hst : (uL wf).length = ti66.size ∧ zs.length = ti66.size ∧ ∀ y, y ∈ uL wf → isFar y := ⟨hlw, hzl, fun y hy => uL_far _ hy⟩
  (repeat (first | (refine Need.mk hlw ?_; conv => whnf) | (refine Need.mk hst ?_; conv => whnf) | (exact Out.same; conv => whnf) | (exact Out1.same; conv => whnf) | (refine QAnd.mk ?_ ?_; conv => whnf) | (apply QStepH.go; conv => whnf) | (refine Both.lit_true ?_; conv => whnf) | (refine Both.lit_false ?_; conv => whnf) | (apply QStep.go; conv => whnf) | (refine Need.mk ?_ ?_; (focus (first | omega | exact ⟨by omega, by omega⟩ | rfl | exact ⟨rfl, rfl⟩ | exact ⟨rfl, by omega, by omega⟩ | exact ⟨by omega, by omega, by omega⟩ | exact ⟨rfl, Nat.le_of_ble_eq_true rfl⟩ | exact Nat.le_of_ble_eq_true rfl | (refine ⟨rfl, rfl, ?_⟩; simp [isFar, ofV0, CV.up, SV.renL, SV.ren] <;> fail) | (refine ⟨rfl, Nat.le_of_ble_eq_true rfl, ?_⟩; simp [isFar, ofV0, CV.up, SV.renL, SV.ren] <;> fail) | (simp only [List.length_append, List.length_drop, List.length_take, List.length_replicate, List.length_map]; omega) | (simp <;> fail))); conv => whnf) | (refine ⟨_, rfl, ?_⟩; conv => whnf)))
  exact ⟨.agg (uL wf), _, WeakV.drop (agg_ren _ wf), h⟩
theorem words_k : Contract Tryd.prog [] 34 wordsS := ⟨⟨⟨_, rfl, rfl, rfl⟩⟩, words_c⟩
end Go.LX
