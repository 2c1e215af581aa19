import Derived.Test.YtiokggkoidiicaaDoorWireW
set_option maxRecDepth 100000
set_option maxHeartbeats 4000000
set_option autoImplicit false
set_option linter.unusedVariables false
set_option linter.unusedSimpArgs false
namespace Go.LX
open Go.Proofs

/-! ## A reader -/
def rd (e : Int) (s : List UInt8) : List LObj := [.cells [.int .i64 e, .str s] 72]
/-- Whether so many bytes are read. -/
def rdOk (e n : Int) (s : List UInt8) : Bool := decide (e = 0 ∧ 0 ≤ n ∧ n ≤ s.length)
def rdE (e n : Int) (s : List UInt8) : Int := if e = 0 then (if 0 ≤ n ∧ n ≤ s.length then 0 else 6) else e
def rdT (e n : Int) (s : List UInt8) : List UInt8 := if rdOk e n s then s.take n.toNat else []
def rdS (e n : Int) (s : List UInt8) : List UInt8 := if rdOk e n s then s.drop n.toNat else s
def rrawS : Spec := fun args H Q => match args, H with
  | [.ptr 0 0, .int .i64 n], [.cells [.int .i64 e, .str s] 72] => s.length < 1000000 ∧ Q (.str (rdT e n s)) (rd (rdE e n s) (rdS e n s))
  | _, _ => False
theorem rraw_c : Meets Tryd.prog [] 28 rrawS := by
  refine meets_of Γok Tryd.func28 rfl ?_
  intro args H Q h
  unfold rrawS at h
  split at h
  case h_2 => exact h.elim
  rename_i n e s
  obtain ⟨hs, h⟩ := h
  have bad : ∀ h0 : ¬ (0 ≤ n ∧ n ≤ s.length), rdT e n s = [] ∧ rdS e n s = s ∧ rdE e n s = (if e = 0 then 6 else e) := by
    intro h0
    have : rdOk e n s = false := decide_eq_false (by omega)
    simp [rdT, rdS, rdE, this, h0]
  (refine sx_sound Γok _ ?_; conv => whnf)
  refine Both.dec (fun h0 => ?_) (fun h0 => ?_)
  · (conv => whnf)
    (repeat (first | (refine Both.lit_true ?_; conv => whnf) | (refine Both.lit_false ?_; conv => whnf) | (refine Need.mk ?_ ?_; (focus (first | omega | exact ⟨by omega, by omega⟩ | rfl | exact ⟨rfl, rfl⟩ | exact ⟨rfl, Nat.le_of_ble_eq_true rfl⟩ | exact Nat.le_of_ble_eq_true rfl | (refine ⟨rfl, rfl, ?_⟩; simp [isFar, ofV0, CV.up, SV.renL, SV.ren] <;> fail) | (refine ⟨rfl, Nat.le_of_ble_eq_true rfl, ?_⟩; simp [isFar, ofV0, CV.up, SV.renL, SV.ren] <;> fail) | (simp <;> fail))); conv => whnf)))
    refine CallVC.of [0] fail_k ⟨.inr rfl, ?_⟩
    (conv => whnf)
    refine CallVC.of [0] err_k ⟨.inr rfl, ?_⟩
    (conv => whnf)
    refine Both.of_true (by rw [Bool.not_eq_true', decide_eq_false_iff_not]; split <;> omega) ?_
    (conv => whnf)
    obtain ⟨b1, b2, b3⟩ := bad (by omega)
    rw [b1, b2, b3] at h
    exact ⟨_, _, WeakV.refl _ _ _ _, h⟩
  · (conv => whnf)
    (repeat (first | (refine Both.lit_true ?_; conv => whnf) | (refine Both.lit_false ?_; conv => whnf) | (refine Need.mk ?_ ?_; (focus (first | omega | exact ⟨by omega, by omega⟩ | rfl | exact ⟨rfl, rfl⟩ | exact ⟨rfl, Nat.le_of_ble_eq_true rfl⟩ | exact Nat.le_of_ble_eq_true rfl | (refine ⟨rfl, rfl, ?_⟩; simp [isFar, ofV0, CV.up, SV.renL, SV.ren] <;> fail) | (refine ⟨rfl, Nat.le_of_ble_eq_true rfl, ?_⟩; simp [isFar, ofV0, CV.up, SV.renL, SV.ren] <;> fail) | (simp <;> fail))); conv => whnf)))
    (refine ⟨_, rfl, ?_⟩; conv => whnf)
    (repeat (first | (refine Both.lit_true ?_; conv => whnf) | (refine Both.lit_false ?_; conv => whnf) | (refine Need.mk ?_ ?_; (focus (first | omega | exact ⟨by omega, by omega⟩ | rfl | exact ⟨rfl, rfl⟩ | exact ⟨rfl, Nat.le_of_ble_eq_true rfl⟩ | exact Nat.le_of_ble_eq_true rfl | (refine ⟨rfl, rfl, ?_⟩; simp [isFar, ofV0, CV.up, SV.renL, SV.ren] <;> fail) | (refine ⟨rfl, Nat.le_of_ble_eq_true rfl, ?_⟩; simp [isFar, ofV0, CV.up, SV.renL, SV.ren] <;> fail) | (simp <;> fail))); conv => whnf)))
    refine Both.dec (fun h1 => ?_) (fun h1 => ?_)
    · (conv => whnf)
      (repeat (first | (refine Both.lit_true ?_; conv => whnf) | (refine Both.lit_false ?_; conv => whnf) | (refine Need.mk ?_ ?_; (focus (first | omega | exact ⟨by omega, by omega⟩ | rfl | exact ⟨rfl, rfl⟩ | exact ⟨rfl, Nat.le_of_ble_eq_true rfl⟩ | exact Nat.le_of_ble_eq_true rfl | (refine ⟨rfl, rfl, ?_⟩; simp [isFar, ofV0, CV.up, SV.renL, SV.ren] <;> fail) | (refine ⟨rfl, Nat.le_of_ble_eq_true rfl, ?_⟩; simp [isFar, ofV0, CV.up, SV.renL, SV.ren] <;> fail) | (simp <;> fail))); conv => whnf)))
      refine CallVC.of [0] fail_k ⟨.inr rfl, ?_⟩
      (conv => whnf)
      refine CallVC.of [0] err_k ⟨.inr rfl, ?_⟩
      (conv => whnf)
      refine Both.of_true (by rw [Bool.not_eq_true', decide_eq_false_iff_not]; split <;> omega) ?_
      (conv => whnf)
      obtain ⟨b1, b2, b3⟩ := bad (by omega)
      rw [b1, b2, b3] at h
      exact ⟨_, _, WeakV.refl _ _ _ _, h⟩
    · (conv => whnf)
      (repeat (first | (refine Both.lit_true ?_; conv => whnf) | (refine Both.lit_false ?_; conv => whnf) | (refine Need.mk ?_ ?_; (focus (first | omega | exact ⟨by omega, by omega⟩ | rfl | exact ⟨rfl, rfl⟩ | exact ⟨rfl, Nat.le_of_ble_eq_true rfl⟩ | exact Nat.le_of_ble_eq_true rfl | (refine ⟨rfl, rfl, ?_⟩; simp [isFar, ofV0, CV.up, SV.renL, SV.ren] <;> fail) | (refine ⟨rfl, Nat.le_of_ble_eq_true rfl, ?_⟩; simp [isFar, ofV0, CV.up, SV.renL, SV.ren] <;> fail) | (simp <;> fail))); conv => whnf)))
      refine CallVC.of [0] err_k ⟨.inr rfl, ?_⟩
      (conv => whnf)
      refine Both.dec_not (fun he => ?_) (fun he => ?_)
      · (conv => whnf)
        rw [show rdT e n s = [] by simp [rdT, rdOk, he], show rdS e n s = s by simp [rdS, rdOk, he], show rdE e n s = e by simp [rdE, he]] at h
        exact ⟨_, _, WeakV.refl _ _ _ _, h⟩
      · (conv => whnf)
        subst he
        have hok : rdOk 0 n s = true := decide_eq_true ⟨rfl, by omega, by omega⟩
        (repeat (first | (refine Both.lit_true ?_; conv => whnf) | (refine Both.lit_false ?_; conv => whnf) | (refine Need.mk ?_ ?_; (focus (first | omega | exact ⟨by omega, by omega⟩ | rfl | exact ⟨rfl, rfl⟩ | exact ⟨rfl, Nat.le_of_ble_eq_true rfl⟩ | exact Nat.le_of_ble_eq_true rfl | (refine ⟨rfl, rfl, ?_⟩; simp [isFar, ofV0, CV.up, SV.renL, SV.ren] <;> fail) | (refine ⟨rfl, Nat.le_of_ble_eq_true rfl, ?_⟩; simp [isFar, ofV0, CV.up, SV.renL, SV.ren] <;> fail) | (simp <;> fail))); conv => whnf)))
        (refine ⟨_, rfl, ?_⟩; conv => whnf)
        refine Need.mk ⟨by omega, by omega, by omega⟩ ?_
        (conv => whnf)
        (repeat (first | (refine Both.lit_true ?_; conv => whnf) | (refine Both.lit_false ?_; conv => whnf) | (refine Need.mk ?_ ?_; (focus (first | omega | exact ⟨by omega, by omega⟩ | rfl | exact ⟨rfl, rfl⟩ | exact ⟨rfl, Nat.le_of_ble_eq_true rfl⟩ | exact Nat.le_of_ble_eq_true rfl | (refine ⟨rfl, rfl, ?_⟩; simp [isFar, ofV0, CV.up, SV.renL, SV.ren] <;> fail) | (refine ⟨rfl, Nat.le_of_ble_eq_true rfl, ?_⟩; simp [isFar, ofV0, CV.up, SV.renL, SV.ren] <;> fail) | (simp <;> fail))); conv => whnf)))
        (refine ⟨_, rfl, ?_⟩; conv => whnf)
        refine Need.mk ⟨by omega, by omega, by omega⟩ ?_
        (conv => whnf)
        (repeat (first | (refine Both.lit_true ?_; conv => whnf) | (refine Both.lit_false ?_; conv => whnf) | (refine Need.mk ?_ ?_; (focus (first | omega | exact ⟨by omega, by omega⟩ | rfl | exact ⟨rfl, rfl⟩ | exact ⟨rfl, Nat.le_of_ble_eq_true rfl⟩ | exact Nat.le_of_ble_eq_true rfl | (refine ⟨rfl, rfl, ?_⟩; simp [isFar, ofV0, CV.up, SV.renL, SV.ren] <;> fail) | (refine ⟨rfl, Nat.le_of_ble_eq_true rfl, ?_⟩; simp [isFar, ofV0, CV.up, SV.renL, SV.ren] <;> fail) | (simp <;> fail))); conv => whnf)))
        rw [show rdT 0 n s = s.take n.toNat by simp [rdT, hok], show rdS 0 n s = s.drop n.toNat by simp [rdS, hok], show rdE 0 n s = 0 by simp [rdE]; omega] at h
        refine ⟨_, _, WeakV.to [0] rfl rfl rfl ?_ ?_, h⟩
        · exact congrArg SV.str rfl
        · (repeat' ((conv => whnf); first | exact True.intro | (refine And.intro ?_ ?_)))
          all_goals first | rfl | exact .eq rfl | (refine .eq ?_; rw [show List.drop n.toNat s = List.drop n.toNat (List.take (s.length : Int).toNat s) by rw [Int.toNat_natCast, List.take_length]]; rfl)
theorem rraw_k : Contract Tryd.prog [] 28 rrawS := ⟨⟨⟨_, rfl, rfl, rfl⟩⟩, rraw_c⟩

def rdLeft (e : Int) (s : List UInt8) : Int := if e = 0 then s.length else 0
def rdEnd (e : Int) (s : List UInt8) : Int := if 0 < rdLeft e s then 7 else e
def leftS : Spec := fun args H Q => match args, H with
  | [.ptr 0 0], [.cells [.int .i64 e, .str s] 72] => Q (.int .i64 (rdLeft e s)) (rd e s)
  | _, _ => False
theorem left_c : Meets Tryd.prog [] 32 leftS := by
  refine meets_of Γok Tryd.func32 rfl ?_
  intro args H Q h
  unfold leftS at h
  split at h
  case h_2 => exact h.elim
  (refine sx_sound Γok _ ?_; conv => whnf)
  refine CallVC.of [0] err_k ⟨.inr rfl, ?_⟩
  (conv => whnf)
  refine Both.dec_not (fun he => ?_) (fun he => ?_)
  · (conv => whnf)
    rw [rdLeft, if_neg he] at h
    exact ⟨_, _, WeakV.refl _ _ _ _, h⟩
  · (conv => whnf)
    (repeat (first | (refine Both.lit_true ?_; conv => whnf) | (refine Both.lit_false ?_; conv => whnf) | (refine Need.mk ?_ ?_; (focus (first | omega | exact ⟨by omega, by omega⟩ | rfl | exact ⟨rfl, rfl⟩ | exact ⟨rfl, Nat.le_of_ble_eq_true rfl⟩ | exact Nat.le_of_ble_eq_true rfl | (refine ⟨rfl, rfl, ?_⟩; simp [isFar, ofV0, CV.up, SV.renL, SV.ren] <;> fail) | (refine ⟨rfl, Nat.le_of_ble_eq_true rfl, ?_⟩; simp [isFar, ofV0, CV.up, SV.renL, SV.ren] <;> fail) | (simp <;> fail))); conv => whnf)))
    (refine ⟨_, rfl, ?_⟩; conv => whnf)
    rw [rdLeft, if_pos he] at h
    exact ⟨_, _, WeakV.refl _ _ _ _, h⟩
theorem left_k : Contract Tryd.prog [] 32 leftS := ⟨⟨⟨_, rfl, rfl, rfl⟩⟩, left_c⟩
def endS : Spec := fun args H Q => match args, H with
  | [.ptr 0 0], [.cells [.int .i64 e, .str s] 72] => Q (.int .i64 (rdEnd e s)) (rd e s)
  | _, _ => False
/-- A number of bytes. -/
def bev (l : List UInt8) : Nat := l.foldl (fun n b => n * 256 + b.toNat) 0
theorem bev_app (l : List UInt8) (b : UInt8) : bev (l ++ [b]) = bev l * 256 + b.toNat := by simp [bev]
theorem bev_from (l : List UInt8) : ∀ (a m : Nat), a < 256 ^ m → l.foldl (fun n b => n * 256 + b.toNat) a < 256 ^ (m + l.length) := by
  induction l with
  | nil => intro a m h; simpa using h
  | cons b l ih =>
    intro a m h
    rw [List.foldl_cons, List.length_cons, show m + (l.length + 1) = (m + 1) + l.length by omega]
    refine ih _ _ ?_
    have := b.toNat_lt
    rw [Nat.pow_succ]
    omega
theorem bev_lt (l : List UInt8) : bev l < 256 ^ l.length := by
  have := bev_from l 0 0 (by simp)
  rw [Nat.zero_add] at this
  exact this
theorem bys_get {l : List UInt8} {i : Nat} (h : i < l.length) : (bys l)[((i : Nat) : Int).toNat]? = some (.int .u8 (l[i].toNat : Int)) := by
  rw [Int.toNat_natCast, bys, List.getElem?_map, List.getElem?_eq_getElem h]
  rfl
theorem bev_take (l : List UInt8) {k : Nat} (h : k < l.length) : bev (l.take (k + 1)) = bev (l.take k) * 256 + l[k].toNat := by
  rw [List.take_succ_eq_append_getElem h, bev_app]
theorem bev_room (l : List UInt8) {k : Nat} (h : k < l.length) (h8 : l.length ≤ 8) : bev (l.take k) * 256 + 256 ≤ 18446744073709551616 := by
  have h1 := bev_lt (l.take k)
  rw [List.length_take, Nat.min_eq_left (by omega)] at h1
  have h2 : 256 ^ k ≤ 256 ^ 7 := Nat.pow_le_pow_right (by omega) (by omega)
  have h3 : (256 : Nat) ^ 7 = 72057594037927936 := by decide
  omega
theorem rdT_len (e n : Int) (s : List UInt8) : (rdT e n s).length ≤ n.toNat := by
  unfold rdT
  split
  · rw [List.length_take]; omega
  · simp
theorem or_go (n : Nat) (b : UInt8) (h : n * 256 + 256 ≤ 18446744073709551616) : bitOr .u64 (shlI .u64 (n : Int) 8) (IntKind.u64.wrap (b.toNat : Int)) = ((n * 256 + b.toNat : Nat) : Int) := by
  have hb := b.toNat_lt
  have h1 : shlI .u64 (n : Int) 8 = ((n * 256 : Nat) : Int) := by
    unfold shlI
    rw [show (2 : Int) ^ min (8 : Int).toNat IntKind.u64.bits = 256 from rfl, wrap_u64 (by omega) (by omega)]
    omega
  rw [h1, wrap_u64 (by omega) (by omega)]
  show IntKind.u64.wrap (((BitVec.ofInt 64 ((n * 256 : Nat) : Int) ||| BitVec.ofInt 64 ((b.toNat : Nat) : Int)).toNat : Nat) : Int) = _
  rw [BitVec.ofInt_natCast, BitVec.ofInt_natCast, BitVec.toNat_or, BitVec.toNat_ofNat, BitVec.toNat_ofNat, Nat.mod_eq_of_lt (by omega), Nat.mod_eq_of_lt (by omega)]
  have h2 : n * 256 ||| b.toNat = n * 256 + b.toNat := by
    have := Nat.shiftLeft_add_eq_or_of_lt (b := b.toNat) (i := 8) (by omega) n
    rw [Nat.shiftLeft_eq] at this
    exact this.symm
  rw [h2, wrap_u64 (by omega) (by omega)]
def getS : Spec := fun args H Q => match args, H with
  | [.ptr 0 0, .int .i64 n], [.cells [.int .i64 e, .str s] 72] => s.length < 1000000 ∧ 0 ≤ n ∧ n ≤ 8 ∧ Q (.int .u64 (bev (rdT e n s) : Int)) (rd (rdE e n s) (rdS e n s))
  | _, _ => False
theorem get_c : Meets Tryd.prog [] 47 getS := by
  refine meets_of Γok Tryd.func47 rfl ?_
  intro args H Q h
  unfold getS at h
  split at h
  case h_2 => exact h.elim
  rename_i n e s
  obtain ⟨hs, hn0, hn8, h⟩ := h
  (refine sx_sound Γok _ ?_; conv => whnf)
  refine CallVC.of [0] rraw_k ⟨hs, ?_⟩
  (conv => whnf)
  have htl := rdT_len e n s
  generalize rdT e n s = t at htl h ⊢
  generalize rdE e n s = e1 at h ⊢
  generalize rdS e n s = s1 at h ⊢
  have htl : t.length ≤ 8 := by omega
  refine loop_rule (fun k : Nat => ⟨[.any, .any, .any, .any, .any, .int .u64 (bev (t.take k) : Int), .any, .any, .any, .any, .any, .own 1, .int .i64 (t.length : Int), .int .i64 (k : Int), .any, .any, .any, .any, .any, .any, .any, .any, .any, .any], rd e1 s1 ++ [.own 5 1 t.length (bys t) true]⟩) (fun k => k ≤ t.length) (fun k => t.length - k) 0 (by omega) ?_ ?_
  · refine Weak.le ?_ ?_
    · (repeat' ((conv => whnf); first | exact True.intro | (refine And.intro ?_ ?_)))
      all_goals first | rfl | done
    · (repeat' ((conv => whnf); first | exact True.intro | (refine And.intro ?_ ?_)))
      all_goals first | rfl | exact .eq rfl
  · intro k hk
    (refine sx_sound Γok _ ?_; conv => whnf)
    refine Both.dec (fun hlt => ?_) (fun hge => ?_)
    · (conv => whnf)
      (repeat (first | (refine Both.lit_true ?_; conv => whnf) | (refine Both.lit_false ?_; conv => whnf) | (refine Need.mk ?_ ?_; (focus (first | omega | exact ⟨by omega, by omega⟩ | rfl | exact ⟨rfl, rfl⟩ | exact ⟨rfl, Nat.le_of_ble_eq_true rfl⟩ | exact Nat.le_of_ble_eq_true rfl | (refine ⟨rfl, rfl, ?_⟩; simp [isFar, ofV0, CV.up, SV.renL, SV.ren] <;> fail) | (refine ⟨rfl, Nat.le_of_ble_eq_true rfl, ?_⟩; simp [isFar, ofV0, CV.up, SV.renL, SV.ren] <;> fail) | (simp <;> fail))); conv => whnf)))
      refine Need.mk ⟨rfl, by omega, by omega⟩ ?_
      (conv => whnf)
      refine ⟨_, bys_get (by omega), ?_⟩
      (conv => whnf)
      (repeat (first | (refine Both.lit_true ?_; conv => whnf) | (refine Both.lit_false ?_; conv => whnf) | (refine Need.mk ?_ ?_; (focus (first | omega | exact ⟨by omega, by omega⟩ | rfl | exact ⟨rfl, rfl⟩ | exact ⟨rfl, Nat.le_of_ble_eq_true rfl⟩ | exact Nat.le_of_ble_eq_true rfl | (refine ⟨rfl, rfl, ?_⟩; simp [isFar, ofV0, CV.up, SV.renL, SV.ren] <;> fail) | (refine ⟨rfl, Nat.le_of_ble_eq_true rfl, ?_⟩; simp [isFar, ofV0, CV.up, SV.renL, SV.ren] <;> fail) | (simp <;> fail))); conv => whnf)))
      have hkt : k < t.length := by omega
      refine ⟨k + 1, by omega, by omega, Weak.le ?_ ?_⟩
      · (repeat' ((conv => whnf); first | exact True.intro | (refine And.intro ?_ ?_)))
        all_goals first | rfl | exact congrArg (SV.int .i64) (by rw [wrap_i64 (by omega) (by omega)]; rfl) | exact congrArg (SV.int .u64) (by rw [or_go _ _ (bev_room t hkt htl), bev_take t hkt])
      · (repeat' ((conv => whnf); first | exact True.intro | (refine And.intro ?_ ?_)))
        all_goals first | rfl | exact .eq rfl
    · obtain rfl : k = t.length := by omega
      (conv => whnf)
      rw [List.take_length]
      refine ⟨_, _, WeakV.to [0] rfl rfl rfl rfl ?_, h⟩
      (repeat' ((conv => whnf); first | exact True.intro | (refine And.intro ?_ ?_)))
      all_goals first | rfl | exact .eq rfl
theorem get_k : Contract Tryd.prog [] 47 getS := ⟨⟨⟨_, rfl, rfl, rfl⟩⟩, get_c⟩

/-! ## A reader's calls -/
theorem rdT_len' (e n : Int) (s : List UInt8) : (rdT e n s).length ≤ s.length := by
  unfold rdT
  split
  · rw [List.length_take]; omega
  · simp
theorem rdS_len (e n : Int) (s : List UInt8) : (rdS e n s).length ≤ s.length := by
  unfold rdS
  split
  · rw [List.length_drop]; omega
  · simp
/-- A number that is read. -/
def rdV (e n : Int) (s : List UInt8) : Nat := bev (rdT e n s)
theorem rdV_lt (e : Int) (n : Nat) (s : List UInt8) : rdV e n s < 256 ^ n := by
  have h1 := bev_lt (rdT e n s)
  have h2 := rdT_len e n s
  exact Nat.lt_of_lt_of_le h1 (Nat.pow_le_pow_right (by omega) (by omega))
theorem rdV_lt1 (e : Int) (s : List UInt8) : rdV e 1 s < 256 := rdV_lt e 1 s
theorem rdV_lt2 (e : Int) (s : List UInt8) : rdV e 2 s < 65536 := rdV_lt e 2 s
theorem rdV_lt8 (e : Int) (s : List UInt8) : rdV e 8 s < 18446744073709551616 := rdV_lt e 8 s
def rnewS : Spec := fun args H Q => match args, H with
  | [.str s], [] => Q (.ptr 0 0) (rd 0 s)
  | _, _ => False
theorem rnew_c : Meets Tryd.prog [] 27 rnewS := by
  refine meets_of Γok Tryd.func27 rfl ?_
  intro args H Q h
  unfold rnewS at h
  split at h
  case h_2 => exact h.elim
  (refine sx_sound Γok _ ?_; conv => whnf)
  (repeat (first | (exact Out.same; conv => whnf) | (exact Out1.same; conv => whnf) | (refine QAnd.mk ?_ ?_; conv => whnf) | (apply QStepH.go; conv => whnf) | (refine Both.lit_true ?_; conv => whnf) | (refine Both.lit_false ?_; conv => whnf) | (apply QStep.go; conv => whnf) | (refine Need.mk ?_ ?_; (focus (first | omega | exact ⟨by omega, by omega⟩ | rfl | exact ⟨rfl, rfl⟩ | exact ⟨rfl, by omega, by omega⟩ | exact ⟨by omega, by omega, by omega⟩ | exact ⟨rfl, Nat.le_of_ble_eq_true rfl⟩ | exact Nat.le_of_ble_eq_true rfl | (refine ⟨rfl, rfl, ?_⟩; simp [isFar, ofV0, CV.up, SV.renL, SV.ren] <;> fail) | (refine ⟨rfl, Nat.le_of_ble_eq_true rfl, ?_⟩; simp [isFar, ofV0, CV.up, SV.renL, SV.ren] <;> fail) | (simp only [List.length_append, List.length_drop, List.length_take, List.length_replicate, List.length_map]; omega) | (simp <;> fail))); conv => whnf) | (refine ⟨_, rfl, ?_⟩; conv => whnf)))
  refine ⟨_, _, WeakV.auto ?_, h⟩
  (repeat' ((conv => whnf); first | exact True.intro | (refine And.intro ?_ ?_)))
  all_goals first | rfl | exact .eq rfl
theorem rnew_k : Contract Tryd.prog [] 27 rnewS := ⟨⟨⟨_, rfl, rfl, rfl⟩⟩, rnew_c⟩
def rbyteS : Spec := fun args H Q => match args, H with
  | [.ptr 0 0], [.cells [.int .i64 e, .str s] 72] => Need (s.length < 1000000) (Q (.int .i64 (rdV e 1 s : Int)) (rd (rdE e 1 s) (rdS e 1 s)))
  | _, _ => False
theorem rbyte_c : Meets Tryd.prog [] 30 rbyteS := by
  refine meets_of Γok Tryd.func30 rfl ?_
  intro args H Q h
  unfold rbyteS at h
  split at h
  case h_2 => exact h.elim
  rename_i e s
  obtain ⟨hs, h⟩ := h
  (refine sx_sound Γok _ ?_; conv => whnf)
  refine CallVC.auto get_k ?_
  refine ⟨hs, by omega, by omega, ?_⟩
  (conv => whnf)
  have hv := rdV_lt1 e s
  refine ⟨_, _, WeakV.auto ?_, h⟩
  (repeat' ((conv => whnf); first | exact True.intro | (refine And.intro ?_ ?_)))
  all_goals first | rfl | exact .eq rfl | exact congrArg (SV.int .i64) (wrap_i64 (n := (rdV e 1 s : Int)) (by omega) (by omega))
theorem rbyte_k : Contract Tryd.prog [] 30 rbyteS := ⟨⟨⟨_, rfl, rfl, rfl⟩⟩, rbyte_c⟩
def rnumS : Spec := fun args H Q => match args, H with
  | [.ptr 0 0], [.cells [.int .i64 e, .str s] 72] => Need (s.length < 1000000) (Q (.int .u64 (rdV e 8 s : Int)) (rd (rdE e 8 s) (rdS e 8 s)))
  | _, _ => False
theorem rnum_c : Meets Tryd.prog [] 29 rnumS := by
  refine meets_of Γok Tryd.func29 rfl ?_
  intro args H Q h
  unfold rnumS at h
  split at h
  case h_2 => exact h.elim
  rename_i e s
  obtain ⟨hs, h⟩ := h
  (refine sx_sound Γok _ ?_; conv => whnf)
  refine CallVC.auto get_k ?_
  refine ⟨hs, by omega, by omega, ?_⟩
  (conv => whnf)
  refine ⟨_, _, WeakV.auto ?_, h⟩
  (repeat' ((conv => whnf); first | exact True.intro | (refine And.intro ?_ ?_)))
  all_goals first | rfl | exact .eq rfl
theorem rnum_k : Contract Tryd.prog [] 29 rnumS := ⟨⟨⟨_, rfl, rfl, rfl⟩⟩, rnum_c⟩
def rtextS : Spec := fun args H Q => match args, H with
  | [.ptr 0 0], [.cells [.int .i64 e, .str s] 72] => Need (s.length < 1000000) (Q (.str (rdT (rdE e 2 s) (rdV e 2 s) (rdS e 2 s))) (rd (rdE (rdE e 2 s) (rdV e 2 s) (rdS e 2 s)) (rdS (rdE e 2 s) (rdV e 2 s) (rdS e 2 s))))
  | _, _ => False
theorem rtext_c : Meets Tryd.prog [] 31 rtextS := by
  refine meets_of Γok Tryd.func31 rfl ?_
  intro args H Q h
  unfold rtextS at h
  split at h
  case h_2 => exact h.elim
  rename_i e s
  obtain ⟨hs, h⟩ := h
  (refine sx_sound Γok _ ?_; conv => whnf)
  refine CallVC.auto get_k ?_
  refine ⟨hs, by omega, by omega, ?_⟩
  (conv => whnf)
  have hv := rdV_lt2 e s
  have hl := rdS_len e 2 s
  rw [show IntKind.i64.wrap (bev (rdT e 2 s) : Int) = (rdV e 2 s : Int) from wrap_i64 (n := (rdV e 2 s : Int)) (by omega) (by omega)]
  refine CallVC.auto rraw_k ?_
  refine ⟨by omega, ?_⟩
  (conv => whnf)
  refine ⟨_, _, WeakV.auto ?_, h⟩
  (repeat' ((conv => whnf); first | exact True.intro | (refine And.intro ?_ ?_)))
  all_goals first | rfl | exact .eq rfl
theorem rtext_k : Contract Tryd.prog [] 31 rtextS := ⟨⟨⟨_, rfl, rfl, rfl⟩⟩, rtext_c⟩
end Go.LX
