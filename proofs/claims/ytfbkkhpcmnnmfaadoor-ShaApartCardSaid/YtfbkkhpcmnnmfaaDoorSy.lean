import Derived.Test.YtfbkkhpcmnnmfaaDoorSx
set_option maxRecDepth 100000
set_option maxHeartbeats 1000000
set_option autoImplicit false
set_option linter.unusedVariables false
set_option linter.unusedSimpArgs false
namespace Go.LX
open Go.Proofs

/-! ## The document's digest -/
theorem absorb_rest : ∀ (k : Nat) (v : St) (r : List UInt8), (absorb k v r).2 = r.drop (64 * k)
  | 0, v, r => rfl
  | k + 1, v, r => by rw [absorb, absorb_rest k, List.drop_drop]; congr 1; omega
theorem absorb_next (k : Nat) (v : St) (r : List UInt8) : (absorb (k + 1) v r).1 = (absorb k v r).1.mix ((r.drop (64 * k)).take 64) := by
  rw [absorb_add k 1, absorb, absorb_rest]
  rfl
theorem cut_go (p : List UInt8) (k : Nat) : List.drop ((64 * k : Nat) : Int).toNat (List.take ((64 * k + 64 : Nat) : Int).toNat p) = (p.drop (64 * k)).take 64 := by
  rw [Int.toNat_natCast, Int.toNat_natCast, List.drop_take]
  congr 1
  omega
theorem padded (s : List UInt8) : (s ++ pad s.length).length % 64 = 0 := by
  rw [List.length_append, pad_len]
  omega
def rdigS : Spec := fun args H Q => match args, H with
  | [.ptr 0 0, .str s], [.cells [.sl 1 64 ka fa, .sl 1 8 kb fb, .mp 1, .bool cl] 41, .map kd es] => ka = ks kT ∧ kb = ks hT ∧ s.length < 900000 ∧ Q (.str (shaD s)) [.cells [.sl 1 64 ka fa, .sl 1 8 kb fb, .mp 1, .bool cl] 41, .map kd es]
  | _, _ => False
theorem rdig_c : Meets Tryd.prog [] 11 rdigS := by
  refine meets_of Γok Tryd.func11 rfl ?_
  intro args H Q h
  unfold rdigS at h
  split at h
  case h_2 => exact h.elim
  rename_i s ka fa kb fb cl kd es
  obtain ⟨rfl, rfl, hs, h⟩ := h
  rw [shaD_eq] at h
  have hpl := padded s
  have hpl2 : (s ++ pad s.length).length < 1000000 := by rw [List.length_append, pad_len]; omega
  have hput : St.init.put (s ++ pad s.length) = absorb ((s ++ pad s.length).length / 64) St.init (s ++ pad s.length) := rfl
  rw [hput] at h
  revert h hpl hpl2
  generalize hp : s ++ pad s.length = p
  intro h hpl hpl2
  clear hput
  generalize hK : kT = K at h ⊢
  have h0 : ks hT = ks (absorb 0 St.init p).1.ws := rfl
  generalize hH : ks hT = cH at h h0 ⊢
  (refine sx_sound Γok _ ?_; conv => whnf)
  (repeat (first | (refine CallVC.auto rpad_k (Need.mk (by omega) ?_); conv => whnf) | (exact Out.same; conv => whnf) | (exact Out1.same; conv => whnf) | (refine QAnd.mk ?_ ?_; conv => whnf) | (apply QStepH.go; conv => whnf) | (refine Both.lit_true ?_; conv => whnf) | (refine Both.lit_false ?_; conv => whnf) | (apply QStep.go; conv => whnf) | (refine Need.mk ?_ ?_; (focus (first | omega | exact ⟨by omega, by omega⟩ | rfl | exact ⟨rfl, rfl⟩ | exact ⟨rfl, by omega, by omega⟩ | exact ⟨by omega, by omega, by omega⟩ | exact ⟨rfl, Nat.le_of_ble_eq_true rfl⟩ | exact Nat.le_of_ble_eq_true rfl | (refine ⟨rfl, rfl, ?_⟩; simp [isFar, ofV0, CV.up, SV.renL, SV.ren] <;> fail) | (refine ⟨rfl, Nat.le_of_ble_eq_true rfl, ?_⟩; simp [isFar, ofV0, CV.up, SV.renL, SV.ren] <;> fail) | (simp only [List.length_append, List.length_drop, List.length_take, List.length_replicate, List.length_map]; omega) | (simp <;> fail))); conv => whnf) | (refine ⟨_, rfl, ?_⟩; conv => whnf)))
  rw [hp]
  (conv => whnf)
  (repeat (first | (exact Out.same; conv => whnf) | (exact Out1.same; conv => whnf) | (refine QAnd.mk ?_ ?_; conv => whnf) | (apply QStepH.go; conv => whnf) | (refine Both.lit_true ?_; conv => whnf) | (refine Both.lit_false ?_; conv => whnf) | (apply QStep.go; conv => whnf) | (refine Need.mk ?_ ?_; (focus (first | omega | exact ⟨by omega, by omega⟩ | rfl | exact ⟨rfl, rfl⟩ | exact ⟨rfl, by omega, by omega⟩ | exact ⟨by omega, by omega, by omega⟩ | exact ⟨rfl, Nat.le_of_ble_eq_true rfl⟩ | exact Nat.le_of_ble_eq_true rfl | (refine ⟨rfl, rfl, ?_⟩; simp [isFar, ofV0, CV.up, SV.renL, SV.ren] <;> fail) | (refine ⟨rfl, Nat.le_of_ble_eq_true rfl, ?_⟩; simp [isFar, ofV0, CV.up, SV.renL, SV.ren] <;> fail) | (simp only [List.length_append, List.length_drop, List.length_take, List.length_replicate, List.length_map]; omega) | (simp <;> fail))); conv => whnf) | (refine ⟨_, rfl, ?_⟩; conv => whnf)))
  refine loop_rule (fun k : Nat => ⟨[.ptr 0 0, .any, .any, .any, .any, .str p, .sl 1 8 (ks (absorb k St.init p).1.ws) (Nat.beq k 0 && fb), .int .i64 ((64 * k : Nat) : Int), .any, .any, .any, .any, .any, .any, .any, .any, .any, .any, .any, .any, .any, .any, .any, .any, .any, .any, .any, .any, .any, .any, .any, .any, .any, .any, .any, .any, .any, .any, .any, .any, .any, .any, .any, .any, .any, .any, .any, .any, .any, .any, .any, .any, .any, .any, .any, .any, .any, .any, .any, .any, .any, .any, .any, .any, .any], [.cells [.sl 1 64 (ks K) fa, .sl 1 8 cH fb, .mp 1, .bool cl] 41, .map kd es]⟩) (fun k => k ≤ p.length / 64) (fun k => p.length / 64 - k) 0 (Nat.zero_le _) (Weak.auto ?_) ?_
  · have h1 : SV.sl 1 8 cH fb = SV.sl 1 8 (ks (absorb 0 St.init p).1.ws) (Nat.beq 0 0 && fb) := by rw [h0]; rfl
    (repeat' ((conv => whnf); first | exact True.intro | (refine And.intro ?_ ?_)))
    all_goals first | exact h1 | rfl | exact .eq rfl
  clear h0
  intro k hk
  have hnx := absorb_next k St.init p
  have hend : k = p.length / 64 → (absorb (p.length / 64) St.init p).1 = (absorb k St.init p).1 := fun h => by rw [h]
  revert hnx hend
  generalize (absorb k St.init p).1 = v
  generalize hv1 : (absorb (k + 1) St.init p).1 = v1
  intro hnx hend
  (refine sx_sound Γok _ ?_; conv => whnf)
  (repeat (first | (exact Out.same; conv => whnf) | (exact Out1.same; conv => whnf) | (refine QAnd.mk ?_ ?_; conv => whnf) | (apply QStepH.go; conv => whnf) | (refine Both.lit_true ?_; conv => whnf) | (refine Both.lit_false ?_; conv => whnf) | (apply QStep.go; conv => whnf) | (refine Need.mk ?_ ?_; (focus (first | omega | exact ⟨by omega, by omega⟩ | rfl | exact ⟨rfl, rfl⟩ | exact ⟨rfl, by omega, by omega⟩ | exact ⟨by omega, by omega, by omega⟩ | exact ⟨rfl, Nat.le_of_ble_eq_true rfl⟩ | exact Nat.le_of_ble_eq_true rfl | (refine ⟨rfl, rfl, ?_⟩; simp [isFar, ofV0, CV.up, SV.renL, SV.ren] <;> fail) | (refine ⟨rfl, Nat.le_of_ble_eq_true rfl, ?_⟩; simp [isFar, ofV0, CV.up, SV.renL, SV.ren] <;> fail) | (simp only [List.length_append, List.length_drop, List.length_take, List.length_replicate, List.length_map]; omega) | (simp <;> fail))); conv => whnf) | (refine ⟨_, rfl, ?_⟩; conv => whnf)))
  refine Both.dec (fun hlt => ?_) (fun hge => ?_)
  · have hk1 : 64 * k + 64 ≤ p.length := by omega
    have hw64 : IntKind.i64.wrap (((64 * k : Nat) : Int) + 64) = ((64 * k + 64 : Nat) : Int) := by rw [wrap_i64 (by omega) (by omega)]; rfl
    have hw64' : IntKind.i64.wrap (((64 * k : Nat) : Int) + 64) = ((64 * (k + 1) : Nat) : Int) := by rw [hw64]; rfl
    have hcut : 0 ≤ ((64 * k : Nat) : Int) ∧ ((64 * k : Nat) : Int) ≤ IntKind.i64.wrap (((64 * k : Nat) : Int) + 64) ∧ IntKind.i64.wrap (((64 * k : Nat) : Int) + 64) ≤ ((p.length : Nat) : Int) := by rw [hw64]; omega
    have hcg : List.drop ((64 * k : Nat) : Int).toNat (List.take (IntKind.i64.wrap (((64 * k : Nat) : Int) + 64)).toNat p) = (p.drop (64 * k)).take 64 := by rw [hw64]; exact cut_go p k
    have hcl : (List.drop ((64 * k : Nat) : Int).toNat (List.take (IntKind.i64.wrap (((64 * k : Nat) : Int) + 64)).toNat p)).length = 64 := by rw [hcg, List.length_take, List.length_drop]; omega
    have hmx : v.mix (List.drop ((64 * k : Nat) : Int).toNat (List.take (IntKind.i64.wrap (((64 * k : Nat) : Int) + 64)).toNat p)) = v1 := by rw [hcg, hnx]
    have hkk : ks K = ks kT := by rw [hK]
    have hsv : SV.sl 1 8 (ks v1.ws) false = SV.sl 1 8 (ks (absorb (k + 1) St.init p).1.ws) (Nat.beq (k + 1) 0 && fb) := by rw [hv1]; rfl
    (conv => whnf)
    (refine DrawVC.any Γok (by kernel_rfl) (by kernel_rfl) (by kernel_rfl) (by rfl) ?_; conv => whnf)
    (repeat (first | (refine Need.mk hcut ?_; conv => whnf) | (refine CallVC.auto rblk_k ⟨v, rfl, hcl, hkk, rfl, ?_⟩; conv => whnf) | (exact Out.same; conv => whnf) | (exact Out1.same; conv => whnf) | (refine QAnd.mk ?_ ?_; conv => whnf) | (apply QStepH.go; conv => whnf) | (refine Both.lit_true ?_; conv => whnf) | (refine Both.lit_false ?_; conv => whnf) | (apply QStep.go; conv => whnf) | (refine Need.mk ?_ ?_; (focus (first | omega | exact ⟨by omega, by omega⟩ | rfl | exact ⟨rfl, rfl⟩ | exact ⟨rfl, by omega, by omega⟩ | exact ⟨by omega, by omega, by omega⟩ | exact ⟨rfl, Nat.le_of_ble_eq_true rfl⟩ | exact Nat.le_of_ble_eq_true rfl | (refine ⟨rfl, rfl, ?_⟩; simp [isFar, ofV0, CV.up, SV.renL, SV.ren] <;> fail) | (refine ⟨rfl, Nat.le_of_ble_eq_true rfl, ?_⟩; simp [isFar, ofV0, CV.up, SV.renL, SV.ren] <;> fail) | (simp only [List.length_append, List.length_drop, List.length_take, List.length_replicate, List.length_map]; omega) | (simp <;> fail))); conv => whnf) | (refine ⟨_, rfl, ?_⟩; conv => whnf)))
    rw [hmx]
    (conv => whnf)
    (repeat (first | (exact Out.same; conv => whnf) | (exact Out1.same; conv => whnf) | (refine QAnd.mk ?_ ?_; conv => whnf) | (apply QStepH.go; conv => whnf) | (refine Both.lit_true ?_; conv => whnf) | (refine Both.lit_false ?_; conv => whnf) | (apply QStep.go; conv => whnf) | (refine Need.mk ?_ ?_; (focus (first | omega | exact ⟨by omega, by omega⟩ | rfl | exact ⟨rfl, rfl⟩ | exact ⟨rfl, by omega, by omega⟩ | exact ⟨by omega, by omega, by omega⟩ | exact ⟨rfl, Nat.le_of_ble_eq_true rfl⟩ | exact Nat.le_of_ble_eq_true rfl | (refine ⟨rfl, rfl, ?_⟩; simp [isFar, ofV0, CV.up, SV.renL, SV.ren] <;> fail) | (refine ⟨rfl, Nat.le_of_ble_eq_true rfl, ?_⟩; simp [isFar, ofV0, CV.up, SV.renL, SV.ren] <;> fail) | (simp only [List.length_append, List.length_drop, List.length_take, List.length_replicate, List.length_map]; omega) | (simp <;> fail))); conv => whnf) | (refine ⟨_, rfl, ?_⟩; conv => whnf)))
    refine ⟨k + 1, by omega, by omega, (Weak.pubT 2 rfl).trans (Weak.auto ?_)⟩
    (repeat' ((conv => whnf); first | exact True.intro | (refine And.intro ?_ ?_)))
    all_goals first | exact hsv | rfl | exact .eq rfl | exact congrArg (SV.int .i64) hw64'
  have hke : k = p.length / 64 := by omega
  rw [hend hke] at h
  clear hnx hv1 hend
  have hvl : v.ws.length = 8 := rfl
  have hdt : ∀ m, m < 8 → (v.ws.take (m + 1)).flatMap be4b = (v.ws.take m).flatMap be4b ++ be4b (v.ws.getD m 0) := fun m h => dig_take v h
  have hfl : ∀ l : List W32, (l.flatMap be4b).length = 4 * l.length := fun l => by
    induction l with
    | nil => rfl
    | cons a l ih => rw [List.flatMap_cons, List.length_append, ih]; simp [be4b]; omega
  have hdg : v.dig = (v.ws.take 8).flatMap be4b := rfl
  rw [hdg] at h
  clear hdg
  revert hvl hdt h
  generalize v.ws = ws
  intro h hvl hdt
  (conv => whnf)
  (repeat (first | (exact Out.same; conv => whnf) | (exact Out1.same; conv => whnf) | (refine QAnd.mk ?_ ?_; conv => whnf) | (apply QStepH.go; conv => whnf) | (refine Both.lit_true ?_; conv => whnf) | (refine Both.lit_false ?_; conv => whnf) | (apply QStep.go; conv => whnf) | (refine Need.mk ?_ ?_; (focus (first | omega | exact ⟨by omega, by omega⟩ | rfl | exact ⟨rfl, rfl⟩ | exact ⟨rfl, by omega, by omega⟩ | exact ⟨by omega, by omega, by omega⟩ | exact ⟨rfl, Nat.le_of_ble_eq_true rfl⟩ | exact Nat.le_of_ble_eq_true rfl | (refine ⟨rfl, rfl, ?_⟩; simp [isFar, ofV0, CV.up, SV.renL, SV.ren] <;> fail) | (refine ⟨rfl, Nat.le_of_ble_eq_true rfl, ?_⟩; simp [isFar, ofV0, CV.up, SV.renL, SV.ren] <;> fail) | (simp only [List.length_append, List.length_drop, List.length_take, List.length_replicate, List.length_map]; omega) | (simp <;> fail))); conv => whnf) | (refine ⟨_, rfl, ?_⟩; conv => whnf)))
  refine loop_rule (fun i : Nat => ⟨[.ptr 0 0, .any, .any, .any, .any, .any, .sl 1 8 (ks ws) (Nat.beq k 0 && fb), .any, .own 2, .int .i64 (i : Int), .any, .any, .any, .any, .any, .any, .any, .any, .any, .any, .any, .any, .any, .any, .any, .any, .any, .any, .any, .any, .any, .any, .any, .any, .any, .any, .any, .any, .any, .any, .any, .any, .any, .any, .any, .any, .any, .any, .any, .any, .any, .any, .any, .any, .any, .any, .any, .any, .any, .any, .any, .any, .any, .any, .any], [.cells [.sl 1 64 (ks K) fa, .sl 1 8 cH fb, .mp 1, .bool cl] 41, .map kd es, .own 5 1 (4 * i) (bys ((ws.take i).flatMap be4b)) true]⟩) (fun i => i ≤ 8) (fun i => 8 - i) 0 (Nat.zero_le _) ((Weak.ownNilT 8 5 1 rfl).trans (Weak.auto ?_)) ?_
  · (repeat' ((conv => whnf); first | exact True.intro | (refine And.intro ?_ ?_)))
    all_goals first | rfl | exact .eq rfl
  intro i hi
  have hl4 : ((ws.take i).flatMap be4b).length = 4 * i := by rw [hfl, List.length_take]; omega
  have hend : i = 8 → (ws.take 8).flatMap be4b = (ws.take i).flatMap be4b := fun h => by rw [h]
  have hdt := fun h => hdt i h
  revert hl4 hdt hend
  generalize hl : (ws.take i).flatMap be4b = l
  generalize hl1 : (ws.take (i + 1)).flatMap be4b = l1
  intro hl4 hend hdt
  (refine sx_sound Γok _ ?_; conv => whnf)
  (repeat (first | (exact Out.same; conv => whnf) | (exact Out1.same; conv => whnf) | (refine QAnd.mk ?_ ?_; conv => whnf) | (apply QStepH.go; conv => whnf) | (refine Both.lit_true ?_; conv => whnf) | (refine Both.lit_false ?_; conv => whnf) | (apply QStep.go; conv => whnf) | (refine Need.mk ?_ ?_; (focus (first | omega | exact ⟨by omega, by omega⟩ | rfl | exact ⟨rfl, rfl⟩ | exact ⟨rfl, by omega, by omega⟩ | exact ⟨by omega, by omega, by omega⟩ | exact ⟨rfl, Nat.le_of_ble_eq_true rfl⟩ | exact Nat.le_of_ble_eq_true rfl | (refine ⟨rfl, rfl, ?_⟩; simp [isFar, ofV0, CV.up, SV.renL, SV.ren] <;> fail) | (refine ⟨rfl, Nat.le_of_ble_eq_true rfl, ?_⟩; simp [isFar, ofV0, CV.up, SV.renL, SV.ren] <;> fail) | (simp only [List.length_append, List.length_drop, List.length_take, List.length_replicate, List.length_map]; omega) | (simp <;> fail))); conv => whnf) | (refine ⟨_, rfl, ?_⟩; conv => whnf)))
  refine Both.dec (fun hlt => ?_) (fun hge => ?_)
  · have hi8 : i < 8 := by omega
    have hwr : IntKind.i64.wrap ((i : Int) + 1) = ((i + 1 : Nat) : Int) := by rw [wrap_i64 (by omega) (by omega)]; rfl
    have hat := ks_at (l := ws) (k := i) (by omega)
    have hd1 := hdt hi8
    revert hat hd1
    generalize ws.getD i 0 = x
    intro hat hd1
    have b3 := byt_go x 24 (by decide)
    have b2 := byt_go x 16 (by decide)
    have b1 := byt_go x 8 (by decide)
    have b0 : IntKind.u8.wrap (u32 x) = ((byt x 0).toNat : Int) := by rw [u8_of_u32]; rfl
    have hobj : LObj.own 5 1 (4 * i + 4) (bys l ++ [CV.int .u8 (IntKind.u8.wrap (shrI .u32 (u32 x) 24)), .int .u8 (IntKind.u8.wrap (shrI .u32 (u32 x) 16)), .int .u8 (IntKind.u8.wrap (shrI .u32 (u32 x) 8)), .int .u8 (IntKind.u8.wrap (u32 x))]) true = LObj.own 5 1 (4 * (i + 1)) (bys ((ws.take (i + 1)).flatMap be4b)) true := by
      have q3 : IntKind.u8.wrap (shrI .u32 (u32 x) 24) = ((byt x 24).toNat : Int) := b3
      have q2 : IntKind.u8.wrap (shrI .u32 (u32 x) 16) = ((byt x 16).toNat : Int) := b2
      have q1 : IntKind.u8.wrap (shrI .u32 (u32 x) 8) = ((byt x 8).toNat : Int) := b1
      rw [q3, q2, q1, b0, hl1, hd1, bys, bys, List.map_append]
      rfl
    have hap : (4 * i + 4) * ti5.bytes ≤ 140737488355328 := by
      have : ti5.bytes = 1 := rfl
      rw [this]
      omega
    (conv => whnf)
    (refine DrawVC.any Γok (by kernel_rfl) (by kernel_rfl) (by kernel_rfl) (by rfl) ?_; conv => whnf)
    (repeat (first | (refine ⟨_, hat, ?_⟩; conv => whnf) | (refine Need.mk hap ?_; conv => whnf) | (exact Out.same; conv => whnf) | (exact Out1.same; conv => whnf) | (refine QAnd.mk ?_ ?_; conv => whnf) | (apply QStepH.go; conv => whnf) | (refine Both.lit_true ?_; conv => whnf) | (refine Both.lit_false ?_; conv => whnf) | (apply QStep.go; conv => whnf) | (refine Need.mk ?_ ?_; (focus (first | omega | exact ⟨by omega, by omega⟩ | rfl | exact ⟨rfl, rfl⟩ | exact ⟨rfl, by omega, by omega⟩ | exact ⟨by omega, by omega, by omega⟩ | exact ⟨rfl, Nat.le_of_ble_eq_true rfl⟩ | exact Nat.le_of_ble_eq_true rfl | (refine ⟨rfl, rfl, ?_⟩; simp [isFar, ofV0, CV.up, SV.renL, SV.ren] <;> fail) | (refine ⟨rfl, Nat.le_of_ble_eq_true rfl, ?_⟩; simp [isFar, ofV0, CV.up, SV.renL, SV.ren] <;> fail) | (simp only [List.length_append, List.length_drop, List.length_take, List.length_replicate, List.length_map]; omega) | (simp <;> fail))); conv => whnf) | (refine ⟨_, rfl, ?_⟩; conv => whnf)))
    refine ⟨i + 1, by omega, by omega, Weak.auto ?_⟩
    (repeat' ((conv => whnf); first | exact True.intro | (refine And.intro ?_ ?_)))
    all_goals first | exact hobj | rfl | exact .eq rfl | exact congrArg (SV.int .i64) hwr
  have hi8 : i = 8 := by omega
  rw [hend hi8] at h
  have hu : (bys l).length = 4 * i ∧ ∀ x, x ∈ bys l → isU8 x = true := ⟨by rw [bys, List.length_map, hl4], fun x hx => by
    obtain ⟨b, _, rfl⟩ := List.mem_map.1 hx
    rfl⟩
  have hbk : (bys l).map cvByte = l := bys_back l
  (conv => whnf)
  (repeat (first | (refine Need.mk hu ?_; conv => whnf) | (exact Out.same; conv => whnf) | (exact Out1.same; conv => whnf) | (refine QAnd.mk ?_ ?_; conv => whnf) | (apply QStepH.go; conv => whnf) | (refine Both.lit_true ?_; conv => whnf) | (refine Both.lit_false ?_; conv => whnf) | (apply QStep.go; conv => whnf) | (refine Need.mk ?_ ?_; (focus (first | omega | exact ⟨by omega, by omega⟩ | rfl | exact ⟨rfl, rfl⟩ | exact ⟨rfl, by omega, by omega⟩ | exact ⟨by omega, by omega, by omega⟩ | exact ⟨rfl, Nat.le_of_ble_eq_true rfl⟩ | exact Nat.le_of_ble_eq_true rfl | (refine ⟨rfl, rfl, ?_⟩; simp [isFar, ofV0, CV.up, SV.renL, SV.ren] <;> fail) | (refine ⟨rfl, Nat.le_of_ble_eq_true rfl, ?_⟩; simp [isFar, ofV0, CV.up, SV.renL, SV.ren] <;> fail) | (simp only [List.length_append, List.length_drop, List.length_take, List.length_replicate, List.length_map]; omega) | (simp <;> fail))); conv => whnf) | (refine ⟨_, rfl, ?_⟩; conv => whnf)))
  rw [hbk]
  refine ⟨_, _, WeakV.auto ?_, h⟩
  (repeat' ((conv => whnf); first | exact True.intro | (refine And.intro ?_ ?_)))
  all_goals first | rfl | exact .eq rfl
theorem rdig_k : Contract Tryd.prog [] 11 rdigS := ⟨⟨⟨_, rfl, rfl, rfl⟩⟩, rdig_c⟩
/-! ## The document's digits -/
theorem digit_go : ∀ n : Fin 256, (List.drop (IntKind.u8.wrap ((n.val : Int).tdiv 16)).toNat (List.take (IntKind.u8.wrap (IntKind.u8.wrap ((n.val : Int).tdiv 16) + 1)).toNat ([48, 49, 50, 51, 52, 53, 54, 55, 56, 57, 97, 98, 99, 100, 101, 102] : List UInt8)) = [dg (n.val / 16)]) ∧ (List.drop ((n.val : Int).tmod 16).toNat (List.take (IntKind.u8.wrap ((n.val : Int).tmod 16 + 1)).toNat ([48, 49, 50, 51, 52, 53, 54, 55, 56, 57, 97, 98, 99, 100, 101, 102] : List UInt8)) = [dg (n.val % 16)]) := by decide +kernel
theorem digit_rng : ∀ n : Fin 256, (0 ≤ IntKind.u8.wrap ((n.val : Int).tdiv 16) ∧ IntKind.u8.wrap ((n.val : Int).tdiv 16) ≤ IntKind.u8.wrap (IntKind.u8.wrap ((n.val : Int).tdiv 16) + 1) ∧ IntKind.u8.wrap (IntKind.u8.wrap ((n.val : Int).tdiv 16) + 1) ≤ ((16 : Nat) : Int)) ∧ (0 ≤ (n.val : Int).tmod 16 ∧ (n.val : Int).tmod 16 ≤ IntKind.u8.wrap ((n.val : Int).tmod 16 + 1) ∧ IntKind.u8.wrap ((n.val : Int).tmod 16 + 1) ≤ ((16 : Nat) : Int)) := by decide +kernel
end Go.LX
