import Derived.Test.YtgglchlppomkcaaDa
set_option maxRecDepth 100000
set_option maxHeartbeats 1000000
set_option autoImplicit false
set_option linter.unusedVariables false
set_option linter.unusedSimpArgs false
namespace Go.LX
open Go.Proofs

theorem own_eq {e s n n' : Nat} {xs xs' : List CV} {b : Bool} (h1 : n = n') (h2 : xs = xs') : LObj.own e s n xs b = LObj.own e s n' xs' b := by rw [h1, h2]
theorem rows_at {α : Type} {en : α → List CV} {z : Nat} (hen : ∀ r, (en r).length = z) (l : List α) (i : Nat) (h : i < l.length) : ((l.flatMap en).drop (i * z)).take z = en l[i] := by
  induction l generalizing i with
  | nil => simp at h
  | cons c l ih =>
    cases i with
    | zero => simp [List.take_left' (hen c)]
    | succ i =>
      rw [List.flatMap_cons, List.getElem_cons_succ, ← ih i (by simpa using h)]
      rw [show (i + 1) * z = (en c).length + i * z by rw [hen c, Nat.add_mul]; omega, ← List.drop_drop, List.drop_left' rfl]
theorem rows_cell {α : Type} {en : α → List CV} {z : Nat} (hen : ∀ r, (en r).length = z) (l : List α) (i j : Nat) (h : i < l.length) (hj : j < z) : (l.flatMap en)[i * z + j]? = (en l[i])[j]? := by
  have := rows_at hen l i h
  rw [← this, List.getElem?_take, if_pos hj, List.getElem?_drop]
/-! ### What calls do -/
def Dsk.wr (D : Dsk) (n : Int) (s : Bs) : Int × Dsk :=
  if 0 ≤ n ∧ n < D.sc ∧ s.length = D.sz then (if D.ar = 1 then (13, { D with ar := 0 }) else (0, { D with ar := D.ar - 1, buf := D.buf ++ [(n, s)] })) else (1, D)
def putAll (st : List Bs) (buf : List (Int × Bs)) : List Bs := buf.foldl (fun st w => st.set w.1.toNat w.2) st
def Dsk.fl (D : Dsk) : Int × Dsk := if D.ar = 1 then (13, { D with ar := 0 }) else (0, { D with ar := D.ar - 1, st := putAll D.st D.buf, buf := [] })
def rdOf (st : List Bs) (buf : List (Int × Bs)) (n : Int) : Bs := buf.foldl (fun s w => if w.1 = n then w.2 else s) (st.getD n.toNat [])
def Dsk.rd (D : Dsk) (n : Int) : Bs × Int := if 0 ≤ n ∧ n < D.sc then (rdOf D.st D.buf n, 0) else ([], 1)
def cstep (sz : Nat) (x : Bool × List Bs) (p : (Int × Bs) × (Bool × Int)) : Bool × List Bs :=
  if p.2.1 = true then (if 0 < p.2.2 ∧ p.2.2 < sz ∧ x.1 = false then (true, x.2.set p.1.1.toNat (p.1.2.take p.2.2.toNat ++ (x.2.getD p.1.1.toNat []).drop p.2.2.toNat)) else (x.1, x.2.set p.1.1.toNat p.1.2)) else x
def crs (sz : Nat) (st : List Bs) (buf : List (Int × Bs)) (l : List (Bool × Int)) : List Bs := ((buf.zip l).foldl (cstep sz) (false, st)).2
def Dsk.cr (D : Dsk) (l : List (Bool × Int)) : Dsk := { D with st := crs D.sz D.st D.buf l, buf := [], ar := 0 }

theorem putAll_len : ∀ (buf : List (Int × Bs)) (st : List Bs), (putAll st buf).length = st.length
  | [], st => rfl
  | w :: r, st => by
    show (putAll (st.set w.1.toNat w.2) r).length = _
    rw [putAll_len r, List.length_set]
theorem set_each {z : Nat} {st : List Bs} (h : ∀ s ∈ st, s.length = z) {i : Nat} {x : Bs} (hx : x.length = z) : ∀ s ∈ st.set i x, s.length = z := by
  intro s hs
  rcases List.mem_or_eq_of_mem_set hs with h1 | h1
  · exact h s h1
  · rw [h1]; exact hx
theorem putAll_each {z : Nat} : ∀ (buf : List (Int × Bs)) (st : List Bs), (∀ s ∈ st, s.length = z) → (∀ w ∈ buf, w.2.length = z) → ∀ s ∈ putAll st buf, s.length = z
  | [], st, h, _ => h
  | w :: r, st, h, hb => putAll_each r (st.set w.1.toNat w.2) (set_each h (hb w List.mem_cons_self)) (fun w hw => hb w (List.mem_cons_of_mem _ hw))
theorem getD_len {z : Nat} {st : List Bs} (h : ∀ s ∈ st, s.length = z) {i : Nat} (hi : i < st.length) : (st.getD i []).length = z := by
  rw [List.getD_eq_getElem?_getD, List.getElem?_eq_getElem hi]
  exact h _ (List.getElem_mem hi)
structure Reg (sc sz : Nat) (st : List Bs) : Prop where
  len : st.length = sc
  each : ∀ s ∈ st, s.length = sz
theorem Reg.set {sc sz : Nat} {st : List Bs} (h : Reg sc sz st) {i : Nat} {x : Bs} (hx : x.length = sz) : Reg sc sz (st.set i x) := ⟨by rw [List.length_set]; exact h.len, set_each h.each hx⟩
theorem Reg.at {sc sz : Nat} {st : List Bs} (h : Reg sc sz st) {n : Int} (h0 : 0 ≤ n) (h1 : n < sc) : (st.getD n.toNat []).length = sz := getD_len h.each (by rw [h.len]; omega)
theorem cstep_reg {sc sz : Nat} {x : Bool × List Bs} {p : (Int × Bs) × (Bool × Int)} (h : Reg sc sz x.2) (hp : 0 ≤ p.1.1 ∧ p.1.1 < sc ∧ p.1.2.length = sz) : Reg sc sz (cstep sz x p).2 := by
  unfold cstep
  split
  · split
    · refine h.set ?_
      have := h.at hp.1 hp.2.1
      simp only [List.length_append, List.length_take, List.length_drop, this, hp.2.2]
      omega
    · exact h.set hp.2.2
  · exact h
theorem cfold_reg {sc sz : Nat} : ∀ (l : List ((Int × Bs) × (Bool × Int))) (x : Bool × List Bs), Reg sc sz x.2 → (∀ p ∈ l, 0 ≤ p.1.1 ∧ p.1.1 < sc ∧ p.1.2.length = sz) → Reg sc sz (l.foldl (cstep sz) x).2
  | [], x, h, _ => h
  | p :: l, x, h, hp => cfold_reg l _ (cstep_reg h (hp p List.mem_cons_self)) fun q hq => hp q (List.mem_cons_of_mem _ hq)
theorem zip_buf {buf : List (Int × Bs)} {l : List (Bool × Int)} {P : Int × Bs → Prop} (h : ∀ w ∈ buf, P w) : ∀ p ∈ buf.zip l, P p.1 := fun p hp => h _ (List.of_mem_zip hp).1
theorem Dsk.Ok.arm {D : Dsk} (h : D.Ok) {n : Nat} (hn : n ≤ 9223372036854775807) : ({ D with ar := n } : Dsk).Ok := ⟨h.sz, h.sc, h.len, h.each, h.buf, h.few, hn⟩
theorem Dsk.Ok.wr {D : Dsk} (h : D.Ok) {n : Int} {s : Bs} (hf : D.buf.length < 1000000) : (D.wr n s).2.Ok := by
  unfold Dsk.wr
  have := h.ar
  split
  · rename_i hc
    split
    · exact h.arm (by omega)
    · refine ⟨h.sz, h.sc, h.len, h.each, ?_, ?_, ?_⟩
      · intro w hw
        rcases List.mem_append.1 hw with h1 | h1
        · exact h.buf w h1
        · rw [List.mem_singleton] at h1
          subst h1
          exact hc
      · show (D.buf ++ [(n, s)]).length ≤ _
        rw [List.length_append, List.length_singleton]
        omega
      · show D.ar - 1 ≤ _
        omega
  · exact h
theorem Dsk.Ok.fl {D : Dsk} (h : D.Ok) : D.fl.2.Ok := by
  unfold Dsk.fl
  have := h.ar
  split
  · exact h.arm (by omega)
  · exact ⟨h.sz, h.sc, by rw [← h.len]; exact putAll_len _ _, putAll_each _ _ h.each fun w hw => (h.buf w hw).2.2, fun w hw => by simp at hw, by simp, by show D.ar - 1 ≤ _; omega⟩
theorem Dsk.Ok.reg {D : Dsk} (h : D.Ok) : Reg D.sc D.sz D.st := ⟨h.len, h.each⟩
theorem Dsk.Ok.cr {D : Dsk} (h : D.Ok) (l : List (Bool × Int)) : (D.cr l).Ok := by
  have hr : Reg D.sc D.sz (crs D.sz D.st D.buf l) := cfold_reg (D.buf.zip l) (false, D.st) h.reg (zip_buf h.buf)
  exact ⟨h.sz, h.sc, hr.len, hr.each, fun w hw => by simp [Dsk.cr] at hw, by simp [Dsk.cr], by simp [Dsk.cr]⟩

/-! ### The program's calls -/
def writeS : Spec := fun args H Q => match args with
  | [.ptr 0 0, .int .i64 n, .str s] => dIn H fun D => Need (D.buf.length < 1000000) (∀ e D', (e, D') = D.wr n s → Q (.int .i64 e) (dA D'))
  | _ => False
theorem write_c : Meets Try.prog [] 20 writeS := by
  refine meets_of Γok Try.func20 rfl ?_
  intro args H Q h
  unfold writeS at h
  split at h
  case h_2 => exact h.elim
  rename_i n s
  obtain ⟨D, rfl, ho, hf, h⟩ := dIn_out h
  have bad : ¬ (0 ≤ n ∧ n < D.sc ∧ s.length = D.sz) → Q (.int .i64 1) (dA D) := fun h0 => h 1 D (by rw [Dsk.wr, if_neg h0])
  (refine sx_sound Γok _ ?_; conv => whnf)
  (repeat (first | (exact Out.same; conv => whnf) | (exact Out1.same; conv => whnf) | (refine QAnd.mk ?_ ?_; conv => whnf) | (apply QStepH.go; conv => whnf) | (refine Both.lit_true ?_; conv => whnf) | (refine Both.lit_false ?_; conv => whnf) | (apply QStep.go; conv => whnf) | (refine Need.mk ?_ ?_; (focus (first | omega | exact ⟨by omega, by omega⟩ | rfl | exact ⟨rfl, rfl⟩ | exact ⟨rfl, by omega, by omega⟩ | exact ⟨by omega, by omega, by omega⟩ | exact ⟨rfl, Nat.le_of_ble_eq_true rfl⟩ | exact Nat.le_of_ble_eq_true rfl | (refine ⟨rfl, rfl, ?_⟩; simp [isFar, ofV0, CV.up, SV.renL, SV.ren] <;> fail) | (refine ⟨rfl, Nat.le_of_ble_eq_true rfl, ?_⟩; simp [isFar, ofV0, CV.up, SV.renL, SV.ren] <;> fail) | (simp <;> fail))); conv => whnf) | (refine ⟨_, rfl, ?_⟩; conv => whnf)))
  refine CallVC.auto there_k ?_
  intro b hb
  cases b
  · have h0 := of_decide_eq_false hb.symm
    (conv => whnf)
    (repeat (first | (exact Out.same; conv => whnf) | (exact Out1.same; conv => whnf) | (refine QAnd.mk ?_ ?_; conv => whnf) | (apply QStepH.go; conv => whnf) | (refine Both.lit_true ?_; conv => whnf) | (refine Both.lit_false ?_; conv => whnf) | (apply QStep.go; conv => whnf) | (refine Need.mk ?_ ?_; (focus (first | omega | exact ⟨by omega, by omega⟩ | rfl | exact ⟨rfl, rfl⟩ | exact ⟨rfl, by omega, by omega⟩ | exact ⟨by omega, by omega, by omega⟩ | exact ⟨rfl, Nat.le_of_ble_eq_true rfl⟩ | exact Nat.le_of_ble_eq_true rfl | (refine ⟨rfl, rfl, ?_⟩; simp [isFar, ofV0, CV.up, SV.renL, SV.ren] <;> fail) | (refine ⟨rfl, Nat.le_of_ble_eq_true rfl, ?_⟩; simp [isFar, ofV0, CV.up, SV.renL, SV.ren] <;> fail) | (simp <;> fail))); conv => whnf) | (refine ⟨_, rfl, ?_⟩; conv => whnf)))
    refine ⟨_, _, WeakV.trans (WeakV.of (Weak.fresh 2 0 3 rfl rfl rfl)) (WeakV.auto ?_), bad (by omega)⟩
    (repeat' ((conv => whnf); first | exact True.intro | (refine And.intro ?_ ?_)))
    all_goals first | rfl | exact .eq rfl
  have h0 := of_decide_eq_true hb.symm
  (conv => whnf)
  (repeat (first | (exact Out.same; conv => whnf) | (exact Out1.same; conv => whnf) | (refine QAnd.mk ?_ ?_; conv => whnf) | (apply QStepH.go; conv => whnf) | (refine Both.lit_true ?_; conv => whnf) | (refine Both.lit_false ?_; conv => whnf) | (apply QStep.go; conv => whnf) | (refine Need.mk ?_ ?_; (focus (first | omega | exact ⟨by omega, by omega⟩ | rfl | exact ⟨rfl, rfl⟩ | exact ⟨rfl, by omega, by omega⟩ | exact ⟨by omega, by omega, by omega⟩ | exact ⟨rfl, Nat.le_of_ble_eq_true rfl⟩ | exact Nat.le_of_ble_eq_true rfl | (refine ⟨rfl, rfl, ?_⟩; simp [isFar, ofV0, CV.up, SV.renL, SV.ren] <;> fail) | (refine ⟨rfl, Nat.le_of_ble_eq_true rfl, ?_⟩; simp [isFar, ofV0, CV.up, SV.renL, SV.ren] <;> fail) | (simp <;> fail))); conv => whnf) | (refine ⟨_, rfl, ?_⟩; conv => whnf)))
  refine Both.dec_not (fun h1 => ?_) (fun h1 => ?_)
  · (conv => whnf)
    (repeat (first | (exact Out.same; conv => whnf) | (exact Out1.same; conv => whnf) | (refine QAnd.mk ?_ ?_; conv => whnf) | (apply QStepH.go; conv => whnf) | (refine Both.lit_true ?_; conv => whnf) | (refine Both.lit_false ?_; conv => whnf) | (apply QStep.go; conv => whnf) | (refine Need.mk ?_ ?_; (focus (first | omega | exact ⟨by omega, by omega⟩ | rfl | exact ⟨rfl, rfl⟩ | exact ⟨rfl, by omega, by omega⟩ | exact ⟨by omega, by omega, by omega⟩ | exact ⟨rfl, Nat.le_of_ble_eq_true rfl⟩ | exact Nat.le_of_ble_eq_true rfl | (refine ⟨rfl, rfl, ?_⟩; simp [isFar, ofV0, CV.up, SV.renL, SV.ren] <;> fail) | (refine ⟨rfl, Nat.le_of_ble_eq_true rfl, ?_⟩; simp [isFar, ofV0, CV.up, SV.renL, SV.ren] <;> fail) | (simp <;> fail))); conv => whnf) | (refine ⟨_, rfl, ?_⟩; conv => whnf)))
    refine ⟨_, _, WeakV.trans (WeakV.of (Weak.fresh 2 0 3 rfl rfl rfl)) (WeakV.auto ?_), bad (by omega)⟩
    (repeat' ((conv => whnf); first | exact True.intro | (refine And.intro ?_ ?_)))
    all_goals first | rfl | exact .eq rfl
  (conv => whnf)
  (repeat (first | (exact Out.same; conv => whnf) | (exact Out1.same; conv => whnf) | (refine QAnd.mk ?_ ?_; conv => whnf) | (apply QStepH.go; conv => whnf) | (refine Both.lit_true ?_; conv => whnf) | (refine Both.lit_false ?_; conv => whnf) | (apply QStep.go; conv => whnf) | (refine Need.mk ?_ ?_; (focus (first | omega | exact ⟨by omega, by omega⟩ | rfl | exact ⟨rfl, rfl⟩ | exact ⟨rfl, by omega, by omega⟩ | exact ⟨by omega, by omega, by omega⟩ | exact ⟨rfl, Nat.le_of_ble_eq_true rfl⟩ | exact Nat.le_of_ble_eq_true rfl | (refine ⟨rfl, rfl, ?_⟩; simp [isFar, ofV0, CV.up, SV.renL, SV.ren] <;> fail) | (refine ⟨rfl, Nat.le_of_ble_eq_true rfl, ?_⟩; simp [isFar, ofV0, CV.up, SV.renL, SV.ren] <;> fail) | (simp <;> fail))); conv => whnf) | (refine ⟨_, rfl, ?_⟩; conv => whnf)))
  refine CallVC.auto fail_k ⟨D, rfl, rfl, rfl, rfl, rfl, rfl, rfl, ho, ?_⟩
  intro b hb
  cases b
  · have h2 := of_decide_eq_false hb.symm
    (conv => whnf)
    (repeat (first | (exact Out.same; conv => whnf) | (exact Out1.same; conv => whnf) | (refine QAnd.mk ?_ ?_; conv => whnf) | (apply QStepH.go; conv => whnf) | (refine Both.lit_true ?_; conv => whnf) | (refine Both.lit_false ?_; conv => whnf) | (apply QStep.go; conv => whnf) | (refine Need.mk ?_ ?_; (focus (first | omega | exact ⟨by omega, by omega⟩ | rfl | exact ⟨rfl, rfl⟩ | exact ⟨rfl, by omega, by omega⟩ | exact ⟨by omega, by omega, by omega⟩ | exact ⟨rfl, Nat.le_of_ble_eq_true rfl⟩ | exact Nat.le_of_ble_eq_true rfl | (refine ⟨rfl, rfl, ?_⟩; simp [isFar, ofV0, CV.up, SV.renL, SV.ren] <;> fail) | (refine ⟨rfl, Nat.le_of_ble_eq_true rfl, ?_⟩; simp [isFar, ofV0, CV.up, SV.renL, SV.ren] <;> fail) | (simp <;> fail))); conv => whnf) | (refine ⟨_, rfl, ?_⟩; conv => whnf)))
    refine Need.mk ?_ ?_
    · show (D.buf.length + 1) * 24 ≤ 140737488355328
      omega
    (conv => whnf)
    (repeat (first | (exact Out.same; conv => whnf) | (exact Out1.same; conv => whnf) | (refine QAnd.mk ?_ ?_; conv => whnf) | (apply QStepH.go; conv => whnf) | (refine Both.lit_true ?_; conv => whnf) | (refine Both.lit_false ?_; conv => whnf) | (apply QStep.go; conv => whnf) | (refine Need.mk ?_ ?_; (focus (first | omega | exact ⟨by omega, by omega⟩ | rfl | exact ⟨rfl, rfl⟩ | exact ⟨rfl, by omega, by omega⟩ | exact ⟨by omega, by omega, by omega⟩ | exact ⟨rfl, Nat.le_of_ble_eq_true rfl⟩ | exact Nat.le_of_ble_eq_true rfl | (refine ⟨rfl, rfl, ?_⟩; simp [isFar, ofV0, CV.up, SV.renL, SV.ren] <;> fail) | (refine ⟨rfl, Nat.le_of_ble_eq_true rfl, ?_⟩; simp [isFar, ofV0, CV.up, SV.renL, SV.ren] <;> fail) | (simp <;> fail))); conv => whnf) | (refine ⟨_, rfl, ?_⟩; conv => whnf)))
    refine ⟨_, _, WeakV.auto ?_, h 0 { D with ar := D.ar - 1, buf := D.buf ++ [(n, s)] } (by rw [Dsk.wr, if_pos ⟨h0.1, h0.2, by omega⟩, if_neg h2])⟩
    (repeat' ((conv => whnf); first | exact True.intro | (refine And.intro ?_ ?_)))
    all_goals first | rfl | exact .eq rfl | exact own_eq (by simp) (by simp [wrEn])
  · have h2 := of_decide_eq_true hb.symm
    (conv => whnf)
    (repeat (first | (exact Out.same; conv => whnf) | (exact Out1.same; conv => whnf) | (refine QAnd.mk ?_ ?_; conv => whnf) | (apply QStepH.go; conv => whnf) | (refine Both.lit_true ?_; conv => whnf) | (refine Both.lit_false ?_; conv => whnf) | (apply QStep.go; conv => whnf) | (refine Need.mk ?_ ?_; (focus (first | omega | exact ⟨by omega, by omega⟩ | rfl | exact ⟨rfl, rfl⟩ | exact ⟨rfl, by omega, by omega⟩ | exact ⟨by omega, by omega, by omega⟩ | exact ⟨rfl, Nat.le_of_ble_eq_true rfl⟩ | exact Nat.le_of_ble_eq_true rfl | (refine ⟨rfl, rfl, ?_⟩; simp [isFar, ofV0, CV.up, SV.renL, SV.ren] <;> fail) | (refine ⟨rfl, Nat.le_of_ble_eq_true rfl, ?_⟩; simp [isFar, ofV0, CV.up, SV.renL, SV.ren] <;> fail) | (simp <;> fail))); conv => whnf) | (refine ⟨_, rfl, ?_⟩; conv => whnf)))
    refine ⟨_, _, WeakV.trans (WeakV.of (Weak.fresh 2 0 3 rfl rfl rfl)) (WeakV.auto ?_), h 13 { D with ar := D.ar - 1 } (by rw [Dsk.wr, if_pos ⟨h0.1, h0.2, by omega⟩, if_pos h2, h2])⟩
    (repeat' ((conv => whnf); first | exact True.intro | (refine And.intro ?_ ?_)))
    all_goals first | rfl | exact .eq rfl
theorem write_k : Contract Try.prog [] 20 writeS := ⟨⟨⟨_, rfl, rfl, rfl⟩⟩, write_c⟩
theorem buf_at {D : Dsk} (h : D.Ok) {k : Nat} (hk : k < D.buf.length) : 0 ≤ D.buf[k].1 ∧ D.buf[k].1 < D.sc ∧ D.buf[k].2.length = D.sz := h.buf _ (List.getElem_mem hk)
theorem putAll_take (st : List Bs) (buf : List (Int × Bs)) (k : Nat) (hk : k < buf.length) : putAll st (buf.take (k + 1)) = (putAll st (buf.take k)).set buf[k].1.toNat buf[k].2 := by
  rw [putAll, List.take_succ_eq_append_getElem hk, List.foldl_append]
  rfl
def flushS : Spec := fun args H Q => match args with
  | [.ptr 0 0] => dIn H fun D => ∀ e D', (e, D') = D.fl → Q (.int .i64 e) (dA D')
  | _ => False
theorem flush_c : Meets Try.prog [] 21 flushS := by
  refine meets_of Γok Try.func21 rfl ?_
  intro args H Q h
  unfold flushS at h
  split at h
  case h_2 => exact h.elim
  obtain ⟨D, rfl, ho, h⟩ := dIn_out h
  have hfew := ho.few
  (refine sx_sound Γok _ ?_; conv => whnf)
  (repeat (first | (exact Out.same; conv => whnf) | (exact Out1.same; conv => whnf) | (refine QAnd.mk ?_ ?_; conv => whnf) | (apply QStepH.go; conv => whnf) | (refine Both.lit_true ?_; conv => whnf) | (refine Both.lit_false ?_; conv => whnf) | (apply QStep.go; conv => whnf) | (refine Need.mk ?_ ?_; (focus (first | omega | exact ⟨by omega, by omega⟩ | rfl | exact ⟨rfl, rfl⟩ | exact ⟨rfl, by omega, by omega⟩ | exact ⟨by omega, by omega, by omega⟩ | exact ⟨rfl, Nat.le_of_ble_eq_true rfl⟩ | exact Nat.le_of_ble_eq_true rfl | (refine ⟨rfl, rfl, ?_⟩; simp [isFar, ofV0, CV.up, SV.renL, SV.ren] <;> fail) | (refine ⟨rfl, Nat.le_of_ble_eq_true rfl, ?_⟩; simp [isFar, ofV0, CV.up, SV.renL, SV.ren] <;> fail) | (simp <;> fail))); conv => whnf) | (refine ⟨_, rfl, ?_⟩; conv => whnf)))
  refine CallVC.auto fail_k ⟨D, rfl, rfl, rfl, rfl, rfl, rfl, rfl, ho, ?_⟩
  intro b hb
  cases b
  rotate_left
  · have h2 := of_decide_eq_true hb.symm
    (conv => whnf)
    (repeat (first | (exact Out.same; conv => whnf) | (exact Out1.same; conv => whnf) | (refine QAnd.mk ?_ ?_; conv => whnf) | (apply QStepH.go; conv => whnf) | (refine Both.lit_true ?_; conv => whnf) | (refine Both.lit_false ?_; conv => whnf) | (apply QStep.go; conv => whnf) | (refine Need.mk ?_ ?_; (focus (first | omega | exact ⟨by omega, by omega⟩ | rfl | exact ⟨rfl, rfl⟩ | exact ⟨rfl, by omega, by omega⟩ | exact ⟨by omega, by omega, by omega⟩ | exact ⟨rfl, Nat.le_of_ble_eq_true rfl⟩ | exact Nat.le_of_ble_eq_true rfl | (refine ⟨rfl, rfl, ?_⟩; simp [isFar, ofV0, CV.up, SV.renL, SV.ren] <;> fail) | (refine ⟨rfl, Nat.le_of_ble_eq_true rfl, ?_⟩; simp [isFar, ofV0, CV.up, SV.renL, SV.ren] <;> fail) | (simp <;> fail))); conv => whnf) | (refine ⟨_, rfl, ?_⟩; conv => whnf)))
    refine ⟨_, _, WeakV.trans (WeakV.of (Weak.fresh 2 0 3 rfl rfl rfl)) (WeakV.auto ?_), h 13 { D with ar := D.ar - 1 } (by rw [Dsk.fl, if_pos h2, h2])⟩
    (repeat' ((conv => whnf); first | exact True.intro | (refine And.intro ?_ ?_)))
    all_goals first | rfl | exact .eq rfl
  have h2 := of_decide_eq_false hb.symm
  (conv => whnf)
  (repeat (first | (exact Out.same; conv => whnf) | (exact Out1.same; conv => whnf) | (refine QAnd.mk ?_ ?_; conv => whnf) | (apply QStepH.go; conv => whnf) | (refine Both.lit_true ?_; conv => whnf) | (refine Both.lit_false ?_; conv => whnf) | (apply QStep.go; conv => whnf) | (refine Need.mk ?_ ?_; (focus (first | omega | exact ⟨by omega, by omega⟩ | rfl | exact ⟨rfl, rfl⟩ | exact ⟨rfl, by omega, by omega⟩ | exact ⟨by omega, by omega, by omega⟩ | exact ⟨rfl, Nat.le_of_ble_eq_true rfl⟩ | exact Nat.le_of_ble_eq_true rfl | (refine ⟨rfl, rfl, ?_⟩; simp [isFar, ofV0, CV.up, SV.renL, SV.ren] <;> fail) | (refine ⟨rfl, Nat.le_of_ble_eq_true rfl, ?_⟩; simp [isFar, ofV0, CV.up, SV.renL, SV.ren] <;> fail) | (simp <;> fail))); conv => whnf) | (refine ⟨_, rfl, ?_⟩; conv => whnf)))
  refine loop_rule (fun k : Nat => ⟨[.ptr 0 0, .any, .any, .any, .any, .any, .any, .any, .any, .any, .own 2, .int .i64 (D.buf.length : Int), .int .i64 (k : Int), .any, .any, .any, .any, .any, .any, .any, .any, .any, .any, .any, .any, .any, .any, .any, .any], dB { D with ar := D.ar - 1, st := putAll D.st (D.buf.take k) }⟩) (fun k => k ≤ D.buf.length) (fun k => D.buf.length - k) 0 (by omega) (Weak.auto ?_) ?_
  · (repeat' ((conv => whnf); first | exact True.intro | (refine And.intro ?_ ?_)))
    all_goals first | rfl | exact .eq rfl
  intro k hk
  (refine sx_sound Γok _ ?_; conv => whnf)
  refine Both.dec (fun hlt => ?_) (fun hge => ?_)
  · have hkl : k < D.buf.length := by omega
    have hr := rows_at (en := wrEn) (z := 2) (fun _ => rfl) D.buf k hkl
    have hb := buf_at ho hkl
    have hln : (putAll D.st (D.buf.take k)).length = D.sc := by rw [putAll_len, ho.len]
    have htk := putAll_take D.st D.buf k hkl
    (conv => whnf)
    (repeat (first | (refine ⟨[.int .i64 D.buf[k].1, .str D.buf[k].2], rfl, hr, ?_⟩; conv => whnf) | (exact Out.same; conv => whnf) | (exact Out1.same; conv => whnf) | (refine QAnd.mk ?_ ?_; conv => whnf) | (apply QStepH.go; conv => whnf) | (refine Both.lit_true ?_; conv => whnf) | (refine Both.lit_false ?_; conv => whnf) | (apply QStep.go; conv => whnf) | (refine Need.mk ?_ ?_; (focus (first | omega | exact ⟨by omega, by omega⟩ | rfl | exact ⟨rfl, rfl⟩ | exact ⟨rfl, by omega, by omega⟩ | exact ⟨by omega, by omega, by omega⟩ | exact ⟨rfl, Nat.le_of_ble_eq_true rfl⟩ | exact Nat.le_of_ble_eq_true rfl | (refine ⟨rfl, rfl, ?_⟩; simp [isFar, ofV0, CV.up, SV.renL, SV.ren] <;> fail) | (refine ⟨rfl, Nat.le_of_ble_eq_true rfl, ?_⟩; simp [isFar, ofV0, CV.up, SV.renL, SV.ren] <;> fail) | (simp <;> fail))); conv => whnf) | (refine ⟨_, rfl, ?_⟩; conv => whnf)))
    have hb2 : D.buf[k].1 < (((putAll D.st (D.buf.take k)).length : Nat) : Int) := by omega
    have hb3 : D.buf[k].1.toNat < ((putAll D.st (D.buf.take k)).map CV.str).length := by rw [List.length_map]; omega
    (refine DrawVC.any Γok (by kernel_rfl) (by kernel_rfl) (by kernel_rfl) (by rfl) ?_; conv => whnf)
    (repeat (first | (refine Need.mk ⟨rfl, hb.1, hb2⟩ ?_; conv => whnf) | (refine Need.mk ⟨rfl, hb3⟩ ?_; conv => whnf) | (exact Out.same; conv => whnf) | (exact Out1.same; conv => whnf) | (refine QAnd.mk ?_ ?_; conv => whnf) | (apply QStepH.go; conv => whnf) | (refine Both.lit_true ?_; conv => whnf) | (refine Both.lit_false ?_; conv => whnf) | (apply QStep.go; conv => whnf) | (refine Need.mk ?_ ?_; (focus (first | omega | exact ⟨by omega, by omega⟩ | rfl | exact ⟨rfl, rfl⟩ | exact ⟨rfl, by omega, by omega⟩ | exact ⟨by omega, by omega, by omega⟩ | exact ⟨rfl, Nat.le_of_ble_eq_true rfl⟩ | exact Nat.le_of_ble_eq_true rfl | (refine ⟨rfl, rfl, ?_⟩; simp [isFar, ofV0, CV.up, SV.renL, SV.ren] <;> fail) | (refine ⟨rfl, Nat.le_of_ble_eq_true rfl, ?_⟩; simp [isFar, ofV0, CV.up, SV.renL, SV.ren] <;> fail) | (simp <;> fail))); conv => whnf) | (refine ⟨_, rfl, ?_⟩; conv => whnf)))
    refine ⟨k + 1, by omega, by omega, Weak.auto ?_⟩
    (repeat' ((conv => whnf); first | exact True.intro | (refine And.intro ?_ ?_)))
    all_goals first | rfl | exact .eq rfl | exact congrArg (SV.int .i64) (by rw [wrap_i64 (by omega) (by omega)]; rfl) | exact own_eq (by rw [htk, List.length_set]) (by rw [htk, List.map_set])
  · have hke : k = D.buf.length := by omega
    subst hke
    (conv => whnf)
    (repeat (first | (exact Out.same; conv => whnf) | (exact Out1.same; conv => whnf) | (refine QAnd.mk ?_ ?_; conv => whnf) | (apply QStepH.go; conv => whnf) | (refine Both.lit_true ?_; conv => whnf) | (refine Both.lit_false ?_; conv => whnf) | (apply QStep.go; conv => whnf) | (refine Need.mk ?_ ?_; (focus (first | omega | exact ⟨by omega, by omega⟩ | rfl | exact ⟨rfl, rfl⟩ | exact ⟨rfl, by omega, by omega⟩ | exact ⟨by omega, by omega, by omega⟩ | exact ⟨rfl, Nat.le_of_ble_eq_true rfl⟩ | exact Nat.le_of_ble_eq_true rfl | (refine ⟨rfl, rfl, ?_⟩; simp [isFar, ofV0, CV.up, SV.renL, SV.ren] <;> fail) | (refine ⟨rfl, Nat.le_of_ble_eq_true rfl, ?_⟩; simp [isFar, ofV0, CV.up, SV.renL, SV.ren] <;> fail) | (simp <;> fail))); conv => whnf) | (refine ⟨_, rfl, ?_⟩; conv => whnf)))
    refine ⟨_, _, WeakV.trans (WeakV.of (Weak.ownNil 0 3 67 2 rfl rfl)) (WeakV.auto ?_), h 0 { D with ar := D.ar - 1, st := putAll D.st D.buf, buf := [] } (by rw [Dsk.fl, if_neg h2])⟩
    (repeat' ((conv => whnf); first | exact True.intro | (refine And.intro ?_ ?_)))
    all_goals first | rfl | exact .eq rfl | exact own_eq (by rw [List.take_length]) (by rw [List.take_length])
theorem flush_k : Contract Try.prog [] 21 flushS := ⟨⟨⟨_, rfl, rfl, rfl⟩⟩, flush_c⟩
end Go.LX
