/- Own texts of this claim, in build order: LXA. -/
import Derived.Tactics
import Derived.Below
import Derived.Laws.Cells
import Derived.Laws.IdiomCopy
import Derived.RangeFuncNested
import Derived.RangeFuncLeaves
import Derived.TacticsIn
import Derived.OrdersIn
import Derived.Laws.Strings
import Derived.Laws.Slices
import Derived.Laws.BytesString
import Derived.Laws.Append
import Derived.Lib.UnsafeStr
import Derived.MapKept
section
set_option autoImplicit false
set_option linter.unusedVariables false
set_option linter.unusedSimpArgs false
set_option linter.unnecessarySimpa false
namespace Go.LX
open Go.RowKit
section

inductive CV where
  | int (k : IntKind) (n : Int)
  | bool (b : Bool)
  | str (l : List UInt8)
  | nil
  | sl (s n : Nat) (cs : List CV) (full : Bool)
inductive CR (I : Nat → Prop) (w : World) : CV → Value → Prop
  | int (k : IntKind) (n : Int) : CR I w (.int k n) (.int k n)
  | bool (b : Bool) : CR I w (.bool b) (.bool b)
  | str (l : List UInt8) : CR I w (.str l) (.string ⟨l.toArray⟩)
  | nil : CR I w .nil (.pointer none)
  | sl0 (s : Nat) (full : Bool) : CR I w (.sl s 0 [] full) (.slice none 0 0)
  | sl {s n : Nat} {cs : List CV} {full : Bool} (a : Addr) (c : Nat) (vs : List Value) (hl : cs.length = n * s) (hv : vs.length = cs.length)
      (hc : n ≤ c) (hf : full = true → c = n) (hI : 0 < cs.length → I a.block) (hw : ∀ (j : Nat) v, vs[j]? = some v → w.cell? (a.add j) = some v)
      (h : ∀ (j : Nat) x v, cs[j]? = some x → vs[j]? = some v → CR I w x v) : CR I w (.sl s n cs full) (.slice (some a) n c)
inductive SV where
  | int (k : IntKind) (n : Int)
  | bool (b : Bool)
  | str (l : List UInt8)
  | nil
  | nilsl
  | sl (s n : Nat) (cs : List CV) (full : Bool)
  | pim (cs : List CV)
  | ptr (i off : Nat)
  | slice (i off len cap : Nat)
  | own (i : Nat)
  | pown (i off : Nat)
  | sub (i s lo len : Nat)
  | opt (i off : Nat)
  | mp (i : Nat)
  | agg (l : List SV)
  | tuple (l : List SV)
  | func (fn : Fn) (cap : List SV)
  | nilfunc
  | any
def CV.up : CV → SV
  | .int k n => .int k n
  | .bool b => .bool b
  | .str l => .str l
  | .nil => .nil
  | .sl s n cs f => .sl s n cs f
structure Env where
  n : Nat
  b : Nat → Nat
  v : Nat → Value
  I : Nat → Prop
inductive VR (E : Env) (w : World) : SV → Value → Prop
  | int (k : IntKind) (n : Int) : VR E w (.int k n) (.int k n)
  | bool (b : Bool) : VR E w (.bool b) (.bool b)
  | str (l : List UInt8) : VR E w (.str l) (.string ⟨l.toArray⟩)
  | nil : VR E w .nil (.pointer none)
  | nilsl : VR E w .nilsl (.slice none 0 0)
  | sl {s n : Nat} {cs : List CV} {full : Bool} {v : Value} (h : CR E.I w (.sl s n cs full) v) : VR E w (.sl s n cs full) v
  | pim {cs : List CV} (a : Addr) (vs : List Value) (hv : vs.length = cs.length) (hI : 0 < cs.length → E.I a.block)
      (hw : ∀ (j : Nat) v, vs[j]? = some v → w.cell? (a.add j) = some v) (h : ∀ (j : Nat) x v, cs[j]? = some x → vs[j]? = some v → CR E.I w x v) :
      VR E w (.pim cs) (.pointer (some a))
  | pnull : VR E w (.pim []) (.pointer none)
  | ptr (i off : Nat) (hi : i < E.n) : VR E w (.ptr i off) (.pointer (some ⟨E.b i, off, none⟩))
  | slice (i off len cap : Nat) (hi : i < E.n) : VR E w (.slice i off len cap) (.slice (some ⟨E.b i, off, none⟩) len cap)
  | own (i : Nat) (hi : i < E.n) : VR E w (.own i) (E.v i)
  | pown (i off b n c : Nat) (hi : i < E.n) (h : E.v i = .slice (some ⟨b, 0, none⟩) n c) : VR E w (.pown i off) (.pointer (some ⟨b, off, none⟩))
  | sub (i s lo len b n c o : Nat) (hi : i < E.n) (h : E.v i = .slice (some ⟨b, 0, none⟩) n c) (hl : lo + len ≤ c) (ho : lo < c → o = lo * s) (h0 : lo = 0 → o = 0) : VR E w (.sub i s lo len) (.slice (some ⟨b, o, none⟩) len (c - lo))
  | subN (i s : Nat) (hi : i < E.n) (h : E.v i = .slice none 0 0) : VR E w (.sub i s 0 0) (.slice none 0 0)
  | optN (i off : Nat) : VR E w (.opt i off) (.pointer none)
  | optS (i off : Nat) (hi : i < E.n) : VR E w (.opt i off) (.pointer (some ⟨E.b i, off, none⟩))
  | mp (i : Nat) (hi : i < E.n) : VR E w (.mp i) (.map (some (E.b i)))
  | agg {l : List SV} (vs : List Value) (hl : vs.length = l.length) (h : ∀ (j : Nat) x v, l[j]? = some x → vs[j]? = some v → VR E w x v) : VR E w (.agg l) (.agg vs.toArray)
  | tuple {l : List SV} (vs : List Value) (hl : vs.length = l.length) (h : ∀ (j : Nat) x v, l[j]? = some x → vs[j]? = some v → VR E w x v) : VR E w (.tuple l) (.tuple vs.toArray)
  | func {fn : Fn} {cap : List SV} (vs : List Value) (hl : vs.length = cap.length) (h : ∀ (j : Nat) x v, cap[j]? = some x → vs[j]? = some v → VR E w x v) : VR E w (.func fn cap) (.func fn #[] vs.toArray)
  | nilfunc : VR E w .nilfunc .nilFunc
  | any (v : Value) : VR E w .any v
def VRs (E : Env) (w : World) (l : List SV) (vs : List Value) : Prop :=
  vs.length = l.length ∧ ∀ (j : Nat) x v, l[j]? = some x → vs[j]? = some v → VR E w x v
def CRs (I : Nat → Prop) (w : World) (l : List CV) (vs : List Value) : Prop :=
  vs.length = l.length ∧ ∀ (j : Nat) x v, l[j]? = some x → vs[j]? = some v → CR I w x v
theorem CR.up {E : Env} {w : World} {c : CV} {v : Value} (h : CR E.I w c v) : VR E w c.up v := by
  cases h with
  | int k n => exact .int k n
  | bool b => exact .bool b
  | str l => exact .str l
  | nil => exact .nil
  | sl0 s f => exact .sl (.sl0 s f)
  | sl a c vs hl hv hc hf hI hw h => exact .sl (.sl a c vs hl hv hc hf hI hw h)
inductive LObj where
  | cells (c : List SV) (e : TypeId)
  | own (e s n : Nat) (xs : List CV) (wr : Bool)
  | map (kd : Nat) (es : List (CV × CV))
  | gone
structure OwnR (I : Nat → Prop) (w : World) (v : Value) (e s n : Nat) (xs : List CV) (wr : Bool) : Prop where
  len : xs.length = n * s
  row : v = .slice none 0 0 ∧ n = 0 ∨ ∃ b cap vs fz, v = .slice (some ⟨b, 0, none⟩) n cap ∧ w.heap[b]? = some (.cells vs e fz) ∧ vs.size = cap * s ∧ n ≤ cap ∧
    (∀ j, n * s ≤ j → j < cap * s → ¬ (fz.1 ≤ j ∧ j < fz.2)) ∧ (wr = true → ∀ j, j < cap * s → ¬ (fz.1 ≤ j ∧ j < fz.2)) ∧
    ∀ (j : Nat) x u, xs[j]? = some x → vs[j]? = some u → CR I w x u
def kindB : CV → Nat
  | .int .i64 _ => 1
  | .str _ => 2
  | _ => 0
def MapR (I : Nat → Prop) (w : World) (kd : Nat) (es : List (CV × CV)) (l : List MapEntry) : Prop :=
  l.length = es.length ∧ ∀ (j : Nat) x m, es[j]? = some x → l[j]? = some m → kindB x.1 = kd ∧ CR I w x.1 m.key ∧ CR I w x.2 m.val
def Value.blk : Value → Option Nat
  | .slice (some a) _ _ => some a.block
  | _ => none
def foot (E : Env) (i : Nat) : LObj → Option Nat
  | .cells _ _ => some (E.b i)
  | .own _ _ _ _ _ => Value.blk (E.v i)
  | .map _ _ => some (E.b i)
  | .gone => none
def ObjR (E : Env) (w : World) (i : Nat) : LObj → Prop
  | .cells c e => ∃ vs, w.heap[E.b i]? = some (.cells vs e (0, 0)) ∧ VRs E w c vs.toList
  | .own e s n xs wr => OwnR E.I w (E.v i) e s n xs wr
  | .map kd es => ∃ ents clock, w.heap[E.b i]? = some (.map ents clock) ∧ MapR E.I w kd es ents.toList
  | .gone => True
def InFoot (E : Env) (H : List LObj) (b : Nat) : Prop := ∃ (i : Nat), ∃ o, H[i]? = some o ∧ foot E i o = some b
structure Rel (E : Env) (H : List LObj) (w : World) : Prop where
  len : H.length = E.n
  obj : ∀ (i : Nat) o, H[i]? = some o → ObjR E w i o
  sep : ∀ (i j : Nat) o o' b, i ≠ j → H[i]? = some o → H[j]? = some o' → foot E i o = some b → foot E j o' ≠ some b
  imm : ∀ b, InFoot E H b → ¬ E.I b
  ltI : ∀ b, E.I b → b < w.heap.size
structure Step (E : Env) (H : List LObj) (w : World) (E' : Env) (H' : List LObj) (w' : World) : Prop where
  size : w.heap.size ≤ w'.heap.size
  keep : ∀ b, b < w.heap.size → ¬ InFoot E H b → w'.heap[b]? = w.heap[b]?
  os : w'.os = w.os
  tape : w'.tape = w.tape
  output : w'.output = w.output
  foot' : ∀ b, InFoot E' H' b → w.heap.size ≤ b ∨ InFoot E H b
  Imono : ∀ b, E.I b → E'.I b
  Inew : ∀ b, E'.I b → E.I b ∨ w.heap.size ≤ b ∨ InFoot E H b
theorem Step.refl (E : Env) (H : List LObj) (w : World) : Step E H w E H w :=
  ⟨Nat.le_refl _, fun _ _ _ => rfl, rfl, rfl, rfl, fun _ h => .inr h, fun _ h => h, fun _ h => .inl h⟩
theorem Step.trans {E E' E'' : Env} {H H' H'' : List LObj} {w w' w'' : World} (h : Step E H w E' H' w') (k : Step E' H' w' E'' H'' w'') : Step E H w E'' H'' w'' where
  size := Nat.le_trans h.size k.size
  keep b hb hn := by
    rw [k.keep b (Nat.lt_of_lt_of_le hb h.size), h.keep b hb hn]
    intro hf
    rcases h.foot' b hf with h1 | h1
    · omega
    · exact hn h1
  os := k.os.trans h.os
  tape := k.tape.trans h.tape
  output := k.output.trans h.output
  foot' b hf := by
    rcases k.foot' b hf with h1 | h1
    · have := h.size
      exact .inl (by omega)
    · exact h.foot' b h1
  Imono b hb := k.Imono b (h.Imono b hb)
  Inew b hb := by
    rcases k.Inew b hb with h1 | h1 | h1
    · exact h.Inew b h1
    · have := h.size
      exact .inr (.inl (by omega))
    · rcases h.foot' b h1 with h2 | h2
      · exact .inr (.inl h2)
      · exact .inr (.inr h2)
theorem block_of_add (a : Addr) (n : Nat) : (a.add n).block = a.block := by unfold Addr.add; split <;> rfl
theorem add_of_add (a : Addr) (i j : Nat) : (a.add i).add j = a.add (i + j) := by
  unfold Addr.add
  by_cases hi : i = 0 <;> by_cases hj : j = 0 <;> simp [hi, hj, Nat.add_assoc]
theorem add_plain (g i j : Nat) : (⟨g, i, none⟩ : Addr).add j = ⟨g, i + j, none⟩ := by unfold Addr.add; split <;> simp_all
theorem CR.kept {I I' : Nat → Prop} {w w' : World} (hI : ∀ b, I b → I' b) (hk : ∀ b, I b → w'.heap[b]? = w.heap[b]?) {c : CV} {v : Value} (h : CR I w c v) : CR I' w' c v := by
  induction h with
  | int k n => exact .int k n
  | bool b => exact .bool b
  | str l => exact .str l
  | nil => exact .nil
  | sl0 s f => exact .sl0 s f
  | sl a c vs hl hv hc hf hI0 hw h ih =>
    refine .sl a c vs hl hv hc hf (fun h0 => hI _ (hI0 h0)) (fun j v hj => ?_) ih
    rw [← hw j v hj]
    have hlt : j < vs.length := by
      rcases Nat.lt_or_ge j vs.length with h1 | h1
      · exact h1
      · rw [List.getElem?_eq_none h1] at hj; cases hj
    exact World.cell?_of_block (w := w) (by rw [block_of_add]; exact hk _ (hI0 (by omega)))
structure Env.Le (E E' : Env) : Prop where
  n : E.n ≤ E'.n
  b : ∀ i, i < E.n → E'.b i = E.b i
  v : ∀ i, i < E.n → E'.v i = E.v i
theorem Env.Le.refl (E : Env) : E.Le E := ⟨Nat.le_refl _, fun _ _ => rfl, fun _ _ => rfl⟩
theorem Env.Le.trans {E E' E'' : Env} (h : E.Le E') (k : E'.Le E'') : E.Le E'' :=
  ⟨Nat.le_trans h.n k.n, fun i hi => (k.b i (Nat.lt_of_lt_of_le hi h.n)).trans (h.b i hi), fun i hi => (k.v i (Nat.lt_of_lt_of_le hi h.n)).trans (h.v i hi)⟩
theorem VR.kept {E E' : Env} {w w' : World} (le : E.Le E') (hI : ∀ b, E.I b → E'.I b) (hk : ∀ b, E.I b → w'.heap[b]? = w.heap[b]?) {x : SV} {v : Value} (h : VR E w x v) : VR E' w' x v := by
  induction h with
  | int k n => exact .int k n
  | bool b => exact .bool b
  | str l => exact .str l
  | nil => exact .nil
  | nilsl => exact .nilsl
  | sl h => exact .sl (h.kept hI hk)
  | pim a vs hv' hI0 hw h =>
    refine .pim a vs hv' (fun h0 => hI _ (hI0 h0)) (fun j v hj => ?_) (fun j x v hx hj => (h j x v hx hj).kept hI hk)
    rw [← hw j v hj]
    have hlt : j < vs.length := by
      rcases Nat.lt_or_ge j vs.length with h1 | h1
      · exact h1
      · rw [List.getElem?_eq_none h1] at hj; cases hj
    exact World.cell?_of_block (w := w) (by rw [block_of_add]; exact hk _ (hI0 (by omega)))
  | pnull => exact .pnull
  | ptr i off hi => rw [← le.b i hi]; exact .ptr i off (Nat.lt_of_lt_of_le hi le.n)
  | slice i off len cap hi => rw [← le.b i hi]; exact .slice i off len cap (Nat.lt_of_lt_of_le hi le.n)
  | own i hi => rw [← le.v i hi]; exact .own i (Nat.lt_of_lt_of_le hi le.n)
  | pown i off b n c hi h => exact .pown i off b n c (Nat.lt_of_lt_of_le hi le.n) (by rw [le.v i hi]; exact h)
  | sub i s lo len b n c o hi h hl ho h0 => exact .sub i s lo len b n c o (Nat.lt_of_lt_of_le hi le.n) (by rw [le.v i hi]; exact h) hl ho h0
  | subN i s hi h => exact .subN i s (Nat.lt_of_lt_of_le hi le.n) (by rw [le.v i hi]; exact h)
  | optN i off => exact .optN i off
  | optS i off hi => rw [← le.b i hi]; exact .optS i off (Nat.lt_of_lt_of_le hi le.n)
  | mp i hi => rw [← le.b i hi]; exact .mp i (Nat.lt_of_lt_of_le hi le.n)
  | agg vs hl h ih => exact .agg vs hl ih
  | tuple vs hl h ih => exact .tuple vs hl ih
  | func vs hl h ih => exact .func vs hl ih
  | nilfunc => exact .nilfunc
  | any v => exact .any v
theorem VRs.kept {E E' : Env} {w w' : World} (le : E.Le E') (hI : ∀ b, E.I b → E'.I b) (hk : ∀ b, E.I b → w'.heap[b]? = w.heap[b]?) {l : List SV} {vs : List Value} (h : VRs E w l vs) : VRs E' w' l vs :=
  ⟨h.1, fun j x v hx hv => (h.2 j x v hx hv).kept le hI hk⟩
theorem OwnR.kept {I I' : Nat → Prop} {w w' : World} (hI : ∀ b, I b → I' b) (hk : ∀ b, I b → w'.heap[b]? = w.heap[b]?) {v : Value} {e s n : Nat} {xs : List CV} {wr : Bool}
    (hb : ∀ b, Value.blk v = some b → w'.heap[b]? = w.heap[b]?) (h : OwnR I w v e s n xs wr) : OwnR I' w' v e s n xs wr := by
  refine ⟨h.len, ?_⟩
  rcases h.row with h1 | ⟨b, cap, vs, fz, e1, e2, e3, e4, e5, e6, e7⟩
  · exact .inl h1
  · refine .inr ⟨b, cap, vs, fz, e1, ?_, e3, e4, e5, e6, fun j x u hx hu => (e7 j x u hx hu).kept hI hk⟩
    rw [hb b (by rw [e1]; rfl)]
    exact e2
theorem MapR.kept {I I' : Nat → Prop} {w w' : World} (hI : ∀ b, I b → I' b) (hk : ∀ b, I b → w'.heap[b]? = w.heap[b]?) {kd : Nat} {es : List (CV × CV)} {l : List MapEntry} (h : MapR I w kd es l) : MapR I' w' kd es l :=
  ⟨h.1, fun j x m hx hm => ⟨(h.2 j x m hx hm).1, (h.2 j x m hx hm).2.1.kept hI hk, (h.2 j x m hx hm).2.2.kept hI hk⟩⟩
theorem ObjR.kept {E E' : Env} {w w' : World} (le : E.Le E') (hI : ∀ b, E.I b → E'.I b) (hk : ∀ b, E.I b → w'.heap[b]? = w.heap[b]?) {i : Nat} (hi : i < E.n) {o : LObj}
    (hb : ∀ b, foot E i o = some b → w'.heap[b]? = w.heap[b]?) (h : ObjR E w i o) : ObjR E' w' i o := by
  cases o with
  | cells c e =>
    obtain ⟨vs, h1, h2⟩ := h
    refine ⟨vs, ?_, h2.kept le hI hk⟩
    rw [le.b i hi, hb _ rfl]
    exact h1
  | own e s n xs wr =>
    show OwnR _ _ _ _ _ _ _ _
    rw [le.v i hi]
    exact OwnR.kept hI hk (fun b hb' => hb b hb') h
  | map kd es =>
    obtain ⟨ents, clock, h1, h2⟩ := h
    exact ⟨ents, clock, by rw [le.b i hi, hb _ rfl]; exact h1, h2.kept hI hk⟩
  | gone => trivial
theorem foot_le {E E' : Env} (le : E.Le E') {i : Nat} (hi : i < E.n) (o : LObj) : foot E' i o = foot E i o := by
  cases o with
  | cells c e => simp only [foot, le.b i hi]
  | own e s n xs wr => simp only [foot, le.v i hi]
  | map kd es => simp only [foot, le.b i hi]
  | gone => rfl
theorem lt_of_get {α : Type} {l : List α} {i : Nat} {x : α} (h : l[i]? = some x) : i < l.length := by
  rcases Nat.lt_or_ge i l.length with h1 | h1
  · exact h1
  · rw [List.getElem?_eq_none h1] at h; cases h
theorem Rel.lt {E : Env} {H : List LObj} {w : World} (h : Rel E H w) {i : Nat} {o : LObj} (hi : H[i]? = some o) : i < E.n := by
  rw [← h.len]; exact lt_of_get hi
theorem Rel.foot_lt {E : Env} {H : List LObj} {w : World} (h : Rel E H w) {b : Nat} (hb : InFoot E H b) : b < w.heap.size := by
  obtain ⟨i, o, hi, hf⟩ := hb
  have ho := h.obj i o hi
  cases o with
  | cells c e =>
    obtain ⟨vs, h1, _⟩ := ho
    cases hf
    exact (Array.getElem?_eq_some_iff.1 h1).1
  | own e s n xs wr =>
    rcases ho.row with ⟨h1, _⟩ | ⟨b', cap, vs, fz, e1, e2, _⟩
    · simp [foot, h1, Value.blk] at hf
    · simp [foot, e1, Value.blk] at hf
      subst hf
      exact (Array.getElem?_eq_some_iff.1 e2).1
  | map kd es =>
    obtain ⟨ents, clock, h1, _⟩ := ho
    cases hf
    exact (Array.getElem?_eq_some_iff.1 h1).1
  | gone => cases hf
end
section

structure TI where
  d : TypeDesc
  zero : Value
  size : Nat
  bytes : Nat
abbrev Ty := List (Nat × TI)
def look {α : Type} : List (Nat × α) → Nat → Option α
  | [], _ => none
  | (a, i) :: r, t => match Nat.beq a t with
    | true => some i
    | false => look r t
theorem look_mem {α : Type} : ∀ {l : List (Nat × α)} {t : Nat} {i : α}, look l t = some i → (t, i) ∈ l
  | [], _, _, h => by cases h
  | (a, i) :: r, t, j, h => by
    unfold look at h
    split at h
    · rename_i hb
      cases h
      rw [Nat.eq_of_beq_eq_true hb]
      exact List.mem_cons_self
    · exact List.mem_cons_of_mem _ (look_mem h)
def isSt : TypeDesc → Bool
  | .struct _ => true
  | _ => false
structure TOk (P : Program) (p : Nat × TI) : Prop where
  und : P.underlying p.1 = some p.2.d
  inf : (P.info? p.1).map (fun i => (i.zero, i.size, i.bytes)) = some (some p.2.zero, p.2.size, p.2.bytes)
  eqs : isSt p.2.d = true → P.eqGuardType P.depth p.1 = false ∧ P.stoodInHeld p.1 = false
def TyOk (P : Program) (Γ : Ty) : Prop := ∀ p ∈ Γ, TOk P p
theorem TyOk.nil_ (P : Program) : TyOk P [] := fun _ h => by cases h
theorem TyOk.cons_ {P : Program} {Γ : Ty} {t : Nat} {i : TI} (h : TOk P (t, i)) (r : TyOk P Γ) : TyOk P ((t, i) :: Γ) := fun p hp => by
  cases hp with
  | head => exact h
  | tail _ hp => exact r p hp
abbrev Gl := List (Nat × List CV)
structure GlOk (E : Env) (w : World) (G : Gl) : Prop where
  ok : ∀ g cs, (g, cs) ∈ G → E.I g ∧ ∃ vs : List Value, CRs E.I w cs vs ∧ ∀ (j : Nat) v, vs[j]? = some v → w.cell? ⟨g, j, none⟩ = some v
theorem GlOk.kept {E E' : Env} {w w' : World} {G : Gl} (h : GlOk E w G) (hI : ∀ b, E.I b → E'.I b) (hk : ∀ b, E.I b → w'.heap[b]? = w.heap[b]?) : GlOk E' w' G :=
  ⟨fun g cs hg => by
    obtain ⟨h1, vs, h2, h3⟩ := h.ok g cs hg
    refine ⟨hI _ h1, vs, ⟨h2.1, fun j x v hx hv => (h2.2 j x v hx hv).kept hI hk⟩, fun j v hv => ?_⟩
    rw [← h3 j v hv]
    exact World.cell?_of_block (w := w) (hk _ h1)⟩
variable {A : Env}
structure LS where
  t : List SV
  h : List LObj
def ofV0 : Value → SV
  | .int k n => .int k n
  | .bool b => .bool b
  | .string s => .str s.data.toList
  | .pointer none => .nil
  | .slice none 0 0 => .nilsl
  | .nilFunc => .nilfunc
  | _ => .any
def ofV : Value → SV
  | .agg cs => .agg (cs.toList.map ofV0)
  | v => ofV0 v
theorem VR.ofV0 (E : Env) (w : World) (v : Value) : VR E w (ofV0 v) v := by
  unfold LX.ofV0
  split
  · exact .int _ _
  · exact .bool _
  · rename_i s; have := VR.str (E := E) (w := w) s.data.toList; simpa using this
  · exact .nil
  · exact .nilsl
  · exact .nilfunc
  · exact .any _
theorem VRs.ofV0 (E : Env) (w : World) (l : List Value) : VRs E w (l.map LX.ofV0) l :=
  ⟨by simp, fun j x v hx hv => by
    rw [List.getElem?_map, hv] at hx
    cases hx
    exact .ofV0 E w v⟩
theorem VR.ofV (E : Env) (w : World) (v : Value) : VR E w (ofV v) v := by
  unfold LX.ofV
  split
  · rename_i cs
    have := VRs.ofV0 E w cs.toList
    have h := VR.agg (E := E) (w := w) cs.toList this.1 this.2
    simpa using h
  · exact .ofV0 E w v
def LS.ev (G : Gl) (s : LS) : Operand → SV
  | .tmp t => s.t.getD t .any
  | .const v => LX.ofV v
  | .global g => match look G g with
    | some cs => .pim cs
    | none => .any
  | .func f => .func (.func f) []
structure SR (G : Gl) (A E : Env) (s : LS) (a : Act) (w : World) : Prop where
  anc : A.Le E
  vals : VRs E w s.t a.tmps.toList
  rel : Rel E s.h w
  gl : GlOk E w G
  nod : a.defers = []
theorem SR.ev {G : Gl} {E : Env} {s : LS} {a : Act} {w : World} (h : SR G A E s a w) (o : Operand) : VR E w (s.ev G o) (a.eval o) := by
  cases o with
  | tmp t =>
    show VR E w (s.t.getD t .any) (a.tmps.getD t undef)
    cases hx : s.t[t]? with
    | none => rw [List.getD_eq_getElem?_getD, hx]; exact .any _
    | some x =>
      have hlt : t < s.t.length := by
        rcases Nat.lt_or_ge t s.t.length with h1 | h1
        · exact h1
        · rw [List.getElem?_eq_none h1] at hx; cases hx
      have hlt' : t < a.tmps.toList.length := by rw [h.vals.1]; exact hlt
      rw [List.getD_eq_getElem?_getD, hx]
      have hv : a.tmps.toList[t]? = some (a.tmps.getD t undef) := by
        simp at hlt'
        simp [Array.getD, hlt']
      exact h.vals.2 t x _ hx hv
  | const v => exact .ofV E w v
  | global g =>
    show VR E w (match look G g with | some cs => .pim cs | none => .any) _
    cases hg : look G g with
    | none => exact .any _
    | some cs =>
      obtain ⟨hI, vs, hr, hc⟩ := h.gl.ok g cs (look_mem hg)
      exact .pim ⟨g, 0, none⟩ vs hr.1 (fun _ => hI) (fun j v hj => by rw [add_plain, Nat.zero_add]; exact hc j v hj) hr.2
  | func f => exact .func [] rfl (fun j x v hx => by simp at hx)
def setK : List SV → Nat → SV → (List SV → Prop) → Prop
  | [], _, _, k => k []
  | _ :: r, 0, v, k => k (v :: r)
  | a :: r, i + 1, v, k => setK r i v fun r' => k (a :: r')
theorem setK_eq : ∀ (l : List SV) (i : Nat) (v : SV) (k : List SV → Prop), setK l i v k = k (l.set i v)
  | [], _, _, _ => rfl
  | _ :: _, 0, _, _ => rfl
  | a :: r, i + 1, v, k => by rw [setK, setK_eq r i v]; rfl
def forceK (v : SV) (k : SV → Prop) : Prop :=
  match v with
  | .int a b => k (.int a b)
  | .bool a => k (.bool a)
  | .str a => k (.str a)
  | .nil => k .nil
  | .nilsl => k .nilsl
  | .sl a b c d => k (.sl a b c d)
  | .pim a => k (.pim a)
  | .ptr a b => k (.ptr a b)
  | .slice a b c d => k (.slice a b c d)
  | .own a => k (.own a)
  | .pown a b => k (.pown a b)
  | .sub a b c d => k (.sub a b c d)
  | .opt a b => k (.opt a b)
  | .mp a => k (.mp a)
  | .agg a => k (.agg a)
  | .tuple a => k (.tuple a)
  | .func a b => k (.func a b)
  | .nilfunc => k .nilfunc
  | .any => k .any
theorem forceK_eq (v : SV) (k : SV → Prop) : forceK v k = k v := by cases v <;> rfl
def LS.put (s : LS) (d : Option Tmp) (v : SV) (k : LS → Prop) : Prop :=
  match s, d with
  | ⟨t, h⟩, none => k ⟨t, h⟩
  | ⟨t, h⟩, some d => forceK v fun v => setK t d v fun t' => k ⟨t', h⟩
theorem VRs.set_ {E : Env} {w : World} {l : List SV} {vs : List Value} (h : VRs E w l vs) (i : Nat) {x : SV} {v : Value} (hx : VR E w x v) : VRs E w (l.set i x) (vs.set i v) := by
  refine ⟨by simp [h.1], fun j y u hy hu => ?_⟩
  rw [List.getElem?_set] at hy hu
  by_cases hij : i = j
  · subst hij
    simp only [if_true] at hy hu
    split at hy
    · split at hu
      · cases hy; cases hu; exact hx
      · cases hu
    · cases hy
  · rw [if_neg hij] at hy hu
    exact h.2 j y u hy hu
def Then (G : Gl) (A E : Env) (s : LS) (w : World) (k : LS → Prop) (a' : Act) (w' : World) : Prop :=
  ∃ s' E', k s' ∧ SR G A E' s' a' w' ∧ Step E s.h w E' s'.h w'
theorem LS.put_then {G : Gl} {E E' : Env} {s : LS} {s1 : LS} {a : Act} {w w' : World} {d : Option Tmp} {x : SV} {v : Value} {k : LS → Prop}
    (hk : s1.put d x k) (hs : SR G A E' s1 a w') (hx : VR E' w' x v) (hstep : Step E s.h w E' s1.h w') : Then G A E s w k (a.put d v) w' := by
  cases d with
  | none => exact ⟨s1, E', hk, hs, hstep⟩
  | some d =>
    simp only [LS.put, forceK_eq, setK_eq] at hk
    refine ⟨_, E', hk, ⟨hs.anc, ?_, hs.rel, hs.gl, hs.nod⟩, hstep⟩
    show VRs E' w' (s1.t.set d x) (a.tmps.setIfInBounds d v).toList
    rw [Array.toList_setIfInBounds]
    exact hs.vals.set_ d hx
structure Need (p q : Prop) : Prop where
  pre : p
  rest : q
theorem Need.au {p q : Prop} (b : q) (a : p := by first | omega | exact ⟨by omega, by omega⟩ | rfl | exact ⟨rfl, rfl⟩ | exact ⟨rfl, by omega, by omega⟩ | exact ⟨by omega, by omega, by omega⟩ | exact ⟨rfl, Nat.le_of_ble_eq_true rfl⟩ | exact Nat.le_of_ble_eq_true rfl | (refine ⟨rfl, rfl, ?_⟩; simp [isFar, ofV0, CV.up, SV.renL, SV.ren] <;> fail) | (refine ⟨rfl, Nat.le_of_ble_eq_true rfl, ?_⟩; simp [isFar, ofV0, CV.up, SV.renL, SV.ren] <;> fail) | (simp only [List.length_append, List.length_drop, List.length_take, List.length_replicate, List.length_map]; omega) | (simp <;> fail)) : Need p q := ⟨a, b⟩
structure Both (c : Bool) (p q : Prop) : Prop where
  yes : c = true → p
  no : c = false → q
theorem Both.lit_true {p q : Prop} (h : p) : Both true p q := ⟨fun _ => h, (fun h => by cases h)⟩
theorem Both.lit_false {p q : Prop} (h : q) : Both false p q := ⟨(fun h => by cases h), fun _ => h⟩
theorem Both.dec {c : Prop} [Decidable c] {p q : Prop} (h1 : c → p) (h2 : ¬ c → q) : Both (decide c) p q := ⟨fun h => h1 (of_decide_eq_true h), fun h => h2 (of_decide_eq_false h)⟩
theorem Both.dec_not {c : Prop} [Decidable c] {p q : Prop} (h1 : ¬ c → p) (h2 : c → q) : Both (!decide c) p q := ⟨fun h => h1 (by simpa using h), fun h => h2 (by simpa using h)⟩
def wideR (ro : Option Nat) : Fence := { Fence.wide with round := ro }
def dress (ds : List Deferred) (a : Act) : Act := { tmps := a.tmps, defers := a.defers ++ ds }
structure Cx where
  ro : Option Nat
  ds : List Deferred
  J : Env → Env → List LObj → World → Prop
  keep : ∀ A E H w E' H' w', J A E H w → Step E H w E' H' w' → J A E' H' w'
def Cx.plain : Cx := ⟨none, [], fun _ _ _ _ => True, fun _ _ _ _ _ _ _ _ _ => trivial⟩
def calmO (o : Oper) : Bool := match o.op with
  | .defer _ => false
  | _ => true
def calm : Code → Bool
  | .region _ ops _ => ops.all calmO
  | .seq a b | .cond _ a b => calm a && calm b
  | .block _ c | .loop c | .scope c => calm c
  | _ => true
def liftQ (ds : List Deferred) (Q : Exit → Act → World → Prop) : Exit → Act → World → Prop := fun e a' w' => ∃ a0, a' = dress ds a0 ∧ Q e a0 w'
def WpX (P : Program) (G : Gl) (N : Nat) (X : Cx) (c : Code) (s : LS) (K : Exit → LS → Prop) : Prop :=
  ∀ A E w a, A.n = N → SR G A E s a w → X.J A E s.h w → c.wpIn (wideR X.ro) 0 P (liftQ X.ds fun e a' w' => Then G A E s w (K e) a' w') (dress X.ds a) w
def Wp (P : Program) (G : Gl) (N : Nat) (c : Code) (s : LS) (K : Exit → LS → Prop) : Prop :=
  ∀ X : Cx, (X.ro = none ∨ calm c = true) → WpX P G N X c s K
abbrev Spec := List SV → List LObj → (SV → List LObj → Prop) → Prop
def Meets (P : Program) (G : Gl) (f : FuncId) (S : Spec) : Prop :=
  ∀ args H Q, S args H Q → ∀ E w vs, VRs E w args vs → Rel E H w → GlOk E w G →
    Calls P f vs.toArray w fun e w' => ∃ v r H' E', e = .returned v ∧ Q r H' ∧ VR E' w' r v ∧ Rel E' H' w' ∧ Step E H w E' H' w' ∧ E.Le E'
def kb : IntKind → IntKind → Bool
  | .i8, .i8 | .i16, .i16 | .i32, .i32 | .i64, .i64 | .u8, .u8 | .u16, .u16 | .u32, .u32 | .u64, .u64 => true
  | _, _ => false
theorem kb_eq {a b : IntKind} (h : kb a b = true) : a = b := by cases a <;> cases b <;> first | rfl | cases h
def bitAnd (k : IntKind) (x y : Int) : Int := k.wrap (BitVec.ofInt k.bits x &&& BitVec.ofInt k.bits y).toNat
def bitOr (k : IntKind) (x y : Int) : Int := k.wrap (BitVec.ofInt k.bits x ||| BitVec.ofInt k.bits y).toNat
def bitXor (k : IntKind) (x y : Int) : Int := k.wrap (BitVec.ofInt k.bits x ^^^ BitVec.ofInt k.bits y).toNat
def bitAndNot (k : IntKind) (x y : Int) : Int := k.wrap (BitVec.ofInt k.bits x &&& ~~~BitVec.ofInt k.bits y).toNat
def bitNot (k : IntKind) (x : Int) : Int := bitXor k (if k.signed then -1 else k.max) x
def shlI (k : IntKind) (x y : Int) : Int := k.wrap (x * 2 ^ min y.toNat k.bits)
def shrI (k : IntKind) (x y : Int) : Int := x.fdiv (2 ^ min y.toNat k.bits)
def lessS (x y : List UInt8) : Bool := Op.bytesLess x y
def intK (op : BinOp) (k : IntKind) (m n : Int) (c : SV → Prop) : Prop :=
  match op with
  | .add => c (.int k (k.wrap (m + n)))
  | .sub => c (.int k (k.wrap (m - n)))
  | .mul => c (.int k (k.wrap (m * n)))
  | .quo => Need (n ≠ 0) (c (.int k (k.wrap (m.tdiv n))))
  | .rem => Need (n ≠ 0) (c (.int k (m.tmod n)))
  | .and => c (.int k (bitAnd k m n))
  | .or => c (.int k (bitOr k m n))
  | .xor => c (.int k (bitXor k m n))
  | .andNot => c (.int k (bitAndNot k m n))
  | .eql => c (.bool (decide (m = n)))
  | .neq => c (.bool (!decide (m = n)))
  | .lss => c (.bool (decide (m < n)))
  | .leq => c (.bool (decide (m ≤ n)))
  | .gtr => c (.bool (decide (n < m)))
  | .geq => c (.bool (decide (n ≤ m)))
  | _ => False
def strK (op : BinOp) (x y : List UInt8) (c : SV → Prop) : Prop :=
  match op with
  | .add => Need (x.length + y.length ≤ 9223372036854775807) (c (.str (x ++ y)))
  | .eql => c (.bool (decide (x = y)))
  | .neq => c (.bool (!decide (x = y)))
  | .lss => c (.bool (lessS x y))
  | .leq => c (.bool (lessS x y || decide (x = y)))
  | .gtr => c (.bool (!(lessS x y || decide (x = y))))
  | .geq => c (.bool (!lessS x y))
  | _ => False
def binK (op : BinOp) (x y : SV) (c : SV → Prop) : Prop :=
  match x, y with
  | .int k m, .int k' n => match op with
    | .shl => Need (0 ≤ n) (c (.int k (shlI k m n)))
    | .shr => Need (0 ≤ n) (c (.int k (shrI k m n)))
    | _ => match kb k k' with
      | true => intK op k m n c
      | false => False
  | .str x, .str y => strK op x y c
  | _, _ => False
def unK (op : UnOp) (x : SV) (c : SV → Prop) : Prop :=
  match op, x with
  | .neg, .int k n => c (.int k (k.wrap (0 - n)))
  | .xor, .int k n => c (.int k (bitNot k n))
  | .not, .bool b => c (.bool !b)
  | _, _ => False
structure PureRun (P : Program) (E : Env) (w : World) (e : Sem Value) (c : SV → Prop) : Prop where
  out : ∃ x v, e.run P w = .ok v w ∧ c x ∧ VR E w x v
theorem PureRun.mk' {P : Program} {E : Env} {w : World} {e : Sem Value} {c : SV → Prop} {x : SV} {v : Value} (h : e.run P w = .ok v w) (hc : c x) (hx : VR E w x v) : PureRun P E w e c := ⟨⟨x, v, h, hc, hx⟩⟩
theorem toList_mk (l : List UInt8) : (ByteArray.mk l.toArray).toList = l := by
  rw [ByteArray.toList_eq]
theorem beq_dec (x y : List UInt8) : (x == y) = decide (x = y) := by
  by_cases h : x = y <;> simp [h]
theorem size_mk (l : List UInt8) : (ByteArray.mk l.toArray).size = l.length := by simp [ByteArray.size]
theorem append_mk (x y : List UInt8) : (ByteArray.mk x.toArray) ++ (ByteArray.mk y.toArray) = ByteArray.mk (x ++ y).toArray := by
  apply ByteArray.ext
  simp
theorem intK_sound {P : Program} {E : Env} {w : World} {op : BinOp} {k : IntKind} {m n : Int} {c : SV → Prop} (t : TypeId) (h : intK op k m n c) : PureRun P E w (binOp op t (.int k m) (.int k n)) c := by
  cases op <;> simp only [intK] at h
  case add => exact .mk' (x := .int k _) (by simp [binOp, Op.intArith]) h (.int _ _)
  case sub => exact .mk' (x := .int k _) (by simp [binOp, Op.intArith]) h (.int _ _)
  case mul => exact .mk' (x := .int k _) (by simp [binOp, Op.intArith]) h (.int _ _)
  case quo => exact .mk' (x := .int k _) (by simp [binOp, Op.intDiv, h.pre]) h.rest (.int _ _)
  case rem => exact .mk' (x := .int k _) (by simp [binOp, Op.intDiv, h.pre]) h.rest (.int _ _)
  case and => exact .mk' (x := .int k _) (by simp [binOp, Op.intBits, bitAnd]) h (.int _ _)
  case or => exact .mk' (x := .int k _) (by simp [binOp, Op.intBits, bitOr]) h (.int _ _)
  case xor => exact .mk' (x := .int k _) (by simp [binOp, Op.intBits, bitXor]) h (.int _ _)
  case andNot => exact .mk' (x := .int k _) (by simp [binOp, Op.intBits, bitAndNot]) h (.int _ _)
  case eql => exact .mk' (x := .bool _) (by simp [binOp, Op.intCmp]; rfl) h (.bool _)
  case neq => exact .mk' (x := .bool _) (by simp [binOp, Op.intCmp]; rfl) h (.bool _)
  case lss => exact .mk' (x := .bool _) (by simp [binOp, Op.intCmp]) h (.bool _)
  case leq => exact .mk' (x := .bool _) (by simp [binOp, Op.intCmp]) h (.bool _)
  case gtr => exact .mk' (x := .bool _) (by simp [binOp, Op.intCmp]) h (.bool _)
  case geq => exact .mk' (x := .bool _) (by simp [binOp, Op.intCmp]) h (.bool _)
theorem strK_sound {P : Program} {E : Env} {w : World} {op : BinOp} {x y : List UInt8} {c : SV → Prop} (t : TypeId) (h : strK op x y c) : PureRun P E w (binOp op t (.string ⟨x.toArray⟩) (.string ⟨y.toArray⟩)) c := by
  cases op <;> simp only [strK] at h
  case add =>
    have h0 := h.pre
    refine .mk' (x := .str (x ++ y)) (v := .string ⟨(x ++ y).toArray⟩) ?_ h.rest (.str _)
    simp only [binOp, Op.stringOp, size_mk, append_mk, IntKind.max]
    rw [if_neg (by simp [IntKind.bits, IntKind.signed]; omega)]
    rfl
  case eql => exact .mk' (x := .bool _) (by simp [binOp, Op.stringOp, toList_mk, beq_dec]) h (.bool _)
  case neq => exact .mk' (x := .bool _) (by simp [binOp, Op.stringOp, toList_mk, beq_dec]) h (.bool _)
  case lss => exact .mk' (x := .bool _) (by simp [binOp, Op.stringOp, toList_mk, lessS]) h (.bool _)
  case leq => exact .mk' (x := .bool _) (by simp [binOp, Op.stringOp, toList_mk, lessS, beq_dec]) h (.bool _)
  case gtr => exact .mk' (x := .bool _) (by simp [binOp, Op.stringOp, toList_mk, lessS, beq_dec]) h (.bool _)
  case geq => exact .mk' (x := .bool _) (by simp [binOp, Op.stringOp, toList_mk, lessS]) h (.bool _)
end
section

def isRow : TypeDesc → Bool
  | .struct _ | .array _ _ => true
  | _ => false
def seqK : List SV → (List SV → Prop) → Prop
  | [], k => k []
  | a :: r, k => seqK r fun r' => k (a :: r')
theorem seqK_eq : ∀ (l : List SV) (k : List SV → Prop), seqK l k = k l
  | [], _ => rfl
  | a :: r, k => by rw [seqK, seqK_eq r]
def partK (Γ : Ty) (t : TypeId) (l : List SV) (off : Nat) (c : SV → Prop) : Prop :=
  match look Γ t with
  | none => False
  | some ti => match isRow ti.d with
    | true => match off with
      | 0 => match Nat.beq l.length ti.size with
        | true => c (.agg l)
        | false => seqK ((l.drop 0).take ti.size) fun l' => Need (ti.size ≤ l.length) (c (.agg l'))
      | o => seqK ((l.drop o).take ti.size) fun l' => Need (o + ti.size ≤ l.length) (c (.agg l'))
    | false => ∃ x, l[off]? = some x ∧ c x
def idxK (Γ : Ty) (t : TypeId) (x i : SV) (c : SV → Prop) : Prop :=
  match x, i with
  | .str l, .int _ n => match look Γ t with
    | some ⟨.string, _, _, _⟩ => Need (0 ≤ n ∧ n < l.length) (c (.int .u8 ((l.getD n.toNat 0).toNat : Int)))
    | _ => False
  | .agg l, .int _ n => match look Γ t with
    | some ⟨.array m e, _, _, _⟩ => match look Γ e with
      | some ⟨d, _, 1, _⟩ => match isRow d with
        | false => Need (0 ≤ n ∧ n < m) (∃ y, l[n.toNat]? = some y ∧ c y)
        | true => False
      | _ => False
    | _ => False
  | _, _ => False
theorem run_und {P : Program} {Γ : Ty} (hΓ : TyOk P Γ) {t : Nat} {ti : TI} (h : look Γ t = some ti) : P.underlying t = some ti.d := (hΓ _ (look_mem h)).und
theorem run_inf {P : Program} {Γ : Ty} (hΓ : TyOk P Γ) {t : Nat} {ti : TI} (h : look Γ t = some ti) : ∃ i, P.info? t = some i ∧ i.zero = some ti.zero ∧ i.size = ti.size ∧ i.bytes = ti.bytes := by
  have := (hΓ _ (look_mem h)).inf
  cases hi : P.info? t with
  | none => rw [hi] at this; simp at this
  | some i =>
    rw [hi] at this
    simp at this
    exact ⟨i, rfl, this.1, this.2.1, this.2.2⟩
theorem run_underlying' {P : Program} {t : TypeId} {d : TypeDesc} (h : P.underlying t = some d) (w : World) : (underlying t).run P w = .ok d w := by
  simp [underlying, h]
theorem run_sizeOf' {P : Program} {Γ : Ty} (hΓ : TyOk P Γ) {t : Nat} {ti : TI} (h : look Γ t = some ti) (w : World) : (sizeOf t).run P w = .ok ti.size w := by
  obtain ⟨i, h1, _, h3, _⟩ := run_inf hΓ h
  simp [sizeOf, typeInfo, h1, h3]
theorem run_isAgg {P : Program} {Γ : Ty} (hΓ : TyOk P Γ) {t : Nat} {ti : TI} (h : look Γ t = some ti) (w : World) : (isAgg t).run P w = .ok (isRow ti.d) w := by
  have h1 := run_und hΓ h
  simp only [isAgg, Sem.run_bind, run_underlying' h1, Result.andThen_ok]
  generalize ti.d = d
  cases d <;> rfl
theorem VRs.get {E : Env} {w : World} {l : List SV} {vs : List Value} (h : VRs E w l vs) {j : Nat} {x : SV} (hx : l[j]? = some x) : ∃ v, vs[j]? = some v ∧ VR E w x v := by
  have hlt : j < vs.length := by
    rw [h.1]
    rcases Nat.lt_or_ge j l.length with h1 | h1
    · exact h1
    · rw [List.getElem?_eq_none h1] at hx; cases hx
  exact ⟨vs[j], List.getElem?_eq_getElem hlt, h.2 j x _ hx (List.getElem?_eq_getElem hlt)⟩
theorem VRs.cut {E : Env} {w : World} {l : List SV} {vs : List Value} (h : VRs E w l vs) (o n : Nat) : VRs E w ((l.drop o).take n) ((vs.drop o).take n) := by
  refine ⟨by simp [h.1], fun j x v hx hv => ?_⟩
  rw [List.getElem?_take] at hx hv
  split at hx
  · rename_i hj
    rw [if_pos hj] at hv
    rw [List.getElem?_drop] at hx hv
    exact h.2 _ x v hx hv
  · cases hx
theorem extract_list (a : Array Value) (o n : Nat) : (a.extract o (o + n)).toList = (a.toList.drop o).take n := by
  rw [Array.toList_extract, List.extract_eq_take_drop]
  congr 1
  omega
theorem partK_sound {P : Program} {Γ : Ty} (hΓ : TyOk P Γ) {E : Env} {w : World} {t : TypeId} {l : List SV} {cs : Array Value} {off : Nat} {c : SV → Prop}
    (hv : VRs E w l cs.toList) (h : partK Γ t l off c) : PureRun P E w (part t cs off) c := by
  unfold partK at h
  split at h
  · exact h.elim
  · rename_i ti hti
    have hrow : ∀ (o : Nat), o = off → isRow ti.d = true → c (.agg ((l.drop o).take ti.size)) → PureRun P E w (part t cs off) c := by
      intro o ho hr hc
      subst ho
      have hcut := hv.cut o ti.size
      refine .mk' (x := .agg _) (v := .agg (cs.extract o (o + ti.size))) ?_ hc ?_
      · simp [part, run_isAgg hΓ hti, hr, run_sizeOf' hΓ hti]
      · have := VR.agg (E := E) (w := w) _ hcut.1 hcut.2
        rwa [← extract_list] at this
    split at h
    · rename_i hr
      split at h
      · split at h
        · rename_i hb
          refine hrow 0 rfl hr ?_
          have : ti.size = l.length := (Nat.eq_of_beq_eq_true hb).symm
          rw [this]
          simpa using h
        · rw [seqK_eq] at h
          exact hrow 0 rfl hr h.rest
      · rw [seqK_eq] at h
        exact hrow _ rfl hr h.rest
    · rename_i hr
      obtain ⟨x, hx, hc⟩ := h
      obtain ⟨v, hv1, hv2⟩ := hv.get hx
      refine .mk' (x := x) (v := v) ?_ hc hv2
      have : cs[off]? = some v := by rw [← hv1]; simp
      simp [part, run_isAgg hΓ hti, hr, this]
theorem run_loadVar_row' {P : Program} {Γ : Ty} (hΓ : TyOk P Γ) {t : Nat} {ti : TI} (h : look Γ t = some ti) (hr : isRow ti.d = true) {w : World} {a : Addr} {vs : List Value} (hl : vs.length = ti.size)
    (hc : ∀ (j : Nat) v, vs[j]? = some v → w.cell? (a.add j) = some v) : (loadVar t a).run P w = .ok (.agg vs.toArray) w := by
  have := run_loadCells_list (P := P) w a vs hc
  rw [hl] at this
  simp [loadVar, run_isAgg hΓ h, hr, run_sizeOf' hΓ h, this]
theorem run_loadVar_one {P : Program} {Γ : Ty} (hΓ : TyOk P Γ) {t : Nat} {ti : TI} (h : look Γ t = some ti) (hr : isRow ti.d = false) {w : World} {a : Addr} {v : Value} 
    (hc : w.cell? a = some v) : (loadVar t a).run P w = .ok v w := by
  simp [loadVar, run_isAgg hΓ h, hr, hc]
theorem add_zero (a : Addr) : a.add 0 = a := by unfold Addr.add; simp
theorem Rel.cell {E : Env} {H : List LObj} {w : World} (h : Rel E H w) {i : Nat} {c : List SV} {e : TypeId} (hi : H[i]? = some (.cells c e)) :
    ∃ vs : List Value, w.heap[E.b i]? = some (.cells vs.toArray e (0, 0)) ∧ VRs E w c vs ∧ ∀ o (j : Nat) v, vs[o + j]? = some v → w.cell? ((⟨E.b i, o, none⟩ : Addr).add j) = some v := by
  obtain ⟨vs, h1, h2⟩ := h.obj i _ hi
  refine ⟨vs.toList, by simpa using h1, h2, fun o j v hv => ?_⟩
  rw [add_plain]
  simp only [World.cell?, h1]
  simpa using hv
theorem CRs.up {E : Env} {w : World} {l : List CV} {vs : List Value} (h : CRs E.I w l vs) : VRs E w (l.map CV.up) vs :=
  ⟨by simp [h.1], fun j x v hx hv => by
    rw [List.getElem?_map] at hx
    cases hc : l[j]? with
    | none => rw [hc] at hx; cases hx
    | some y =>
      rw [hc] at hx
      cases hx
      exact (h.2 j y v hc hv).up⟩
def loadK (Γ : Ty) (H : List LObj) (t : TypeId) (x : SV) (c : SV → Prop) : Prop :=
  match x with
  | .ptr i off => match H[i]? with
    | some (.cells l e) => match Nat.beq e t with
      | true => match off with
        | 0 => match look Γ t with
          | some ti => match isRow ti.d with
            | true => Need (l.length = ti.size) (c (.agg l))
            | false => partK Γ t l 0 c
          | none => False
        | off + 1 => partK Γ t l (off + 1) c
      | false => partK Γ t l off c
    | _ => False
  | .pim (y :: cs) => partK Γ t ((y :: cs).map CV.up) 0 c
  | .pown i off => match H[i]? with
    | some (.own e s n xs wr) => match look Γ t with
      | some ti => match isRow ti.d with
        | true => ∃ ys, ys.length = ti.size ∧ (xs.drop off).take ti.size = ys ∧ c (.agg (ys.map CV.up))
        | false => ∃ y, xs[off]? = some y ∧ c y.up
      | none => False
    | _ => False
  | _ => False
theorem partLoad {P : Program} {Γ : Ty} (hΓ : TyOk P Γ) {E : Env} {w : World} {t : TypeId} {l : List SV} {vs : List Value} {off : Nat} {a : Addr} {c : SV → Prop}
    (hv : VRs E w l vs) (hc : ∀ (j : Nat) v, vs[off + j]? = some v → w.cell? (a.add j) = some v) (h : partK Γ t l off c) : PureRun P E w (loadVar t a) c := by
  unfold partK at h
  split at h
  · exact h.elim
  · rename_i ti hti
    have hrow : ∀ (o : Nat), o = off → o + ti.size ≤ l.length → isRow ti.d = true → c (.agg ((l.drop o).take ti.size)) → PureRun P E w (loadVar t a) c := by
      intro o ho hle hr hk
      subst ho
      have hcut := hv.cut o ti.size
      refine .mk' (x := .agg _) (v := .agg ((vs.drop o).take ti.size).toArray) (run_loadVar_row' hΓ hti hr (by simp [hv.1]; omega) fun j v hj => ?_) hk (VR.agg _ hcut.1 hcut.2)
      rw [List.getElem?_take] at hj
      split at hj
      · rw [List.getElem?_drop] at hj
        exact hc j v hj
      · cases hj
    split at h
    · rename_i hr
      split at h
      · split at h
        · rename_i hb
          have : ti.size = l.length := (Nat.eq_of_beq_eq_true hb).symm
          refine hrow 0 rfl (by omega) hr ?_
          rw [this]
          simpa using h
        · rw [seqK_eq] at h
          exact hrow 0 rfl (by have := h.pre; omega) hr h.rest
      · rw [seqK_eq] at h
        exact hrow _ rfl h.pre hr h.rest
    · rename_i hr
      obtain ⟨x, hx, hk⟩ := h
      obtain ⟨v, hv1, hv2⟩ := hv.get hx
      refine .mk' (x := x) (v := v) (run_loadVar_one hΓ hti (by simpa using hr) ?_) hk hv2
      rw [← add_zero a]
      exact hc 0 v (by simpa using hv1)
theorem loadK_sound {P : Program} {Γ : Ty} (hΓ : TyOk P Γ) {E : Env} {H : List LObj} {w : World} {t : TypeId} {x : SV} {v : Value} {c : SV → Prop}
    (hr : Rel E H w) (hx : VR E w x v) (h : loadK Γ H t x c) : PureRun P E w (Instr.loadAt t v) c := by
  cases hx <;> (try simp only [loadK] at h) <;> try exact h.elim
  case ptr i off hi0 =>
    split at h
    · rename_i l e hi
      obtain ⟨vs, h1, h2, h3⟩ := hr.cell hi
      split at h
      · split at h
        · split at h
          · rename_i ti hti
            split at h
            · rename_i hrow
              obtain ⟨hl, hk⟩ := h
              refine .mk' (x := .agg l) (v := .agg vs.toArray) ?_ hk (.agg vs h2.1 h2.2)
              have := run_loadVar_row' (w := w) (a := ⟨E.b i, 0, none⟩) (vs := vs) hΓ hti hrow (by rw [h2.1, hl]) (fun j v hj => h3 0 j v (by rw [Nat.zero_add]; exact hj))
              simp [Instr.loadAt, Instr.sureAddr, this]
            · have := partLoad hΓ h2 (h3 0) h
              exact ⟨by simpa [Instr.loadAt, Instr.sureAddr] using this.out⟩
          · exact h.elim
        · have := partLoad hΓ h2 (h3 _) h
          exact ⟨by simpa [Instr.loadAt, Instr.sureAddr] using this.out⟩
      · have := partLoad hΓ h2 (h3 _) h
        exact ⟨by simpa [Instr.loadAt, Instr.sureAddr] using this.out⟩
    · exact h.elim
  case pim cs a vs hv hI hw hh =>
    cases cs with
    | nil => exact h.elim
    | cons y cs =>
    simp only [loadK] at h
    have h2 : CRs E.I w (y :: cs) vs := ⟨hv, hh⟩
    have := partLoad hΓ h2.up (off := 0) (a := a) (fun j v hj => by rw [Nat.zero_add] at hj; exact hw j v hj) h
    exact ⟨by simpa [Instr.loadAt, Instr.sureAddr] using this.out⟩
  case pown i off b n' c' hi0 hE =>
    split at h
    · rename_i e s n xs wr hi
      have ho := hr.obj i _ hi
      have hlen := ho.len
      rcases ho.row with ⟨h0, _⟩ | ⟨b', cap, vs, fz, h1, h2, h3, h4, h5, h6, h7⟩
      · rw [h0] at hE; cases hE
      · rw [h1] at hE
        cases hE
        have hcell : ∀ (o j : Nat) v, vs.toList[o + j]? = some v → w.cell? ((⟨b, o, none⟩ : Addr).add j) = some v := by
          intro o j v hv
          rw [add_plain]
          simp only [World.cell?, h2]
          simpa using hv
        have hle : n' * s ≤ c' * s := Nat.mul_le_mul_right _ h4
        split at h
        · rename_i ti hti
          split at h
          · rename_i hrow
            obtain ⟨ys, hy1, hy2, hk⟩ := h
            have hsz : off + ti.size ≤ xs.length ∨ ti.size = 0 := by
              have := congrArg List.length hy2
              simp at this
              omega
            have hcr : CRs E.I w ys ((vs.toList.drop off).take ti.size) := by
              refine ⟨by simp; omega, fun j x v hx hv => ?_⟩
              rw [← hy2, List.getElem?_take] at hx
              rw [List.getElem?_take] at hv
              split at hx
              · rename_i hj
                rw [if_pos hj] at hv
                rw [List.getElem?_drop] at hx hv
                exact h7 _ x v hx (by simpa using hv)
              · cases hx
            have hup := hcr.up
            refine ⟨⟨.agg (ys.map CV.up), .agg ((vs.toList.drop off).take ti.size).toArray, ?_, hk, VR.agg _ hup.1 hup.2⟩⟩
            have := run_loadVar_row' hΓ hti hrow (w := w) (a := ⟨b, off, none⟩) (vs := (vs.toList.drop off).take ti.size) (by simp; omega) (fun j v hj => by
              rw [List.getElem?_take] at hj
              split at hj
              · rw [List.getElem?_drop] at hj
                exact hcell off j v hj
              · cases hj)
            simpa [Instr.loadAt, Instr.sureAddr] using this
          · rename_i hrow
            obtain ⟨y, hy, hk⟩ := h
            have hlt : off < xs.length := by
              rcases Nat.lt_or_ge off xs.length with h1 | h1
              · exact h1
              · rw [List.getElem?_eq_none h1] at hy; cases hy
            have hvs : off < vs.size := by omega
            have hget : vs[off]? = some vs[off] := Array.getElem?_eq_getElem hvs
            refine ⟨⟨y.up, vs[off], ?_, hk, (h7 off y _ hy hget).up⟩⟩
            have := run_loadVar_one hΓ hti (by simpa using hrow) (w := w) (a := ⟨b, off, none⟩) (v := vs[off]) (by
              have := hcell off 0 vs[off] (by simpa using hget)
              rwa [add_zero] at this)
            simp [Instr.loadAt, Instr.sureAddr, this]
        · exact h.elim
    · exact h.elim
theorem idxK_sound {P : Program} {Γ : Ty} (hΓ : TyOk P Γ) {E : Env} {w : World} {t : TypeId} {x i : SV} {u v : Value} {c : SV → Prop}
    (hx : VR E w x u) (hi : VR E w i v) (h : idxK Γ t x i c) : PureRun P E w (Instr.index t u v) c := by
  cases hx <;> cases hi <;> simp only [idxK] at h <;> try exact h.elim
  case str.int l k n =>
    split at h
    · rename_i ti hti
      obtain ⟨⟨h0, h1⟩, hk⟩ := h
      have hu := run_und hΓ hti
      have hlt : n.toNat < l.length := by omega
      refine .mk' (x := .int .u8 _) (v := .int .u8 ((l.getD n.toNat 0).toNat : Int)) ?_ hk (.int _ _)
      have hget : (ByteArray.mk l.toArray)[n.toNat]? = some (l.getD n.toNat 0) := by
        rw [getElem?_pos _ _ (by rw [size_mk]; exact hlt)]
        congr 1
        show (l.toArray)[n.toNat] = _
        simp [List.getD_eq_getElem?_getD, List.getElem?_eq_getElem hlt]
      simp [Instr.index, asIntOf, run_underlying' hu, h0, hget]
    · exact h.elim
  case agg.int l vs hl hh k n =>
    split at h
    · rename_i m e _ _ _ hti
      split at h
      · rename_i d _ _ hte
        split at h
        · rename_i hd
          obtain ⟨⟨h0, h1⟩, y, hy, hk⟩ := h
          have hu := run_und hΓ hti
          obtain ⟨z, hz, hyz⟩ := VRs.get (l := l) (vs := vs) ⟨hl, hh⟩ hy
          refine .mk' (x := y) (v := z) ?_ hk hyz
          have hs := run_sizeOf' hΓ hte w
          have ha := run_isAgg hΓ hte w
          simp only at hs ha
          rw [hd] at ha
          simp [Instr.index, asIntOf, run_underlying' hu, h0, h1, hs, part, ha, hz]
        · exact h.elim
      · exact h.elim
    · exact h.elim
def iaddrK (Γ : Ty) (H : List LObj) (t : TypeId) (x i : SV) (c : SV → Prop) : Prop :=
  match x, i with
  | .ptr b off, .int _ n => match look Γ t with
    | some ⟨.array m e, _, _, _⟩ => match look Γ e with
      | some te => Need (0 ≤ n ∧ n < m) (match te.size with
        | 1 => c (.ptr b (off + n.toNat))
        | z => c (.ptr b (off + n.toNat * z)))
      | none => False
    | _ => False
  | .slice b off len cap, .int _ n => match look Γ t with
    | some ⟨.slice e, _, _, _⟩ => match look Γ e with
      | some te => Need (0 ≤ n ∧ n < len) (match te.size with
        | 1 => c (.ptr b (off + n.toNat))
        | z => c (.ptr b (off + n.toNat * z)))
      | none => False
    | _ => False
  | .sl s m cs f, .int _ n => match look Γ t with
    | some ⟨.slice e, _, _, _⟩ => match look Γ e with
      | some te => match te.size with
        | 1 => Need (s = 1 ∧ 0 ≤ n ∧ n < m) (∃ y, cs[n.toNat]? = some y ∧ c (.pim [y]))
        | z => Need (s = z ∧ 0 ≤ n ∧ n < m) (∃ ys, (cs.drop (n.toNat * s)).take s = ys ∧ c (.pim ys))
      | none => False
    | _ => False
  | .pim (y :: cs), .int _ n => match look Γ t with
    | some ⟨.array m e, _, _, _⟩ => match look Γ e with
      | some te => match te.size with
        | 1 => Need (0 ≤ n ∧ n < m) (∃ z, (y :: cs)[n.toNat]? = some z ∧ c (.pim [z]))
        | _ => False
      | none => False
    | _ => False
  | .own b, .int _ n => match look Γ t with
    | some ⟨.slice e, _, _, _⟩ => match look Γ e with
      | some te => match H[b]? with
        | some (.own _ s m xs wr) => Need (te.size = s ∧ 0 ≤ n ∧ n < m) (match s with
          | 1 => c (.pown b n.toNat)
          | z => c (.pown b (n.toNat * z)))
        | _ => False
      | none => False
    | _ => False
  | .sub b s lo len, .int _ n => match look Γ t with
    | some ⟨.slice e, _, _, _⟩ => match look Γ e with
      | some te => Need (te.size = s ∧ 0 ≤ n ∧ n < len) (c (.pown b ((lo + n.toNat) * s)))
      | none => False
    | _ => False
  | _, _ => False
theorem add_pim {E : Env} {w : World} {cs : List CV} {a : Addr} {vs : List Value} (hv : vs.length = cs.length) (hI : 0 < cs.length → E.I a.block)
    (hw : ∀ (j : Nat) v, vs[j]? = some v → w.cell? (a.add j) = some v) (h : ∀ (j : Nat) x v, cs[j]? = some x → vs[j]? = some v → CR E.I w x v) (o n : Nat) :
    VR E w (.pim ((cs.drop o).take n)) (.pointer (some (a.add o))) := by
  refine .pim _ ((vs.drop o).take n) (by simp [hv]) (fun h0 => by rw [block_of_add]; exact hI (by simp at h0; omega)) (fun j v hj => ?_) (fun j x v hx hj => ?_)
  · rw [List.getElem?_take] at hj
    split at hj
    · rw [List.getElem?_drop] at hj
      rw [add_of_add]
      exact hw _ v hj
    · cases hj
  · rw [List.getElem?_take] at hx hj
    split at hx
    · rename_i h1
      rw [if_pos h1, List.getElem?_drop] at hj
      rw [List.getElem?_drop] at hx
      exact h _ x v hx hj
    · cases hx
theorem iaddrK_sound {P : Program} {Γ : Ty} (hΓ : TyOk P Γ) {E : Env} {H : List LObj} {w : World} {t : TypeId} {x i : SV} {u v : Value} {c : SV → Prop}
    (hr : Rel E H w) (hx : VR E w x u) (hi : VR E w i v) (h : iaddrK Γ H t x i c) : PureRun P E w (Instr.indexAt t u v) c := by
  cases hi <;> cases hx <;> simp only [iaddrK] at h <;> try exact h.elim
  case int.ptr k n b off hi0 =>
    split at h
    · rename_i m e _ _ _ hti
      split at h
      · rename_i te hte
        obtain ⟨⟨h0, h1⟩, hk⟩ := h
        have hu := run_und hΓ hti
        have hk : c (.ptr b (off + n.toNat * te.size)) := by
          split at hk
          · rename_i hz
            rw [hz, Nat.mul_one]
            exact hk
          · exact hk
        refine .mk' (x := .ptr b (off + n.toNat * te.size)) (v := .pointer (some ⟨E.b b, off + n.toNat * te.size, none⟩)) ?_ hk (.ptr _ _ hi0)
        simp [Instr.indexAt, asIntOf, run_underlying' hu, Instr.sureAddr, h0, h1, run_sizeOf' hΓ hte, add_plain]
      · exact h.elim
    · exact h.elim
  case int.slice k n b off len cap hi0 =>
    split at h
    · rename_i e _ _ _ hti
      split at h
      · rename_i te hte
        obtain ⟨⟨h0, h1⟩, hk⟩ := h
        have hu := run_und hΓ hti
        have hk : c (.ptr b (off + n.toNat * te.size)) := by
          split at hk
          · rename_i hz
            rw [hz, Nat.mul_one]
            exact hk
          · exact hk
        refine .mk' (x := .ptr b (off + n.toNat * te.size)) (v := .pointer (some ⟨E.b b, off + n.toNat * te.size, none⟩)) ?_ hk (.ptr _ _ hi0)
        simp [Instr.indexAt, asIntOf, run_underlying' hu, h0, h1, run_sizeOf' hΓ hte, add_plain]
      · exact h.elim
    · exact h.elim
  case int.sl k n s m cs f hcr =>
    split at h
    · rename_i e _ _ _ hti
      split at h
      · rename_i te hte
        have hu := run_und hΓ hti
        have key : ∀ z, te.size = z → s = z → 0 ≤ n → n < m → ∃ a, (Instr.indexAt t u (.int k n)).run P w = .ok (.pointer (some a)) w ∧ VR E w (.pim ((cs.drop (n.toNat * s)).take s)) (.pointer (some a)) := by
          intro z hz hs h0 h1
          cases hcr with
          | sl0 => omega
          | sl a cp vs hl hv hc hf hI hw hh =>
            refine ⟨a.add (n.toNat * s), ?_, add_pim hv hI hw hh _ _⟩
            simp [Instr.indexAt, asIntOf, run_underlying' hu, h0, h1, run_sizeOf' hΓ hte, hz, hs]
        split at h
        · rename_i hz
          obtain ⟨⟨hs, h0, h1⟩, y, hy, hk⟩ := h
          obtain ⟨a, ha, hv⟩ := key 1 hz hs h0 h1
          refine .mk' ha hk ?_
          subst hs
          have hlt : n.toNat < cs.length := by
            rcases Nat.lt_or_ge n.toNat cs.length with h1 | h1
            · exact h1
            · rw [List.getElem?_eq_none h1] at hy; cases hy
          have : (cs.drop (n.toNat * 1)).take 1 = [y] := by
            rw [Nat.mul_one, List.drop_eq_getElem_cons hlt]
            rw [List.getElem?_eq_getElem hlt] at hy
            cases hy
            rfl
          rwa [this] at hv
        · obtain ⟨⟨hs, h0, h1⟩, ys, hy, hk⟩ := h
          obtain ⟨a, ha, hv⟩ := key _ rfl hs h0 h1
          rw [hy] at hv
          exact .mk' ha hk hv
      · exact h.elim
    · exact h.elim
  case int.pim k n cs a vs hv hI hw hh =>
    cases cs with
    | nil => exact h.elim
    | cons y cs =>
    simp only at h
    split at h
    · rename_i m e _ _ _ hti
      split at h
      · rename_i te hte
        have hu := run_und hΓ hti
        split at h
        · rename_i hz
          obtain ⟨⟨h0, h1⟩, z, hy, hk⟩ := h
          have hv9 := add_pim hv hI hw hh n.toNat 1
          have hlt : n.toNat < (y :: cs).length := by
            rcases Nat.lt_or_ge n.toNat (y :: cs).length with h1 | h1
            · exact h1
            · rw [List.getElem?_eq_none h1] at hy; cases hy
          have : ((y :: cs).drop n.toNat).take 1 = [z] := by
            rw [List.drop_eq_getElem_cons hlt]
            rw [List.getElem?_eq_getElem hlt] at hy
            cases hy
            rfl
          rw [this] at hv9
          refine .mk' (v := .pointer (some (a.add n.toNat))) ?_ hk hv9
          simp [Instr.indexAt, asIntOf, run_underlying' hu, Instr.sureAddr, h0, h1, run_sizeOf' hΓ hte, hz]
        · exact h.elim
      · exact h.elim
    · exact h.elim
  case int.own k n b hi0 =>
    split at h
    · rename_i e _ _ _ hti
      split at h
      · rename_i te hte
        split at h
        · rename_i e' s m xs wr hb
          obtain ⟨⟨hs, h0, h1⟩, hk⟩ := h
          have hu := run_und hΓ hti
          have hk : c (.pown b (n.toNat * s)) := by
            split at hk
            · rw [Nat.mul_one]
              exact hk
            · exact hk
          have ho := hr.obj b _ hb
          rcases ho.row with ⟨_, hn⟩ | ⟨b', cap, vs, fz, e1, e2, e3, e4, _⟩
          · omega
          · refine .mk' (x := .pown b (n.toNat * s)) (v := .pointer (some ⟨b', n.toNat * s, none⟩)) ?_ hk (.pown _ _ _ _ _ hi0 e1)
            rw [e1]
            simp [Instr.indexAt, asIntOf, run_underlying' hu, h0, h1, run_sizeOf' hΓ hte, add_plain, hs]
        · exact h.elim
      · exact h.elim
    · exact h.elim
  case int.sub k n b s lo len b0 m cap o hi0 hE q1 q2 q3 =>
    split at h
    · rename_i e _ _ _ hti
      split at h
      · rename_i te hte
        obtain ⟨⟨hs, h0, h1⟩, hk⟩ := h
        have hu := run_und hΓ hti
        have hoo : o = lo * s := q2 (by omega)
        refine .mk' (x := .pown b ((lo + n.toNat) * s)) (v := .pointer (some ⟨b0, (lo + n.toNat) * s, none⟩)) ?_ hk (.pown _ _ _ _ _ hi0 hE)
        simp [Instr.indexAt, asIntOf, run_underlying' hu, h0, h1, run_sizeOf' hΓ hte, add_plain, hs, hoo, Nat.add_mul]
      · exact h.elim
    · exact h.elim
  case int.subN =>
    split at h
    · split at h
      · obtain ⟨⟨hs, h0, h1⟩, hk⟩ := h
        omega
      · exact h.elim
    · exact h.elim
def faddrK (Γ : Ty) (t : TypeId) (x : SV) (f : Nat) (c : SV → Prop) : Prop :=
  match look Γ t with
  | some ⟨.struct fs, _, _, _⟩ => match fs.toList[f]? with
    | some fd => match look Γ fd.type with
      | some tf => match tf.size with
        | 0 => False
        | _ => match x with
          | .ptr i off => c (.ptr i (off + fd.offset))
          | .pim (y :: cs) => c (.pim ((y :: cs).drop fd.offset))
          | .pown i off => c (.pown i (off + fd.offset))
          | _ => False
      | none => False
    | none => False
  | _ => False
theorem faddrK_sound {P : Program} {Γ : Ty} (hΓ : TyOk P Γ) {E : Env} {w : World} {t : TypeId} {x : SV} {f : Nat} {v : Value} {c : SV → Prop}
    (hx : VR E w x v) (h : faddrK Γ t x f c) : PureRun P E w (Instr.fieldAt t v f) c := by
  unfold faddrK at h
  split at h
  · rename_i fs _ _ _ hti
    split at h
    · rename_i fd hfd
      split at h
      · rename_i tf htf
        split at h
        · exact h.elim
        · rename_i hz
          have hu := run_und hΓ hti
          have hfd' : fs[fd.offset]? = fs[fd.offset]? := rfl
          have hget : fs[f]? = some fd := by rw [← hfd]; simp
          have hs := run_sizeOf' hΓ htf w
          have place : ∀ a : Addr, (fieldPlace a fd).run P w = .ok (a.add fd.offset) w := by
            intro a
            have hz' : ¬ tf.size = 0 := hz
            simp [fieldPlace, hs, hz']
          cases hx <;> (try simp only at h) <;> try exact h.elim
          case ptr i off hi0 =>
            refine .mk' (x := .ptr i (off + fd.offset)) (v := .pointer (some ⟨E.b i, off + fd.offset, none⟩)) ?_ h (.ptr _ _ hi0)
            simp [Instr.fieldAt, run_underlying' hu, hget, Instr.sureAddr, place, add_plain]
          case pim cs a vs hv hI hw hh =>
            cases cs with
            | nil => exact h.elim
            | cons y cs =>
            refine .mk' (x := .pim ((y :: cs).drop fd.offset)) (v := .pointer (some (a.add fd.offset))) ?_ h ?_
            · simp [Instr.fieldAt, run_underlying' hu, hget, Instr.sureAddr, place]
            · have := add_pim hv hI hw hh fd.offset (y :: cs).length
              rwa [List.take_of_length_le (by simp)] at this
          case pown i off b n cc hi0 hE =>
            refine .mk' (x := .pown i (off + fd.offset)) (v := .pointer (some ⟨b, off + fd.offset, none⟩)) ?_ h (.pown _ _ _ _ _ hi0 hE)
            simp [Instr.fieldAt, run_underlying' hu, hget, Instr.sureAddr, place, add_plain]
      · exact h.elim
    · exact h.elim
  · exact h.elim
end
section

def bndK (x : Option SV) (d : Int) (c : Int → Prop) : Prop :=
  match x with
  | none => c d
  | some (.int _ n) => c n
  | _ => False
def cutK (Γ : Ty) (H : List LObj) (t : TypeId) (x : SV) (lo hi : Option SV) (c : SV → Prop) : Prop :=
  match x with
  | .str l => match look Γ t with
    | some ⟨.string, _, _, _⟩ => bndK lo 0 fun a => bndK hi l.length fun b => Need (0 ≤ a ∧ a ≤ b ∧ b ≤ l.length) (c (.str ((l.take b.toNat).drop a.toNat)))
    | _ => False
  | .sl s n cs full => match look Γ t with
    | some ⟨.slice e, _, _, _⟩ => match look Γ e with
      | some te => bndK lo 0 fun a => bndK hi n fun b => Need (te.size = s ∧ 0 ≤ a ∧ a ≤ b ∧ b ≤ n) (c (.sl s (b.toNat - a.toNat) ((cs.take (b.toNat * s)).drop (a.toNat * s)) (match hi with | none => full | some _ => false)))
      | none => False
    | _ => False
  | .ptr i off => match look Γ t with
    | some ⟨.array n e, _, _, _⟩ => match look Γ e with
      | some te => bndK lo 0 fun a => bndK hi n fun b => Need (0 ≤ a ∧ a ≤ b ∧ b ≤ n ∧ a < n) (c (.slice i (off + a.toNat * te.size) (b.toNat - a.toNat) (n - a.toNat)))
      | none => False
    | _ => False
  | .slice i off len cap => match look Γ t with
    | some ⟨.slice e, _, _, _⟩ => match look Γ e with
      | some te => bndK lo 0 fun a => bndK hi len fun b => Need (0 ≤ a ∧ a ≤ b ∧ b ≤ len ∧ a < cap ∧ len ≤ cap) (c (.slice i (off + a.toNat * te.size) (b.toNat - a.toNat) (cap - a.toNat)))
      | none => False
    | _ => False
  | .own i => match look Γ t with
    | some ⟨.slice e, _, _, _⟩ => match look Γ e with
      | some te => match H[i]? with
        | some (.own _ s n _ _) => bndK lo 0 fun a => bndK hi n fun b => Need (te.size = s ∧ 0 ≤ a ∧ a ≤ b ∧ b ≤ n) (c (.sub i s a.toNat (b.toNat - a.toNat)))
        | _ => False
      | none => False
    | _ => False
  | .sub i s l0 len => match look Γ t with
    | some ⟨.slice e, _, _, _⟩ => match look Γ e with
      | some te => bndK lo 0 fun a => bndK hi len fun b => Need (te.size = s ∧ 0 ≤ a ∧ a ≤ b ∧ b ≤ len) (c (.sub i s (l0 + a.toNat) (b.toNat - a.toNat)))
      | none => False
    | _ => False
  | _ => False
def OptR (E : Env) (w : World) : Option SV → Option Value → Prop
  | none, none => True
  | some x, some v => VR E w x v
  | _, _ => False
def Bnd (x : Option SV) (d a : Int) : Prop :=
  match x with
  | none => a = d
  | some y => ∃ k, y = .int k a
theorem bounds_run {P : Program} {E : Env} {w : World} {isS : Bool} {len cap : Nat} {lo hi : Option SV} {ulo uhi : Option Value}
    (hlo : OptR E w lo ulo) (hhi : OptR E w hi uhi) (a b : Int) (ha : Bnd lo 0 a) (hb : Bnd hi len b)
    (h0 : 0 ≤ a) (h1 : a ≤ b) (h2 : b ≤ len) (h3 : len ≤ cap) :
    (Instr.sliceBounds isS len cap ulo uhi none).run P w = .ok (a.toNat, b.toNat, cap) w := by
  have hbnd : ∀ (k : IntKind) (n : Int) (y : Nat) (code : BoundsCode), 0 ≤ n → n ≤ y → (Instr.sliceBound (.int k n) y code).run P w = .ok n.toNat w := by
    intro k n y code h0 h1
    simp [Instr.sliceBound, asIntOf, h0, h1]
  have e3 : ∀ c, (Instr.sliceBound (.int c b) cap (if isS then .sliceAcap else .sliceAlen)).run P w = .ok b.toNat w := fun c => hbnd _ _ _ _ (by omega) (by omega)
  have e4 : ∀ c, (Instr.sliceBound (.int c a) b.toNat .sliceB).run P w = .ok a.toNat w := fun c => hbnd _ _ _ _ (by omega) (by omega)
  have e5 : ∀ c, b = len → (Instr.sliceBound (.int c a) len .sliceB).run P w = .ok a.toNat w := fun c h => hbnd _ _ _ _ (by omega) (by omega)
  cases lo <;> cases ulo <;> cases hi <;> cases uhi <;> simp only [OptR, Bnd] at hlo hhi ha hb
  · subst ha; subst hb; simp [Instr.sliceBounds]
  · subst ha
    obtain ⟨k, rfl⟩ := hb
    cases hhi
    simp [Instr.sliceBounds, e3]
  · obtain ⟨k, rfl⟩ := ha
    cases hlo
    simp [Instr.sliceBounds, e5 _ hb, hb]
  · obtain ⟨k, rfl⟩ := ha
    cases hlo
    obtain ⟨k', rfl⟩ := hb
    cases hhi
    simp [Instr.sliceBounds, e3, e4]
theorem bndK_out {x : Option SV} {d : Int} {c : Int → Prop} (h : bndK x d c) : ∃ a, Bnd x d a ∧ c a := by
  unfold bndK at h
  split at h
  · exact ⟨d, rfl, h⟩
  · rename_i k n
    exact ⟨n, ⟨k, rfl⟩, h⟩
  · exact h.elim
theorem extract_mk (l : List UInt8) (a b : Nat) : (ByteArray.mk l.toArray).extract a b = ByteArray.mk ((l.take b).drop a).toArray := by
  apply ByteArray.ext
  rw [ByteArray.data_extract]
  apply Array.ext'
  simp [List.extract_eq_take_drop, List.drop_take]
theorem cutK_sound {P : Program} {Γ : Ty} (hΓ : TyOk P Γ) {E : Env} {H : List LObj} {w : World} {t : TypeId} {x : SV} {lo hi : Option SV} {u : Value} {ulo uhi : Option Value} {c : SV → Prop}
    (hr : Rel E H w) (hx : VR E w x u) (hlo : OptR E w lo ulo) (hhi : OptR E w hi uhi) (h : cutK Γ H t x lo hi c) : PureRun P E w (Instr.sliceAt t u ulo uhi none) c := by
  cases hx <;> simp only [cutK] at h <;> try exact h.elim
  case str l =>
    split at h
    · rename_i hti
      obtain ⟨a, ha, h⟩ := bndK_out h
      obtain ⟨b, hb, h⟩ := bndK_out h
      obtain ⟨⟨h0, h1, h2⟩, hk⟩ := h
      have hu := run_und hΓ hti
      refine .mk' (x := .str _) (v := .string ⟨((l.take b.toNat).drop a.toNat).toArray⟩) ?_ hk (.str _)
      have hrun := bounds_run (P := P) (isS := false) (len := l.length) (cap := l.length) hlo hhi a b ha hb h0 h1 h2 (Nat.le_refl _)
      simp [Instr.sliceAt, Instr.slice, run_underlying' hu, size_mk, hrun, extract_mk]
    · exact h.elim
  case sl s n cs full hcr =>
    split at h
    · rename_i e _ _ _ hti
      split at h
      · rename_i te hte
        obtain ⟨a, ha, h⟩ := bndK_out h
        obtain ⟨b, hb, h⟩ := bndK_out h
        obtain ⟨⟨hs, h0, h1, h2⟩, hk⟩ := h
        have hu := run_und hΓ hti
        have hsz := run_sizeOf' hΓ hte w
        cases hcr with
        | sl0 =>
          have ha0 : a = 0 := by omega
          have hb0 : b = 0 := by omega
          subst ha0; subst hb0
          refine .mk' (v := .slice none 0 0) ?_ hk ?_
          · have hrun := bounds_run (P := P) (isS := true) (len := 0) (cap := 0) hlo hhi 0 0 ha hb (by omega) (by omega) (by omega) (Nat.le_refl _)
            simp [Instr.sliceAt, Instr.slice, run_underlying' hu, hrun, hsz]
          · simpa using VR.sl (CR.sl0 s _)
        | sl ad cp vs hl hv hc hf hI hw hh =>
          refine .mk' (v := .slice (some (if cp = a.toNat then ad else ad.add (a.toNat * s))) (b.toNat - a.toNat) (cp - a.toNat)) ?_ hk (.sl ?_)
          · have hrun := bounds_run (P := P) (isS := true) (len := n) (cap := cp) hlo hhi a b ha hb h0 h1 (by omega) hc
            simp [Instr.sliceAt, Instr.slice, run_underlying' hu, hrun, hsz, hs]
            split <;> simp_all
          · have hlen : ((cs.take (b.toNat * s)).drop (a.toNat * s)).length = (b.toNat - a.toNat) * s := by
              have : b.toNat * s ≤ n * s := Nat.mul_le_mul_right _ (by omega)
              rw [List.length_drop, List.length_take, hl, Nat.min_eq_left this, Nat.sub_mul]
            have hblk : (if cp = a.toNat then ad else ad.add (a.toNat * s)).block = ad.block := by split; rfl; exact block_of_add _ _
            refine .sl _ _ ((vs.take (b.toNat * s)).drop (a.toNat * s)) hlen (by simp [hv]) (by omega) ?_ (fun h4 => by rw [hblk]; exact hI (by simp at h4; omega)) (fun j v hj => ?_) (fun j x v hx hj => ?_)
            · intro hfull
              cases hi with
              | none =>
                have hb' : b = n := hb
                have := hf hfull
                omega
              | some y => cases hfull
            · rw [List.getElem?_drop, List.getElem?_take] at hj
              split at hj
              · rename_i hjlt
                have h6 := hw _ v hj
                have hne : ¬ cp = a.toNat := by
                  intro he
                  have h7 : b.toNat ≤ a.toNat := by omega
                  have := Nat.mul_le_mul_right s h7
                  omega
                rw [if_neg hne, add_of_add]
                exact h6
              · cases hj
            · rw [List.getElem?_drop, List.getElem?_take] at hj hx
              split at hj
              · rename_i hjlt
                rw [if_pos hjlt] at hx
                exact hh _ x v hx hj
              · cases hj
      · exact h.elim
    · exact h.elim
  case ptr i off hi0 =>
    split at h
    · rename_i n e _ _ _ hti
      split at h
      · rename_i te hte
        obtain ⟨a, ha, h⟩ := bndK_out h
        obtain ⟨b, hb, h⟩ := bndK_out h
        obtain ⟨⟨h0, h1, h2, h3⟩, hk⟩ := h
        have hu := run_und hΓ hti
        have hsz := run_sizeOf' hΓ hte w
        refine .mk' (v := .slice (some ⟨E.b i, off + a.toNat * te.size, none⟩) (b.toNat - a.toNat) (n - a.toNat)) ?_ hk (.slice _ _ _ _ hi0)
        have hrun := bounds_run (P := P) (isS := false) (len := n) (cap := n) hlo hhi a b ha hb h0 h1 h2 (Nat.le_refl _)
        have hne : ¬ n = a.toNat := by omega
        simp [Instr.sliceAt, Instr.sureAddr, run_underlying' hu, hrun, hsz, hne, add_plain]
      · exact h.elim
    · exact h.elim
  case slice i off len cap hi0 =>
    split at h
    · rename_i e _ _ _ hti
      split at h
      · rename_i te hte
        obtain ⟨a, ha, h⟩ := bndK_out h
        obtain ⟨b, hb, h⟩ := bndK_out h
        obtain ⟨⟨h0, h1, h2, h3, h4⟩, hk⟩ := h
        have hu := run_und hΓ hti
        have hsz := run_sizeOf' hΓ hte w
        refine .mk' (v := .slice (some ⟨E.b i, off + a.toNat * te.size, none⟩) (b.toNat - a.toNat) (cap - a.toNat)) ?_ hk (.slice _ _ _ _ hi0)
        have hrun := bounds_run (P := P) (isS := true) (len := len) (cap := cap) hlo hhi a b ha hb h0 h1 h2 h4
        have hne : ¬ cap = a.toNat := by omega
        simp [Instr.sliceAt, Instr.slice, run_underlying' hu, hrun, hsz, hne, add_plain]
      · exact h.elim
    · exact h.elim
  case own i hi0 =>
    split at h
    · rename_i e _ _ _ hti
      split at h
      · rename_i te hte
        split at h
        · rename_i e' s n xs wr hi'
          obtain ⟨a, ha, h⟩ := bndK_out h
          obtain ⟨b, hb, h⟩ := bndK_out h
          obtain ⟨⟨hs, h0, h1, h2⟩, hk⟩ := h
          have hu := run_und hΓ hti
          have hsz := run_sizeOf' hΓ hte w
          have hor := hr.obj i _ hi'
          rcases hor.row with ⟨e1, hn⟩ | ⟨b', cap, vs, fz, e1, e2, e3, e4, _⟩
          · subst hn
            have ha0 : a = 0 := by omega
            have hb0 : b = 0 := by omega
            subst ha0; subst hb0
            refine .mk' (x := .sub i s 0 0) (v := .slice none 0 0) ?_ hk (.subN i s hi0 e1)
            have hrun := bounds_run (P := P) (isS := true) (len := 0) (cap := 0) hlo hhi 0 0 ha hb (by omega) (by omega) (by omega) (Nat.le_refl _)
            rw [e1]
            simp [Instr.sliceAt, Instr.slice, run_underlying' hu, hrun, hsz]
          · refine .mk' (v := .slice (some ⟨b', if cap = a.toNat then 0 else a.toNat * s, none⟩) (b.toNat - a.toNat) (cap - a.toNat)) ?_ hk (.sub i s a.toNat (b.toNat - a.toNat) b' n cap _ hi0 e1 (by omega) (fun q => if_neg (by omega)) (fun q => by rw [q]; split <;> simp))
            have hrun := bounds_run (P := P) (isS := true) (len := n) (cap := cap) hlo hhi a b ha hb h0 h1 h2 e4
            rw [e1]
            by_cases hne : cap = a.toNat
            · rw [hne] at hrun
              simp [Instr.sliceAt, Instr.slice, run_underlying' hu, hrun, hsz, hne]
            · simp [Instr.sliceAt, Instr.slice, run_underlying' hu, hrun, hsz, hne, add_plain, hs]
        · exact h.elim
      · exact h.elim
    · exact h.elim
  case sub i s l0 len b0 n cap o hi0 hE q1 q2 q3 =>
    split at h
    · rename_i e _ _ _ hti
      split at h
      · rename_i te hte
        obtain ⟨a, ha, h⟩ := bndK_out h
        obtain ⟨b, hb, h⟩ := bndK_out h
        obtain ⟨⟨hs, h0, h1, h2⟩, hk⟩ := h
        have hu := run_und hΓ hti
        have hsz := run_sizeOf' hΓ hte w
        refine .mk' (v := .slice (some ⟨b0, if cap - l0 = a.toNat then o else o + a.toNat * s, none⟩) (b.toNat - a.toNat) (cap - (l0 + a.toNat))) ?_ hk (.sub i s (l0 + a.toNat) (b.toNat - a.toNat) b0 n cap _ hi0 hE (by omega) (fun q => ?_) (fun q => ?_))
        · have hrun := bounds_run (P := P) (isS := true) (len := len) (cap := cap - l0) hlo hhi a b ha hb h0 h1 h2 (by omega)
          have hcc : cap - l0 - a.toNat = cap - (l0 + a.toNat) := by omega
          by_cases hne : cap - l0 = a.toNat
          · rw [hne] at hrun
            simp [Instr.sliceAt, Instr.slice, run_underlying' hu, hrun, hsz, hne, ← hcc]
          · simp [Instr.sliceAt, Instr.slice, run_underlying' hu, hrun, hsz, hne, add_plain, hs, hcc]
        · rw [if_neg (by omega), q2 (by omega), Nat.add_mul]
        · have hl0 : l0 = 0 := by omega
          have ha0 : a.toNat = 0 := by omega
          rw [ha0, q3 hl0]
          simp
      · exact h.elim
    · exact h.elim
  case subN i s hi0 hE =>
    split at h
    · rename_i e _ _ _ hti
      split at h
      · rename_i te hte
        obtain ⟨a, ha, h⟩ := bndK_out h
        obtain ⟨b, hb, h⟩ := bndK_out h
        obtain ⟨⟨hs, h0, h1, h2⟩, hk⟩ := h
        have hu := run_und hΓ hti
        have hsz := run_sizeOf' hΓ hte w
        have ha0 : a = 0 := by omega
        have hb0 : b = 0 := by omega
        subst ha0; subst hb0
        refine .mk' (x := .sub i s 0 0) (v := .slice none 0 0) ?_ hk (.subN i s hi0 hE)
        have hrun := bounds_run (P := P) (isS := true) (len := 0) (cap := 0) hlo hhi 0 0 ha hb (by omega) (by omega) (by omega) (Nat.le_refl _)
        simp [Instr.sliceAt, Instr.slice, run_underlying' hu, hrun, hsz]
      · exact h.elim
    · exact h.elim
def lenK (Γ : Ty) (H : List LObj) (t : TypeId) (x : SV) (c : SV → Prop) : Prop :=
  match look Γ t with
  | none => False
  | some ti => match ti.d, x with
    | .string, .str l => c (.int .i64 l.length)
    | .array n _, _ => c (.int .i64 n)
    | .slice _, .nilsl => c (.int .i64 0)
    | .slice _, .sl _ n _ _ => c (.int .i64 n)
    | .slice _, .slice _ _ n _ => c (.int .i64 n)
    | .slice _, .sub _ _ _ n => c (.int .i64 n)
    | .slice _, .own i => match H[i]? with
      | some (.own _ _ n _ _) => c (.int .i64 n)
      | _ => False
    | _, _ => False
theorem lenK_sound {P : Program} {Γ : Ty} (hΓ : TyOk P Γ) {E : Env} {H : List LObj} {w : World} {t T : TypeId} {x : SV} {u : Value} {c : SV → Prop}
    (hr : Rel E H w) (hx : VR E w x u) (h : lenK Γ H t x c) : PureRun P E w (Builtin.len_ #[t] T #[u]) c := by
  unfold lenK at h
  split at h
  · exact h.elim
  · rename_i ti hti
    have hu := run_und hΓ hti
    obtain ⟨d, z, sz, by_⟩ := ti
    simp only at h hu
    cases d <;> try exact h.elim
    case string =>
      cases hx <;> simp only at h <;> try exact h.elim
      exact .mk' (x := .int .i64 _) (by simp [Builtin.len_, run_underlying' hu, size_mk, goInt]) h (.int _ _)
    case array n e =>
      exact .mk' (x := .int .i64 _) (by simp [Builtin.len_, run_underlying' hu, goInt]) h (.int _ _)
    case slice e =>
      cases hx <;> simp only at h <;> try exact h.elim
      case nilsl => exact .mk' (x := .int .i64 _) (by simp [Builtin.len_, run_underlying' hu, goInt]) h (.int _ _)
      case sl s n cs f hcr =>
        refine .mk' (x := .int .i64 n) (v := .int .i64 n) ?_ h (.int _ _)
        cases hcr <;> simp [Builtin.len_, run_underlying' hu, goInt]
      case slice => exact .mk' (x := .int .i64 _) (by simp [Builtin.len_, run_underlying' hu, goInt]) h (.int _ _)
      case sub => exact .mk' (x := .int .i64 _) (by simp [Builtin.len_, run_underlying' hu, goInt]) h (.int _ _)
      case subN => exact .mk' (x := .int .i64 _) (by simp [Builtin.len_, run_underlying' hu, goInt]) h (.int _ _)
      case own i hi0 =>
        split at h
        · rename_i e' s n xs wr hi
          refine .mk' (x := .int .i64 n) (v := .int .i64 n) ?_ h (.int _ _)
          have ho := hr.obj i _ hi
          rcases ho.row with ⟨e1, hn⟩ | ⟨b', cap, vs, fz, e1, _⟩
          · rw [e1]; subst hn; simp [Builtin.len_, run_underlying' hu, goInt]
          · rw [e1]; simp [Builtin.len_, run_underlying' hu, goInt]
        · exact h.elim
def isU8 : CV → Bool
  | .int .u8 _ => true
  | _ => false
def cvByte : CV → UInt8
  | .int _ n => UInt8.ofNat n.toNat
  | _ => 0
def svByte : SV → UInt8
  | .int _ n => UInt8.ofNat n.toNat
  | _ => 0
def isU8s : SV → Bool
  | .int .u8 _ => true
  | _ => false
def bys (l : List UInt8) : List CV := l.map fun b => .int .u8 (b.toNat : Int)
def convK (Γ : Ty) (H : List LObj) (src dst : TypeId) (x : SV) (c : SV → Prop) : Prop :=
  match look Γ src, look Γ dst with
  | some ts, some td => match td.d, x with
    | .int k, .int _ n => c (.int k (k.wrap n))
    | .string, .str l => c (.str l)
    | .string, .nilsl => match ts.d with
      | .slice e => match look Γ e with
        | some ⟨.int .u8, _, _, _⟩ => c (.str [])
        | _ => False
      | _ => False
    | .string, .sl _ n cs _ => match ts.d with
      | .slice e => match look Γ e with
        | some ⟨.int .u8, _, _, _⟩ => Need (cs.length = n ∧ ∀ x ∈ cs, isU8 x = true) (c (.str (cs.map cvByte)))
        | _ => False
      | _ => False
    | .string, .own i => match H[i]? with
      | some (.own _ _ n cs _) => match ts.d with
        | .slice e => match look Γ e with
          | some ⟨.int .u8, _, _, _⟩ => Need (cs.length = n ∧ ∀ x ∈ cs, isU8 x = true) (c (.str (cs.map cvByte)))
          | _ => False
        | _ => False
      | _ => False
    | .string, .slice i off len cap => match H[i]? with
      | some (.cells l _) => match ts.d with
        | .slice e => match look Γ e with
          | some ⟨.int .u8, _, _, _⟩ => Need (((l.drop off).take len).length = len ∧ ∀ x ∈ (l.drop off).take len, isU8s x = true) (c (.str (((l.drop off).take len).map svByte)))
          | _ => False
        | _ => False
      | _ => False
    | _, _ => False
  | _, _ => False
theorem foldl_bytes : ∀ (ns : List Int) (acc : List UInt8), ns.foldl (fun (r : ByteArray) n => r.push (UInt8.ofNat n.toNat)) ⟨acc.toArray⟩ = ⟨(acc ++ ns.map fun n => UInt8.ofNat n.toNat).toArray⟩
  | [], acc => by simp
  | n :: r, acc => by
    have : (ByteArray.mk acc.toArray).push (UInt8.ofNat n.toNat) = ⟨(acc ++ [UInt8.ofNat n.toNat]).toArray⟩ := by
      apply ByteArray.ext
      simp
    simp only [List.foldl_cons, this, foldl_bytes r]
    simp
theorem run_toString {P : Program} {w : World} {a : Addr} {vs : List Value} {ns : List Int} {len cap : Nat} (hvs : vs = ns.map (Value.int .u8)) (hl : vs.length = len)
    (hc : ∀ (j : Nat) v, vs[j]? = some v → w.cell? (a.add j) = some v) :
    (Conv.bytesToString (.slice (some a) len cap)).run P w = .ok (.string ⟨(ns.map fun n => UInt8.ofNat n.toNat).toArray⟩) w := by
  have h := run_loadCells_list (P := P) w a vs hc
  rw [hl] at h
  rw [run_bytesToString w a len cap ns (by rw [h, hvs])]
  have := foldl_bytes ns []
  simp only [List.nil_append] at this
  rw [← this]
  rfl
def cvInt : CV → Int
  | .int _ n => n
  | _ => 0
def svInt : SV → Int
  | .int _ n => n
  | _ => 0
theorem CRs.u8 {I : Nat → Prop} {w : World} : ∀ {cs : List CV} {vs : List Value}, CRs I w cs vs → (∀ x ∈ cs, isU8 x = true) → vs = (cs.map cvInt).map (Value.int .u8)
  | [], vs, h, _ => by
    have := h.1
    simp at this
    simp [this]
  | x :: r, vs, h, hu => by
    cases vs with
    | nil => have := h.1; simp at this
    | cons v vr =>
      have h0 := h.2 0 x v rfl rfl
      have hx := hu x (by simp)
      have ih := CRs.u8 (cs := r) (vs := vr) ⟨by simpa using h.1, fun j y u hy hv => h.2 (j + 1) y u (by simpa using hy) (by simpa using hv)⟩ (fun y hy => hu y (by simp [hy]))
      cases h0 <;> first | (simp [isU8] at hx; done) | skip
      rename_i k n
      cases k <;> first | (simp [isU8] at hx; done) | skip
      simp [cvInt]
      simpa using ih
theorem VRs.u8 {E : Env} {w : World} : ∀ {cs : List SV} {vs : List Value}, VRs E w cs vs → (∀ x ∈ cs, isU8s x = true) → vs = (cs.map svInt).map (Value.int .u8)
  | [], vs, h, _ => by
    have := h.1
    simp at this
    simp [this]
  | x :: r, vs, h, hu => by
    cases vs with
    | nil => have := h.1; simp at this
    | cons v vr =>
      have h0 := h.2 0 x v rfl rfl
      have hx := hu x (by simp)
      have ih := VRs.u8 (cs := r) (vs := vr) ⟨by simpa using h.1, fun j y u hy hv => h.2 (j + 1) y u (by simpa using hy) (by simpa using hv)⟩ (fun y hy => hu y (by simp [hy]))
      cases h0 <;> first | (simp [isU8s] at hx; done) | skip
      rename_i k n
      cases k <;> first | (simp [isU8s] at hx; done) | skip
      simp [svInt]
      simpa using ih
theorem cvByte_eq (cs : List CV) (h : ∀ x ∈ cs, isU8 x = true) : (cs.map cvInt).map (fun n => UInt8.ofNat n.toNat) = cs.map cvByte := by
  rw [List.map_map]
  apply List.map_congr_left
  intro x hx
  have := h x hx
  cases x <;> first | rfl | (simp [isU8] at this; done)
theorem svByte_eq (cs : List SV) (h : ∀ x ∈ cs, isU8s x = true) : (cs.map svInt).map (fun n => UInt8.ofNat n.toNat) = cs.map svByte := by
  rw [List.map_map]
  apply List.map_congr_left
  intro x hx
  have := h x hx
  cases x <;> first | rfl | (simp [isU8s] at this; done)
theorem convK_sound {P : Program} {Γ : Ty} (hΓ : TyOk P Γ) {E : Env} {H : List LObj} {w : World} {src dst : TypeId} {x : SV} {u : Value} {c : SV → Prop}
    (hr : Rel E H w) (hx : VR E w x u) (h : convK Γ H src dst x c) : PureRun P E w (convert src dst u) c := by
  unfold convK at h
  split at h
  · rename_i ts td hts htd
    have hs := run_und hΓ hts
    have hd := run_und hΓ htd
    obtain ⟨d, z, sz, by_⟩ := td
    simp only at h hd
    cases d <;> cases hx <;> simp only at h <;> try exact h.elim
    case int.int k k' n =>
      refine .mk' (x := .int k _) (v := .int k (k.wrap n)) ?_ h (.int _ _)
      cases ts with | mk d _ _ _ => cases d <;> simp_all [convert, run_underlying', Conv.intToInt]
    case string.str l =>
      refine .mk' (x := .str l) (v := .string ⟨l.toArray⟩) ?_ h (.str _)
      cases ts with | mk d _ _ _ => cases d <;> simp_all [convert, run_underlying']
    case string.nilsl =>
      split at h
      · rename_i e hte
        split at h
        · rename_i hue
          have he := run_und hΓ hue
          rw [hte] at hs
          refine .mk' (x := .str []) (v := .string ⟨#[]⟩) ?_ h (.str [])
          rw [run_convert_bytes_string w src dst e none 0 0 hs he hd]
          simp [Conv.bytesToString]
          rfl
        · exact h.elim
      · exact h.elim
    case string.sl s n cs f hcr =>
      split at h
      · rename_i e hte
        split at h
        · rename_i hue
          obtain ⟨⟨hlen, hu8⟩, hk⟩ := h
          have he := run_und hΓ hue
          rw [hte] at hs
          refine .mk' (x := .str _) (v := .string ⟨(cs.map cvByte).toArray⟩) ?_ hk (.str _)
          cases hcr with
          | sl0 =>
            rw [run_convert_bytes_string w src dst e none 0 0 hs he hd]
            simp [Conv.bytesToString]
            rfl
          | sl a cp vs hl hv hc hf hI hw hh =>
            rw [run_convert_bytes_string w src dst e _ n cp hs he hd]
            have h8 := CRs.u8 ⟨hv, hh⟩ hu8
            rw [run_toString h8 (by omega) hw, cvByte_eq cs hu8]
        · exact h.elim
      · exact h.elim
    case string.slice i off len cap hi0 =>
      split at h
      · rename_i l e' hi
        split at h
        · rename_i e hte
          split at h
          · rename_i hue
            obtain ⟨⟨hlen, hu8⟩, hk⟩ := h
            have he := run_und hΓ hue
            rw [hte] at hs
            obtain ⟨vs, h1, h2, h3⟩ := hr.cell hi
            have hcut := h2.cut off len
            refine .mk' (x := .str _) (v := .string ⟨(((l.drop off).take len).map svByte).toArray⟩) ?_ hk (.str _)
            rw [run_convert_bytes_string w src dst e _ len cap hs he hd]
            have h8 := VRs.u8 hcut hu8
            rw [run_toString h8 (by rw [hcut.1, hlen]) (fun j v hj => ?_), svByte_eq _ hu8]
            rw [List.getElem?_take] at hj
            split at hj
            · rw [List.getElem?_drop] at hj
              exact h3 off j v hj
            · cases hj
          · exact h.elim
        · exact h.elim
      · exact h.elim
    case string.own i hi0 =>
      split at h
      · rename_i e' s n cs wr hi
        split at h
        · rename_i e hte
          split at h
          · rename_i hue
            obtain ⟨⟨hlen, hu8⟩, hk⟩ := h
            have he := run_und hΓ hue
            rw [hte] at hs
            refine .mk' (x := .str _) (v := .string ⟨(cs.map cvByte).toArray⟩) ?_ hk (.str _)
            have ho := hr.obj i _ hi
            have hcl := ho.len
            rcases ho.row with ⟨e1, hn⟩ | ⟨b', cap, vs, fz, e1, e2, e3, e4, _, _, e5⟩
            · rw [e1]
              have hnil : cs = [] := List.eq_nil_of_length_eq_zero (by omega)
              subst hnil
              rw [run_convert_bytes_string w src dst e none 0 0 hs he hd]
              simp [Conv.bytesToString]
              rfl
            · rw [e1, run_convert_bytes_string w src dst e _ n cap hs he hd]
              have hle : cs.length ≤ vs.size := by
                rw [hcl, e3]
                exact Nat.mul_le_mul_right _ e4
              have hcr : CRs E.I w cs (vs.toList.take n) := by
                refine ⟨by simp; omega, fun j x v hx hv => ?_⟩
                rw [List.getElem?_take] at hv
                split at hv
                · exact e5 j x v hx (by simpa using hv)
                · cases hv
              have h8 := CRs.u8 hcr hu8
              rw [run_toString h8 (by simp; omega) (fun j v hj => ?_), cvByte_eq cs hu8]
              rw [List.getElem?_take] at hj
              split at hj
              · rw [add_plain]
                simp only [World.cell?, e2]
                simpa using hj
              · cases hj
          · exact h.elim
        · exact h.elim
      · exact h.elim
  · exact h.elim
end
section

def cellsK (v : SV) (c : List SV → Prop) : Prop :=
  forceK v fun v => match v with
  | .agg l => c l
  | .any => False
  | .tuple _ => False
  | .own _ => c [v]
  | .sl _ _ _ _ => c [v]
  | v => c [v]
def wrCells : List SV → Nat → List SV → List SV
  | l, _, [] => l
  | l, o, v :: r => wrCells (l.set o v) (o + 1) r
def fillK (pl : Nat → Option (Nat × Nat)) : List SV → List (Nat × SV) → (List SV → Prop) → Prop
  | cells, [], c => seqK cells c
  | cells, (i, v) :: r, c => match pl i with
    | none => False
    | some (off, size) => cellsK v fun cs => match Nat.beq cs.length size, Nat.ble (off + cs.length) cells.length with
      | true, true => fillK pl (wrCells cells off cs) r c
      | _, _ => False
def placeOf (Γ : Ty) (ti : TI) (i : Nat) : Option (Nat × Nat) :=
  match ti.d with
  | .struct fs => match fs.toList[i]? with
    | some f => match look Γ f.type with
      | some tf => some (f.offset, tf.size)
      | none => none
    | none => none
  | .array _ e => match look Γ e with
    | some te => some (i * te.size, te.size)
    | none => none
  | _ => none
def zeroCells (ti : TI) : List SV := ti.zero.cells.toList.map ofV0
def fieldsAt (Γ : Ty) : List Field → Bool
  | [] => true
  | f :: r => match look Γ f.type with
    | some _ => fieldsAt Γ r
    | none => false
def buildK (Γ : Ty) (t : TypeId) (parts : List (Nat × SV)) (c : SV → Prop) : Prop :=
  match look Γ t with
  | none => False
  | some ti => match ti.d with
    | .struct fs => match fieldsAt Γ fs.toList with
      | true => fillK (placeOf Γ ti) (zeroCells ti) parts fun l => c (.agg l)
      | false => False
    | .array _ e => match look Γ e with
      | some _ => fillK (placeOf Γ ti) (zeroCells ti) parts fun l => c (.agg l)
      | none => False
    | _ => False
theorem cellsK_sound {E : Env} {w : World} {x : SV} {v : Value} {c : List SV → Prop} (hx : VR E w x v) (h : cellsK x c) (hsl : ∀ i, x = .own i → ∃ a n m, E.v i = .slice a n m) :
    ∃ l, c l ∧ VRs E w l v.cells.toList := by
  have one : ∀ {u : Value}, u.cells = #[u] → VR E w x u → c [x] → ∃ l, c l ∧ VRs E w l u.cells.toList := by
    intro u hu hv hc
    refine ⟨[x], hc, ?_⟩
    rw [hu]
    exact ⟨rfl, fun j y v hy hv' => by
      cases j with
      | zero => cases hy; cases hv'; exact hv
      | succ j => simp at hy⟩
  rw [cellsK, forceK_eq] at h
  cases hx <;> simp only at h <;> try exact h.elim
  case agg l vs hl hh => exact ⟨l, h, hl, hh⟩
  case int k n => exact one rfl (.int k n) h
  case bool b => exact one rfl (.bool b) h
  case str l => exact one rfl (.str l) h
  case nil => exact one rfl .nil h
  case nilsl => exact one rfl .nilsl h
  case sl s n cs f hcr =>
    refine one ?_ (.sl hcr) h
    cases hcr <;> rfl
  case pim cs a vs hv hI hw hh => exact one rfl (.pim a vs hv hI hw hh) h
  case pnull => exact one rfl .pnull h
  case ptr i off hi0 => exact one rfl (.ptr i off hi0) h
  case slice i o l c hi0 => exact one rfl (.slice i o l c hi0) h
  case own i hi0 =>
    obtain ⟨a, n, m, e⟩ := hsl i rfl
    exact one (by rw [e]; rfl) (.own i hi0) h
  case pown i off b n c' hi0 hE => exact one rfl (.pown i off b n c' hi0 hE) h
  case sub i s lo len b n c' o hi0 hE q1 q2 q3 => exact one rfl (.sub i s lo len b n c' o hi0 hE q1 q2 q3) h
  case subN i s hi0 hE => exact one rfl (.subN i s hi0 hE) h
  case optN i off => exact one rfl (.optN i off) h
  case optS i off hi0 => exact one rfl (.optS i off hi0) h
  case mp i hi0 => exact one rfl (.mp i hi0) h
  case func fn cap vs hl hh => exact one rfl (.func vs hl hh) h
  case nilfunc => exact one rfl .nilfunc h
theorem wrCells_sound {E : Env} {w : World} : ∀ (cs : List SV) (vs : List Value) (l : List SV) (arr : Array Value) (off k : Nat), VRs E w cs vs → VRs E w l arr.toList →
    VRs E w (wrCells l (off + k) cs) ((vs.zipIdx k).foldl (fun a p => a.setIfInBounds (off + p.2) p.1) arr).toList
  | [], vs, l, arr, off, k, hc, hl => by
    have := hc.1
    have : vs = [] := by cases vs with | nil => rfl | cons => simp at this
    subst this
    simpa [wrCells] using hl
  | x :: r, vs, l, arr, off, k, hc, hl => by
    cases vs with
    | nil => have := hc.1; simp at this
    | cons v vr =>
      have h0 := hc.2 0 x v rfl rfl
      have hr : VRs E w r vr := ⟨by simpa using hc.1, fun j y u hy hu => hc.2 (j + 1) y u (by simpa using hy) (by simpa using hu)⟩
      have := wrCells_sound r vr (l.set (off + k) x) (arr.setIfInBounds (off + k) v) off (k + 1) hr (by rw [Array.toList_setIfInBounds]; exact hl.set_ _ h0)
      simpa [wrCells, List.zipIdx_cons, Nat.add_assoc] using this
def PartsR (E : Env) (w : World) (l : List (Nat × SV)) (vs : List (Nat × Value)) : Prop :=
  vs.length = l.length ∧ ∀ (j : Nat) x v, l[j]? = some x → vs[j]? = some v → x.1 = v.1 ∧ VR E w x.2 v.2
theorem fillK_sound {E : Env} {w : World} {pl pl' : Nat → Option (Nat × Nat)} (hpl : ∀ i, pl i ≠ none → pl' i = pl i) :
    ∀ (parts : List (Nat × SV)) (vs : List (Nat × Value)) (cells : List SV) (arr : Array Value) (c : List SV → Prop), PartsR E w parts vs → VRs E w cells arr.toList →
      (∀ x ∈ parts, ∀ i, x.2 = .own i → ∃ a n m, E.v i = .slice a n m) → fillK pl cells parts c →
      ∃ l arr', Instr.fill pl' arr vs = some arr' ∧ c l ∧ VRs E w l arr'.toList
  | [], vs, cells, arr, c, hp, hc, _, h => by
    have := hp.1
    have : vs = [] := by cases vs with | nil => rfl | cons => simp at this
    subst this
    rw [fillK, seqK_eq] at h
    exact ⟨cells, arr, rfl, h, hc⟩
  | (i, x) :: r, vs, cells, arr, c, hp, hc, hown, h => by
    cases vs with
    | nil => have := hp.1; simp at this
    | cons v vr =>
      obtain ⟨h1, h2⟩ := hp.2 0 (i, x) v rfl rfl
      obtain ⟨i', v⟩ := v
      simp only at h1 h2
      subst h1
      rw [fillK] at h
      split at h
      · exact h.elim
      · rename_i off size hpli
        obtain ⟨cs, hcs, hvs⟩ := cellsK_sound h2 h (fun j hj => hown (i, x) (by simp) j hj)
        split at hcs
        · rename_i hb1 hb2
          have e1 := Nat.eq_of_beq_eq_true hb1
          have e2 := Nat.le_of_ble_eq_true hb2
          have hw := wrCells_sound cs v.cells.toList cells arr off 0 hvs hc
          rw [Nat.add_zero] at hw
          obtain ⟨l, arr', h3, h4, h5⟩ := fillK_sound hpl r vr _ _ c ⟨by simpa using hp.1, fun j y u hy hu => hp.2 (j + 1) y u (by simpa using hy) (by simpa using hu)⟩ hw (fun y hy => hown y (by simp [hy])) hcs
          refine ⟨l, arr', ?_, h4, h5⟩
          rw [Instr.fill, hpl i (by rw [hpli]; simp), hpli]
          have hl1 : v.cells.size = cs.length := by have := hvs.1; simpa using this
          have hl2 : arr.size = cells.length := by have := hc.1; simpa using this
          simp only
          rw [if_neg (by simp; omega)]
          rw [← h3]
          congr 1
          rw [← Array.foldl_toList, Array.toList_zipIdx]
        · exact hcs.elim
theorem zeroCells_ok (E : Env) (w : World) (ti : TI) : VRs E w (zeroCells ti) ti.zero.cells.toList := VRs.ofV0 E w _
theorem run_zeroValue {P : Program} {Γ : Ty} (hΓ : TyOk P Γ) {t : Nat} {ti : TI} (h : look Γ t = some ti) (w : World) : (zeroValue t).run P w = .ok ti.zero w := by
  obtain ⟨i, h1, h2, _⟩ := run_inf hΓ h
  simp [zeroValue, typeInfo, h1, h2]
theorem fieldsAt_run {P : Program} {Γ : Ty} (hΓ : TyOk P Γ) (w : World) : ∀ (fs : List Field), fieldsAt Γ fs = true →
    (fs.mapM (fun f => do pure (f.offset, ← sizeOf f.type)) : Sem (List (Nat × Nat))).run P w = .ok (fs.map fun f => (f.offset, ((look Γ f.type).map (·.size)).getD 0)) w
  | [], _ => by simp
  | f :: r, h => by
    rw [fieldsAt] at h
    split at h
    · rename_i tf htf
      have ih := fieldsAt_run hΓ w r h
      have hs := run_sizeOf' hΓ htf w
      simp only [List.mapM_cons, Sem.run_bind, hs, Result.andThen_ok, Sem.run_pure, ih, List.map_cons, htf]
      rfl
    · cases h
theorem buildK_sound {P : Program} {Γ : Ty} (hΓ : TyOk P Γ) {E : Env} {w : World} {t : TypeId} {parts : List (Nat × SV)} {vs : List (Nat × Value)} {c : SV → Prop}
    (hp : PartsR E w parts vs) (hown : ∀ x ∈ parts, ∀ i, x.2 = .own i → ∃ a n m, E.v i = .slice a n m) (h : buildK Γ t parts c) : PureRun P E w (Instr.build t vs.toArray) c := by
  unfold buildK at h
  split at h
  · exact h.elim
  · rename_i ti hti
    have hu := run_und hΓ hti
    have hz := run_zeroValue hΓ hti w
    split at h
    · rename_i fs hd
      split at h
      · rename_i hfa
        have hrun := fieldsAt_run hΓ w fs.toList hfa
        have hrun' : (fs.mapM (fun f => do pure (f.offset, ← sizeOf f.type)) : Sem (Array (Nat × Nat))).run P w = .ok (fs.toList.map fun f => (f.offset, ((look Γ f.type).map (·.size)).getD 0)).toArray w := by
          rw [Array.mapM_eq_mapM_toList]
          simp only [Sem.run_map, hrun, Result.andThen_ok]
        obtain ⟨l, arr, h1, h2, h3⟩ := fillK_sound (pl' := fun i => ((fs.toList.map fun f => (f.offset, ((look Γ f.type).map (·.size)).getD 0)).toArray)[i]?) (fun i hi => by
          unfold placeOf at hi ⊢
          rw [hd] at hi ⊢
          simp only at hi ⊢
          cases hf : fs.toList[i]? with
          | none => rw [hf] at hi; simp at hi
          | some f =>
            rw [hf] at hi
            simp only at hi ⊢
            cases hl : look Γ f.type with
            | none => rw [hl] at hi; simp at hi
            | some tf =>
              have hf' : fs[i]? = some f := by rw [← hf]; simp
              simp [hf', hl]) parts vs _ _ _ hp (zeroCells_ok E w ti) hown h
        have h4 := VR.agg (E := E) (w := w) arr.toList h3.1 h3.2
        refine .mk' (x := .agg l) (v := .agg arr) ?_ h2 (by simpa using h4)
        rw [hd] at hu
        simp only [Instr.build, Sem.run_bind, hz, Result.andThen_ok, run_underlying' hu, hrun', h1, Sem.run_pure]
      · exact h.elim
    · rename_i n e hd
      split at h
      · rename_i te hte
        have hs := run_sizeOf' hΓ hte w
        obtain ⟨l, arr, h1, h2, h3⟩ := fillK_sound (pl' := fun i => some (i * te.size, te.size)) (fun i hi => by
          unfold placeOf
          rw [hd]
          simp [hte]) parts vs _ _ _ hp (zeroCells_ok E w ti) hown h
        have h4 := VR.agg (E := E) (w := w) arr.toList h3.1 h3.2
        refine .mk' (x := .agg l) (v := .agg arr) ?_ h2 (by simpa using h4)
        rw [hd] at hu
        simp [Instr.build, hz, run_underlying' hu, hs, h1]
      · exact h.elim
    · exact h.elim
def fieldK (Γ : Ty) (t : TypeId) (x : SV) (f : Nat) (c : SV → Prop) : Prop :=
  match look Γ t, x with
  | some ⟨.struct fs, _, _, _⟩, .agg l => match fs.toList[f]? with
    | some fd => partK Γ fd.type l fd.offset c
    | none => False
  | _, _ => False
theorem fieldK_sound {P : Program} {Γ : Ty} (hΓ : TyOk P Γ) {E : Env} {w : World} {t : TypeId} {x : SV} {f : Nat} {v : Value} {c : SV → Prop}
    (hx : VR E w x v) (h : fieldK Γ t x f c) : PureRun P E w (Instr.field t v f) c := by
  unfold fieldK at h
  split at h
  · rename_i fs _ _ _ l hti
    split at h
    · rename_i fd hfd
      have hu := run_und hΓ hti
      have hget : fs[f]? = some fd := by rw [← hfd]; simp
      cases hx
      rename_i vs hl hh
      have := partK_sound (cs := vs.toArray) (w := w) hΓ ⟨hl, hh⟩ h
      exact ⟨by simpa [Instr.field, run_underlying' hu, hget, asAgg] using this.out⟩
    · exact h.elim
  · exact h.elim
end
section
variable {A : Env}

def Env.add (E : Env) (b : Nat) (v : Value) : Env := ⟨E.n + 1, fun i => if i = E.n then b else E.b i, fun i => if i = E.n then v else E.v i, E.I⟩
theorem Env.le_add (E : Env) (b : Nat) (v : Value) : E.Le (E.add b v) :=
  ⟨Nat.le_succ _, fun i hi => if_neg (Nat.ne_of_lt hi), fun i hi => if_neg (Nat.ne_of_lt hi)⟩
theorem Env.add_b (E : Env) (b : Nat) (v : Value) : (E.add b v).b E.n = b := if_pos rfl
theorem Env.add_v (E : Env) (b : Nat) (v : Value) : (E.add b v).v E.n = v := if_pos rfl
structure Calm (w w' : World) : Prop where
  size : w.heap.size ≤ w'.heap.size
  os : w'.os = w.os
  tape : w'.tape = w.tape
  output : w'.output = w.output
def killAt (H : List LObj) : Option Nat → List LObj
  | none => H
  | some i => H.set i .gone
theorem killAt_length (H : List LObj) (k : Option Nat) : (killAt H k).length = H.length := by cases k <;> simp [killAt]
theorem killAt_get {H : List LObj} {k : Option Nat} {j : Nat} {o : LObj} (h : (killAt H k)[j]? = some o) : o = .gone ∨ (k ≠ some j ∧ H[j]? = some o) := by
  cases k with
  | none => exact .inr ⟨by simp, h⟩
  | some i =>
    simp only [killAt, List.getElem?_set] at h
    split at h
    · split at h
      · cases h; exact .inl rfl
      · cases h
    · rename_i hne
      exact .inr ⟨fun e => hne (by cases e; rfl), h⟩
theorem Rel.keepI {E : Env} {H : List LObj} {w w' : World} (hr : Rel E H w) {p : Nat → Prop} (hp : ∀ b, p b → InFoot E H b) (hkeep : ∀ b, b < w.heap.size → ¬ p b → w'.heap[b]? = w.heap[b]?) :
    ∀ b, E.I b → w'.heap[b]? = w.heap[b]? := fun b hb => hkeep b (hr.ltI b hb) fun h => hr.imm b (hp b h) hb
theorem Rel.push {E : Env} {H : List LObj} {w w' : World} (hr : Rel E H w) (k : Option Nat) (b0 : Nat) (v0 : Value) (o : LObj) (hc : Calm w w')
    (hkeep : ∀ b, b < w.heap.size → (∀ (i : Nat) o, k = some i → H[i]? = some o → foot E i o ≠ some b) → w'.heap[b]? = w.heap[b]?)
    (hfoot : ∀ b, foot (E.add b0 v0) E.n o = some b → w.heap.size ≤ b ∨ ∃ (i : Nat), ∃ o', k = some i ∧ H[i]? = some o' ∧ foot E i o' = some b)
    (hobj : (∀ b, E.I b → w'.heap[b]? = w.heap[b]?) → ObjR (E.add b0 v0) w' E.n o) :
    Rel (E.add b0 v0) (killAt H k ++ [o]) w' ∧ Step E H w (E.add b0 v0) (killAt H k ++ [o]) w' ∧ (∀ b, E.I b → w'.heap[b]? = w.heap[b]?) := by
  have hkI : ∀ b, E.I b → w'.heap[b]? = w.heap[b]? := fun b hb => hkeep b (hr.ltI b hb) fun i o hk hi hf => hr.imm b ⟨i, o, hi, hf⟩ hb
  have hobj := hobj hkI
  have le := E.le_add b0 v0
  have hn : (killAt H k).length = E.n := by rw [killAt_length, hr.len]
  have getl : ∀ (j : Nat) o', (killAt H k ++ [o])[j]? = some o' → (j < E.n ∧ (o' = .gone ∨ (k ≠ some j ∧ H[j]? = some o'))) ∨ (j = E.n ∧ o' = o) := by
    intro j o' hj
    rw [List.getElem?_append] at hj
    split at hj
    · exact .inl ⟨by omega, killAt_get hj⟩
    · rename_i hge
      have : j - (killAt H k).length = 0 := by
        have := lt_of_get hj
        simp at this
        omega
      rw [this] at hj
      cases hj
      exact .inr ⟨by omega, rfl⟩
  have oldb : ∀ (j : Nat) o', k ≠ some j → H[j]? = some o' → ∀ b, foot E j o' = some b → w'.heap[b]? = w.heap[b]? := by
    intro j o' hkj hj b hb
    refine hkeep b (hr.foot_lt ⟨j, o', hj, hb⟩) fun i o1 hk hi hf => ?_
    refine hr.sep i j o1 o' b ?_ hi hj hf hb
    rintro rfl
    exact hkj hk
  have hin : ∀ b, InFoot (E.add b0 v0) (killAt H k ++ [o]) b → w.heap.size ≤ b ∨ InFoot E H b := by
    rintro b ⟨j, o', hj, hf⟩
    rcases getl j o' hj with ⟨hlt, h | ⟨hkj, h⟩⟩ | ⟨rfl, rfl⟩
    · subst h; cases hf
    · rw [foot_le le hlt] at hf
      exact .inr ⟨j, o', h, hf⟩
    · rcases hfoot b hf with h | ⟨i, o', _, hi, hf'⟩
      · exact .inl h
      · exact .inr ⟨i, o', hi, hf'⟩
  refine ⟨⟨by simp [hn]; rfl, ?_, ?_, ?_, ?_⟩, ⟨hc.size, ?_, hc.os, hc.tape, hc.output, hin, fun b h => h, fun b h => .inl h⟩, hkI⟩
  · intro j o' hj
    rcases getl j o' hj with ⟨hlt, h | ⟨hkj, h⟩⟩ | ⟨rfl, rfl⟩
    · subst h; trivial
    · exact ObjR.kept le (fun _ h => h) hkI hlt (oldb j o' hkj h) (hr.obj j o' h)
    · exact hobj
  · intro i j o1 o2 b hne hi hj hf hf'
    rcases getl i o1 hi with ⟨hlt, h | ⟨hki, h⟩⟩ | ⟨rfl, rfl⟩
    · subst h; cases hf
    · rw [foot_le le hlt] at hf
      rcases getl j o2 hj with ⟨hlt', h' | ⟨hkj, h'⟩⟩ | ⟨rfl, rfl⟩
      · subst h'; cases hf'
      · rw [foot_le le hlt'] at hf'
        exact hr.sep i j o1 o2 b hne h h' hf hf'
      · rcases hfoot b hf' with h2 | ⟨i', o', hk', hi', hf2⟩
        · have := hr.foot_lt ⟨i, o1, h, hf⟩
          omega
        · exact hr.sep i i' o1 o' b (by rintro rfl; exact hki hk') h hi' hf hf2
    · rcases getl j o2 hj with ⟨hlt', h' | ⟨hkj, h'⟩⟩ | ⟨rfl, rfl⟩
      · subst h'; cases hf'
      · rw [foot_le le hlt'] at hf'
        rcases hfoot b hf with h2 | ⟨i', o', hk', hi', hf2⟩
        · have := hr.foot_lt ⟨j, o2, h', hf'⟩
          omega
        · exact hr.sep i' j o' o2 b (by rintro rfl; exact hkj hk') hi' h' hf2 hf'
      · exact hne rfl
  · intro b hb hI
    rcases hin b hb with h | h
    · have := hr.ltI b hI
      omega
    · exact hr.imm b h hI
  · intro b hI
    exact Nat.lt_of_lt_of_le (hr.ltI b hI) hc.size
  · intro b hb hnf
    exact hkeep b hb fun i o1 hk hi hf => hnf ⟨i, o1, hi, hf⟩
theorem Rel.turn {E : Env} {H : List LObj} {w w' : World} (hr : Rel E H w) {i : Nat} {o o' : LObj} (hi : H[i]? = some o) (hc : Calm w w')
    (hkeep : ∀ b, b < w.heap.size → foot E i o ≠ some b → w'.heap[b]? = w.heap[b]?)
    (hfoot : ∀ b, foot E i o' = some b → foot E i o = some b)
    (hobj : (∀ b, E.I b → w'.heap[b]? = w.heap[b]?) → ObjR E w' i o') :
    Rel E (H.set i o') w' ∧ Step E H w E (H.set i o') w' ∧ (∀ b, E.I b → w'.heap[b]? = w.heap[b]?) := by
  have hkI : ∀ b, E.I b → w'.heap[b]? = w.heap[b]? := fun b hb => hkeep b (hr.ltI b hb) fun hf => hr.imm b ⟨i, o, hi, hf⟩ hb
  have hobj := hobj hkI
  have le := Env.Le.refl E
  have getl : ∀ (j : Nat) o1, (H.set i o')[j]? = some o1 → (j ≠ i ∧ H[j]? = some o1) ∨ (j = i ∧ o1 = o') := by
    intro j o1 hj
    rw [List.getElem?_set] at hj
    split at hj
    · rename_i he
      split at hj
      · cases hj; exact .inr ⟨he.symm, rfl⟩
      · cases hj
    · rename_i hne
      exact .inl ⟨fun e => hne e.symm, hj⟩
  have hin : ∀ b, InFoot E (H.set i o') b → InFoot E H b := by
    rintro b ⟨j, o1, hj, hf⟩
    rcases getl j o1 hj with ⟨_, h⟩ | ⟨rfl, rfl⟩
    · exact ⟨j, o1, h, hf⟩
    · exact ⟨_, o, hi, hfoot b hf⟩
  refine ⟨⟨by simpa using hr.len, ?_, ?_, fun b hb => hr.imm b (hin b hb), fun b hI => Nat.lt_of_lt_of_le (hr.ltI b hI) hc.size⟩,
    ⟨hc.size, ?_, hc.os, hc.tape, hc.output, fun b h => .inr (hin b h), fun b h => h, fun b h => .inl h⟩, hkI⟩
  · intro j o1 hj
    rcases getl j o1 hj with ⟨hne, h⟩ | ⟨rfl, rfl⟩
    · refine ObjR.kept le (fun _ h => h) hkI (hr.lt h) (fun b hb => hkeep b (hr.foot_lt ⟨j, o1, h, hb⟩) fun hf => hr.sep j i o1 o b hne h hi hb hf) (hr.obj j o1 h)
    · exact hobj
  · intro j k o1 o2 b hne hj hk hf hf'
    rcases getl j o1 hj with ⟨hne1, h1⟩ | ⟨rfl, rfl⟩
    · rcases getl k o2 hk with ⟨hne2, h2⟩ | ⟨rfl, rfl⟩
      · exact hr.sep j k o1 o2 b hne h1 h2 hf hf'
      · exact hr.sep j k o1 o b hne h1 hi hf (hfoot b hf')
    · rcases getl k o2 hk with ⟨hne2, h2⟩ | ⟨rfl, rfl⟩
      · exact hr.sep j k o o2 b hne hi h2 (hfoot b hf) hf'
      · exact hne rfl
  · intro b hb hnf
    exact hkeep b hb fun hf => hnf ⟨i, o, hi, hf⟩
theorem heap_push (w : World) (o : Obj) (b : Nat) (h : b < w.heap.size) : (w.heap.push o)[b]? = w.heap[b]? := by
  rw [Array.getElem?_push, if_neg (by omega)]
theorem Rel.newCells {E : Env} {H : List LObj} {w : World} (hr : Rel E H w) {c : List SV} {vs : List Value} (e : TypeId) (hv : VRs E w c vs) :
    Rel (E.add w.heap.size .nilFunc) (H ++ [.cells c e]) { w with heap := w.heap.push (.cells vs.toArray e) } ∧
    Step E H w (E.add w.heap.size .nilFunc) (H ++ [.cells c e]) { w with heap := w.heap.push (.cells vs.toArray e) } ∧
    (∀ b, E.I b → ({ w with heap := w.heap.push (.cells vs.toArray e) } : World).heap[b]? = w.heap[b]?) := by
  refine Rel.push (w' := { w with heap := w.heap.push (.cells vs.toArray e) }) hr none w.heap.size .nilFunc (.cells c e) ⟨by simp, rfl, rfl, rfl⟩ (fun b hb _ => heap_push w _ b hb) (fun b hb => ?_) (fun hkI => ?_)
  · simp only [foot, Env.add_b] at hb
    cases hb
    exact .inl (Nat.le_refl _)
  · refine ⟨vs.toArray, ?_, ?_⟩
    · rw [Env.add_b]; simp
    · simpa using hv.kept (E.le_add _ _) (fun _ h => h) hkI
theorem Rel.newOwn {E : Env} {H : List LObj} {w : World} (hr : Rel E H w) {xs : List CV} {vs : Array Value} (e s n cap : Nat) (fz : Nat × Nat) (wr : Bool) (hl : xs.length = n * s) (hs : vs.size = cap * s) (hn : n ≤ cap)
    (hf : ∀ j, n * s ≤ j → j < cap * s → ¬ (fz.1 ≤ j ∧ j < fz.2)) (hw : wr = true → ∀ j, j < cap * s → ¬ (fz.1 ≤ j ∧ j < fz.2)) (hx : ∀ (j : Nat) x u, xs[j]? = some x → vs[j]? = some u → CR E.I w x u) :
    let w' : World := { w with heap := w.heap.push (.cells vs e fz) }
    let v0 : Value := .slice (some ⟨w.heap.size, 0, none⟩) n cap
    Rel (E.add 0 v0) (H ++ [.own e s n xs wr]) w' ∧ Step E H w (E.add 0 v0) (H ++ [.own e s n xs wr]) w' ∧ (∀ b, E.I b → w'.heap[b]? = w.heap[b]?) := by
  intro w' v0
  refine Rel.push (w' := w') hr none 0 v0 (.own e s n xs wr) ⟨by simp [w'], rfl, rfl, rfl⟩ (fun b hb _ => heap_push w _ b hb) (fun b hb => ?_) (fun hkI => ?_)
  · simp only [foot, Env.add_v, v0, Value.blk] at hb
    cases hb
    exact .inl (Nat.le_refl _)
  · show OwnR _ _ _ _ _ _ _ _
    rw [Env.add_v]
    exact ⟨hl, .inr ⟨w.heap.size, cap, vs, fz, rfl, by simp [w'], hs, hn, hf, hw, fun j x u hx' hu => (hx j x u hx' hu).kept (fun _ h => h) hkI⟩⟩
theorem SR.step {G : Gl} {E E' : Env} {s : LS} {H' : List LObj} {a : Act} {w w' : World} (h : SR G A E s a w) (le : E.Le E') (hI : ∀ b, E.I b → E'.I b) (hk : ∀ b, E.I b → w'.heap[b]? = w.heap[b]?) (hr : Rel E' H' w') :
    SR G A E' ⟨s.t, H'⟩ a w' := ⟨h.anc.trans le, h.vals.kept le hI hk, hr, h.gl.kept hI hk, h.nod⟩
end
section

structure MemRun (P : Program) (E : Env) (H : List LObj) (w : World) (e : Sem Value) (c : SV → List LObj → Prop) : Prop where
  out : ∃ x v w' E' H', e.run P w = .ok v w' ∧ c x H' ∧ VR E' w' x v ∧ Rel E' H' w' ∧ Step E H w E' H' w' ∧ E.Le E' ∧ (∀ b, E.I b → E'.I b) ∧ ∀ b, E.I b → w'.heap[b]? = w.heap[b]?
theorem PureRun.mem {P : Program} {E : Env} {H : List LObj} {w : World} {e : Sem Value} {c : SV → List LObj → Prop} (hr : Rel E H w) (h : PureRun P E w e fun x => c x H) : MemRun P E H w e c := by
  obtain ⟨x, v, h1, h2, h3⟩ := h.out
  exact ⟨⟨x, v, w, E, H, h1, h2, h3, hr, Step.refl E H w, Env.Le.refl E, fun _ h => h, fun _ _ => rfl⟩⟩
theorem Rel.ownSl {E : Env} {H : List LObj} {w : World} (hr : Rel E H w) {i : Nat} {e s n : Nat} {xs : List CV} {wr : Bool} (h : H[i]? = some (.own e s n xs wr)) : ∃ a n m, E.v i = .slice a n m := by
  rcases (hr.obj i _ h).row with ⟨e1, _⟩ | ⟨b, cap, vs, fz, e1, _⟩
  · exact ⟨none, 0, 0, e1⟩
  · exact ⟨_, _, _, e1⟩
def ownK (H : List LObj) (x : SV) (p : Prop) : Prop :=
  match x with
  | .own i => match H[i]? with
    | some (.own _ _ _ _ _) => p
    | _ => False
  | _ => p
theorem ownK_out {E : Env} {H : List LObj} {w : World} (hr : Rel E H w) {x : SV} {p : Prop} (h : ownK H x p) : p ∧ ∀ i, x = .own i → ∃ a n m, E.v i = .slice a n m := by
  cases x <;> simp only [ownK] at h <;> first | exact ⟨h, fun i hi => by cases hi⟩ | skip
  rename_i i
  split at h
  · rename_i e s n xs wr hi
    refine ⟨h, fun j hj => ?_⟩
    cases hj
    exact hr.ownSl hi
  · exact h.elim
def hpushK : List LObj → LObj → (List LObj → Prop) → Prop
  | [], o, k => k [o]
  | a :: r, o, k => hpushK r o fun r' => k (a :: r')
theorem hpushK_eq : ∀ (H : List LObj) (o : LObj) (k : List LObj → Prop), hpushK H o k = k (H ++ [o])
  | [], _, _ => rfl
  | a :: r, o, k => by rw [hpushK, hpushK_eq r]; rfl
def hsetK : List LObj → Nat → LObj → (List LObj → Prop) → Prop
  | [], _, _, k => k []
  | _ :: r, 0, o, k => k (o :: r)
  | a :: r, i + 1, o, k => hsetK r i o fun r' => k (a :: r')
theorem hsetK_eq : ∀ (H : List LObj) (i : Nat) (o : LObj) (k : List LObj → Prop), hsetK H i o k = k (H.set i o)
  | [], _, _, _ => rfl
  | _ :: _, 0, _, _ => rfl
  | a :: r, i + 1, o, k => by rw [hsetK, hsetK_eq r]; rfl
def lenK' {α : Type} : List α → Nat → (Nat → Prop) → Prop
  | [], n, k => k n
  | _ :: r, n, k => lenK' r (n + 1) k
theorem lenK'_eq {α : Type} : ∀ (l : List α) (n : Nat) (k : Nat → Prop), lenK' l n k = k (n + l.length)
  | [], _, _ => rfl
  | _ :: r, n, k => by rw [lenK', lenK'_eq r, List.length_cons]; congr 1; omega
def zerosK (ti : TI) (k : List SV → Prop) : Prop :=
  match Nat.ble ti.size 16 with
  | true => seqK (zeroCells ti) k
  | false => k (zeroCells ti)
theorem zerosK_eq (ti : TI) (k : List SV → Prop) : zerosK ti k = k (zeroCells ti) := by
  unfold zerosK
  split
  · exact seqK_eq _ _
  · rfl
def allocK (Γ : Ty) (H : List LObj) (t : TypeId) (c : SV → List LObj → Prop) : Prop :=
  match look Γ t with
  | some ti => zerosK ti fun z => hpushK H (.cells z t) fun H' => lenK' H 0 fun n => c (.ptr n 0) H'
  | none => False
theorem allocK_sound {P : Program} {Γ : Ty} (hΓ : TyOk P Γ) {E : Env} {H : List LObj} {w : World} {t : TypeId} {c : SV → List LObj → Prop}
    (hr : Rel E H w) (h : allocK Γ H t c) : MemRun P E H w (Instr.alloc t true (.tuple #[])) c := by
  unfold allocK at h
  split at h
  · rename_i ti hti
    rw [zerosK_eq, hpushK_eq, lenK'_eq, Nat.zero_add] at h
    have hz := run_zeroValue hΓ hti w
    obtain ⟨h1, h2, h3⟩ := hr.newCells t (zeroCells_ok E w ti)
    refine ⟨⟨.ptr H.length 0, .pointer (some ⟨w.heap.size, 0, none⟩), _, _, _, ?_, h, ?_, h1, h2, E.le_add _ _, fun _ h => h, h3⟩⟩
    · simp [Instr.alloc, hz, newVar, newRow]
    · have := VR.ptr (E := E.add w.heap.size .nilFunc) (w := { w with heap := w.heap.push (.cells ti.zero.cells.toList.toArray t) }) E.n 0 (Nat.lt_succ_self _)
      rw [Env.add_b] at this
      rw [hr.len]
      exact this
  · exact h.elim
def boxK (H : List LObj) (t : TypeId) (x : SV) (c : SV → List LObj → Prop) : Prop :=
  ownK H x (cellsK x fun l => hpushK H (.cells l t) fun H' => lenK' H 0 fun n => c (.ptr n 0) H')
theorem boxK_sound {P : Program} {E : Env} {H : List LObj} {w : World} {t : TypeId} {x : SV} {v : Value} {c : SV → List LObj → Prop}
    (hr : Rel E H w) (hx : VR E w x v) (h : boxK H t x c) : MemRun P E H w (Instr.box t v) c := by
  obtain ⟨h, h0⟩ := ownK_out hr h
  obtain ⟨l, hl, hv⟩ := cellsK_sound hx h h0
  rw [hpushK_eq, lenK'_eq, Nat.zero_add] at hl
  obtain ⟨h1, h2, h3⟩ := hr.newCells t hv
  refine ⟨⟨.ptr H.length 0, .pointer (some ⟨w.heap.size, 0, none⟩), _, _, _, ?_, hl, ?_, h1, h2, E.le_add _ _, fun _ h => h, h3⟩⟩
  · simp [Instr.box, newVar, newRow]
  · have := VR.ptr (E := E.add w.heap.size .nilFunc) (w := { w with heap := w.heap.push (.cells v.cells.toList.toArray t) }) E.n 0 (Nat.lt_succ_self _)
    rw [Env.add_b] at this
    rw [hr.len]
    exact this
def isOne : SV → Prop
  | .agg _ => False
  | .tuple _ => False
  | .any => False
  | _ => True
def onesK : List SV → Prop → Prop
  | [], p => p
  | x :: r, p => match x with
    | .agg _ => False
    | .tuple _ => False
    | .any => False
    | _ => onesK r p
def ownsK (H : List LObj) : List SV → Prop → Prop
  | [], p => p
  | x :: r, p => ownK H x (ownsK H r p)
theorem ownsK_out {E : Env} {H : List LObj} {w : World} (hr : Rel E H w) : ∀ {l : List SV} {p : Prop}, ownsK H l p → p ∧ ∀ x ∈ l, ∀ i, x = .own i → ∃ a n m, E.v i = .slice a n m
  | [], p, h => ⟨h, fun x hx => by cases hx⟩
  | x :: r, p, h => by
    obtain ⟨h1, h2⟩ := ownK_out hr h
    obtain ⟨h3, h4⟩ := ownsK_out hr h1
    refine ⟨h3, fun y hy => ?_⟩
    cases hy with
    | head => exact h2
    | tail _ hy => exact h4 y hy
theorem onesK_out : ∀ {l : List SV} {p : Prop}, onesK l p → p ∧ ∀ x ∈ l, isOne x
  | [], p, h => ⟨h, fun x hx => by cases hx⟩
  | x :: r, p, h => by
    cases x <;> simp only [onesK] at h <;> try exact h.elim
    all_goals
      obtain ⟨h1, h2⟩ := onesK_out h
      refine ⟨h1, fun y hy => ?_⟩
      cases hy with
      | head => trivial
      | tail _ hy => exact h2 y hy
theorem VR.one {E : Env} {w : World} {x : SV} {v : Value} (h : VR E w x v) (hx : isOne x) (ho : ∀ i, x = .own i → ∃ a n m, E.v i = .slice a n m) : v.oneCell' = true := by
  cases h <;> first | rfl | exact hx.elim | skip
  case sl hcr => cases hcr <;> rfl
  case own i hi =>
    obtain ⟨a, n, m, e⟩ := ho i rfl
    rw [e]
    rfl
theorem run_writes {P : Program} {E : Env} {H : List LObj} {w : World} (hr : Rel E H w) {i : Nat} {l : List SV} {e : TypeId} (hi : H[i]? = some (.cells l e)) {cs : List SV} {vs : List Value} (hv : VRs E w cs vs)
    (h1 : ∀ v ∈ vs, v.oneCell' = true) {off : Nat} (hle : off + cs.length ≤ l.length) :
    ∃ w', (storeCells ⟨E.b i, off, none⟩ vs 0).run P w = .ok () w' ∧ Rel E (H.set i (.cells (wrCells l off cs) e)) w' ∧ Step E H w E (H.set i (.cells (wrCells l off cs) e)) w' ∧ ∀ b, E.I b → w'.heap[b]? = w.heap[b]? := by
  obtain ⟨ws, hh, hws, _⟩ := hr.cell hi
  have hcells : ∀ (k : Nat) (us : List Value) (w1 : World) (ws1 : Array Value), (∀ v ∈ us, v.oneCell' = true) → w1.heap[E.b i]? = some (.cells ws1 e (0, 0)) → off + k + us.length ≤ ws1.size →
      ∃ w2, (storeCells ⟨E.b i, off, none⟩ us k).run P w1 = .ok () w2 ∧ w2.heap[E.b i]? = some (.cells ((us.zipIdx k).foldl (fun a p => a.setIfInBounds (off + p.2) p.1) ws1) e (0, 0)) ∧
        (∀ b, b ≠ E.b i → w2.heap[b]? = w1.heap[b]?) ∧ w2.heap.size = w1.heap.size ∧ w2.os = w1.os ∧ w2.tape = w1.tape ∧ w2.output = w1.output := by
    intro k us
    induction us generalizing k with
    | nil => intro w1 ws1 _ h2 _; exact ⟨w1, by simp [storeCells], by simpa using h2, fun _ _ => rfl, rfl, rfl, rfl, rfl⟩
    | cons u r ih =>
      intro w1 ws1 ho h2 h3
      simp only [List.length_cons] at h3
      have hcell : w1.cell? ⟨E.b i, off + k, none⟩ = some (ws1[off + k]'(by omega)) := by
        simp only [World.cell?, h2]
        simp
      have hfr : w1.frozen? ⟨E.b i, off + k, none⟩ = false := by
        simp only [World.frozen?, h2]
        simp
      have hset : (w1.setCell ⟨E.b i, off + k, none⟩ u).heap[E.b i]? = some (.cells (ws1.setIfInBounds (off + k) u) e (0, 0)) := by
        simp [World.setCell, Array.getElem?_modify, h2]
      obtain ⟨w2, e1, e2, e3, e4, e5, e6, e7⟩ := ih (k + 1) (w1.setCell ⟨E.b i, off + k, none⟩ u) _ (fun v hv => ho v (by simp [hv])) hset (by simp; omega)
      refine ⟨w2, ?_, ?_, fun b hb => ?_, ?_, e5, e6, e7⟩
      · simp only [storeCells, Sem.run_bind, add_plain]
        rw [run_store P w1 _ u _ (ho u (by simp))]
        simp only [hcell, hfr, Bool.false_eq_true, if_false, Result.andThen_ok]
        exact e1
      · rw [e2]; simp [List.zipIdx_cons]
      · rw [e3 b hb]
        exact Below.heap_setCell _ _ _ _ hb
      · rw [e4]; simp [World.setCell]
  obtain ⟨w', e1, e2, e3, e4, e5, e6, e7⟩ := hcells 0 vs w ws.toArray h1 hh (by have := hv.1; have := hws.1; simp; omega)
  refine ⟨w', e1, ?_⟩
  refine Rel.turn hr hi ⟨by omega, e5, e6, e7⟩ (fun b hb hne => e3 b fun he => hne (by rw [he]; rfl)) (fun b hb => hb) (fun hkI => ?_)
  refine ⟨_, e2, ?_⟩
  have := wrCells_sound cs vs l ws.toArray off 0 hv (by simpa using hws)
  rw [Nat.add_zero] at this
  exact this.kept (Env.Le.refl E) (fun _ h => h) hkI
def downK (x : SV) (c : CV → Prop) : Prop :=
  match x with
  | .int k n => c (.int k n)
  | .bool b => c (.bool b)
  | .str l => c (.str l)
  | .nil => c .nil
  | .sl s n cs f => c (.sl s n cs f)
  | _ => False
theorem downK_out {E : Env} {w : World} {x : SV} {v : Value} {c : CV → Prop} (hx : VR E w x v) (h : downK x c) : ∃ y, c y ∧ CR E.I w y v := by
  cases hx <;> simp only [downK] at h <;> try exact h.elim
  case int k n => exact ⟨_, h, .int k n⟩
  case bool b => exact ⟨_, h, .bool b⟩
  case str l => exact ⟨_, h, .str l⟩
  case nil => exact ⟨_, h, .nil⟩
  case sl s n cs f hcr => exact ⟨_, h, hcr⟩
def downsK : List SV → (List CV → Prop) → Prop
  | [], c => c []
  | x :: r, c => downK x fun y => downsK r fun ys => c (y :: ys)
theorem downsK_out {E : Env} {w : World} : ∀ {l : List SV} {vs : List Value} {c : List CV → Prop}, VRs E w l vs → downsK l c → ∃ ys, c ys ∧ CRs E.I w ys vs
  | [], vs, c, hv, h => by
    have := hv.1
    have : vs = [] := by cases vs with | nil => rfl | cons => simp at this
    subst this
    exact ⟨[], h, rfl, fun j x v hx => by simp at hx⟩
  | x :: r, vs, c, hv, h => by
    cases vs with
    | nil => have := hv.1; simp at this
    | cons v vr =>
      obtain ⟨y, h1, h2⟩ := downK_out (hv.2 0 x v rfl rfl) h
      obtain ⟨ys, h3, h4⟩ := downsK_out (l := r) (vs := vr) ⟨by simpa using hv.1, fun j y u hy hu => hv.2 (j + 1) y u (by simpa using hy) (by simpa using hu)⟩ h1
      refine ⟨y :: ys, h3, by simpa using h4.1, fun j z u hz hu => ?_⟩
      cases j with
      | zero => cases hz; cases hu; exact h2
      | succ j => exact h4.2 j z u (by simpa using hz) (by simpa using hu)
def wrCV : List CV → Nat → List CV → List CV
  | l, _, [] => l
  | l, o, v :: r => wrCV (l.set o v) (o + 1) r
def isFar : SV → Prop
  | .agg _ => False
  | .tuple _ => False
  | .any => False
  | .own _ => False
  | _ => True
theorem wrCells_all : ∀ (cs l : List SV) (o : Nat), l.length = o + cs.length → wrCells l o cs = l.take o ++ cs
  | [], l, o, h => by simp [wrCells]; rw [List.take_of_length_le (by simp at h; omega)]
  | x :: r, l, o, h => by
    have hlt : o < l.length := by simp at h; omega
    rw [wrCells, wrCells_all r (l.set o x) (o + 1) (by simp at h ⊢; omega)]
    rw [List.take_set, List.take_succ_eq_append_getElem (by simpa using hlt)]
    rw [List.set_append_right _ _ (by simp; omega)]
    simp [Nat.min_eq_left (Nat.le_of_lt hlt)]
def storeK (Γ : Ty) (H : List LObj) (t : TypeId) (x v : SV) (c : List LObj → Prop) : Prop :=
  match look Γ t with
  | none => False
  | some ti => match x with
    | .ptr i off => match H[i]? with
      | some (.cells l e) => match isRow ti.d with
        | false => match v with
          | .agg _ => False
          | v => forceK v fun v => ownK H v (onesK [v] (Need (ti.size = 1 ∧ off < l.length) (hsetK H i (.cells (l.set off v) e) c)))
        | true => match v with
          | .agg cs => match Nat.beq e t, off with
            | true, 0 => Need (cs.length = ti.size ∧ l.length = ti.size ∧ ∀ y ∈ cs, isFar y) (hsetK H i (.cells cs e) c)
            | _, off => Need (cs.length = ti.size ∧ off + cs.length ≤ l.length ∧ ∀ y ∈ cs, isFar y) (hsetK H i (.cells (wrCells l off cs) e) c)
          | _ => False
      | _ => False
    | .pown i off => match H[i]? with
      | some (.own e s n xs true) => match isRow ti.d with
        | false => downK v fun y => Need (ti.size = 1 ∧ off < xs.length) (hsetK H i (.own e s n (xs.set off y) true) c)
        | true => match v with
          | .agg cs => downsK cs fun ys => Need (cs.length = ti.size ∧ off + cs.length ≤ xs.length) (hsetK H i (.own e s n (wrCV xs off ys) true) c)
          | _ => False
      | _ => False
    | _ => False
theorem wrCV_length : ∀ (ys l : List CV) (o : Nat), (wrCV l o ys).length = l.length
  | [], l, o => rfl
  | y :: r, l, o => by rw [wrCV, wrCV_length r]; simp
theorem wrCV_sound {I : Nat → Prop} {w : World} : ∀ (ys : List CV) (vs : List Value) (l : List CV) (ws : Array Value) (off k : Nat), CRs I w ys vs →
    (∀ (j : Nat) x v, l[j]? = some x → ws[j]? = some v → CR I w x v) → l.length ≤ ws.size →
    ∀ (j : Nat) x v, (wrCV l (off + k) ys)[j]? = some x → ((vs.zipIdx k).foldl (fun a p => a.setIfInBounds (off + p.2) p.1) ws)[j]? = some v → CR I w x v
  | [], vs, l, ws, off, k, hv, h, hl => by
    have := hv.1
    have : vs = [] := by cases vs with | nil => rfl | cons => simp at this
    subst this
    simpa [wrCV] using h
  | y :: r, vs, l, ws, off, k, hv, h, hl => by
    cases vs with
    | nil => have := hv.1; simp at this
    | cons v vr =>
      rw [wrCV, List.zipIdx_cons, List.foldl_cons]
      refine wrCV_sound r vr (l.set (off + k) y) _ off (k + 1) ⟨by simpa using hv.1, fun j y u hy hu => hv.2 (j + 1) y u (by simpa using hy) (by simpa using hu)⟩ (fun j x u hx hu => ?_) (by simpa using hl)
      rw [List.getElem?_set] at hx
      rw [Array.getElem?_setIfInBounds] at hu
      split at hx
      · rename_i he
        subst he
        split at hx
        · rename_i hlt
          rw [if_pos rfl, if_pos (by omega)] at hu
          cases hx; cases hu
          exact hv.2 0 y v rfl rfl
        · cases hx
      · rename_i he
        rw [if_neg he] at hu
        exact h j x u hx hu
theorem run_writesO {P : Program} {E : Env} {H : List LObj} {w : World} (hr : Rel E H w) {i e s n : Nat} {xs : List CV} (hi : H[i]? = some (.own e s n xs true)) {b n' c' : Nat} (hE : E.v i = .slice (some ⟨b, 0, none⟩) n' c')
    {ys : List CV} {vs : List Value} (hv : CRs E.I w ys vs) (h1 : ∀ v ∈ vs, v.oneCell' = true) {off : Nat} (hle : off + ys.length ≤ xs.length) :
    ∃ w', (storeCells ⟨b, off, none⟩ vs 0).run P w = .ok () w' ∧ Rel E (H.set i (.own e s n (wrCV xs off ys) true)) w' ∧ Step E H w E (H.set i (.own e s n (wrCV xs off ys) true)) w' ∧ ∀ b, E.I b → w'.heap[b]? = w.heap[b]? := by
  have ho := hr.obj i _ hi
  have hlen := ho.len
  rcases ho.row with ⟨h0, _⟩ | ⟨b', cap, ws, fz, g1, g2, g3, g4, g5, g6, g7⟩
  · rw [h0] at hE; cases hE
  rw [g1] at hE
  cases hE
  have hns : n * s ≤ c' * s := Nat.mul_le_mul_right _ g4
  have g6 := g6 rfl
  have hcells : ∀ (k : Nat) (us : List Value) (w1 : World) (ws1 : Array Value), (∀ v ∈ us, v.oneCell' = true) → w1.heap[b]? = some (.cells ws1 e fz) → ws1.size = c' * s → off + k + us.length ≤ c' * s →
      ∃ w2, (storeCells ⟨b, off, none⟩ us k).run P w1 = .ok () w2 ∧ w2.heap[b]? = some (.cells ((us.zipIdx k).foldl (fun a p => a.setIfInBounds (off + p.2) p.1) ws1) e fz) ∧
        (∀ c, c ≠ b → w2.heap[c]? = w1.heap[c]?) ∧ w2.heap.size = w1.heap.size ∧ w2.os = w1.os ∧ w2.tape = w1.tape ∧ w2.output = w1.output := by
    intro k us
    induction us generalizing k with
    | nil => intro w1 ws1 _ h2 _ _; exact ⟨w1, by simp [storeCells], by simpa using h2, fun _ _ => rfl, rfl, rfl, rfl, rfl⟩
    | cons u r ih =>
      intro w1 ws1 ho h2 hsz h3
      simp only [List.length_cons] at h3
      have hcell : w1.cell? ⟨b, off + k, none⟩ = some (ws1[off + k]'(by omega)) := by
        simp only [World.cell?, h2]
        simp
      have hfr : w1.frozen? ⟨b, off + k, none⟩ = false := by
        have := g6 (off + k) (by omega)
        obtain ⟨lo, hi⟩ := fz
        simp only [World.frozen?, h2]
        simp only at this
        rw [Bool.eq_false_iff]
        intro hc
        rw [Bool.and_eq_true] at hc
        exact this ⟨of_decide_eq_true hc.1, of_decide_eq_true hc.2⟩
      have hset : (w1.setCell ⟨b, off + k, none⟩ u).heap[b]? = some (.cells (ws1.setIfInBounds (off + k) u) e fz) := by
        simp [World.setCell, Array.getElem?_modify, h2]
      obtain ⟨w2, e1, e2, e3, e4, e5, e6, e7⟩ := ih (k + 1) (w1.setCell ⟨b, off + k, none⟩ u) _ (fun v hv => ho v (by simp [hv])) hset (by simpa using hsz) (by omega)
      refine ⟨w2, ?_, ?_, fun c hc => ?_, ?_, e5, e6, e7⟩
      · simp only [storeCells, Sem.run_bind, add_plain]
        rw [run_store P w1 _ u _ (ho u (by simp))]
        simp only [hcell, hfr, Bool.false_eq_true, if_false, Result.andThen_ok]
        exact e1
      · rw [e2]; simp [List.zipIdx_cons]
      · rw [e3 c hc]
        exact Below.heap_setCell _ _ _ _ hc
      · rw [e4]; simp [World.setCell]
  obtain ⟨w', e1, e2, e3, e4, e5, e6, e7⟩ := hcells 0 vs w ws h1 g2 g3 (by have := hv.1; omega)
  refine ⟨w', e1, ?_⟩
  have hblk : foot E i (.own e s n xs true) = some b := by simp [foot, g1, Value.blk]
  refine Rel.turn hr hi ⟨by omega, e5, e6, e7⟩ (fun c hc hne => e3 c fun he => hne (by rw [he]; exact hblk)) (fun c hc => hc) (fun hkI => ?_)
  have hsize : ∀ (l : List (Value × Nat)) (a : Array Value), (l.foldl (fun a p => a.setIfInBounds (off + p.2) p.1) a).size = a.size := by
    intro l
    induction l with
    | nil => intro a; rfl
    | cons p r ih => intro a; rw [List.foldl_cons, ih]; simp
  refine ⟨by rw [wrCV_length]; exact hlen, .inr ⟨b, c', _, fz, g1, e2, (hsize _ _).trans g3, g4, g5, fun _ => g6, ?_⟩⟩
  intro j x u hx hu
  have := wrCV_sound ys vs xs ws off 0 hv g7 (by omega) j x u (by simpa using hx) hu
  exact this.kept (fun _ h => h) hkI
theorem store_core {P : Program} {Γ : Ty} (hΓ : TyOk P Γ) {E : Env} {H : List LObj} {w : World} {t : TypeId} {ti : TI} (hti : look Γ t = some ti) {i off : Nat} {v : Value} {l : List SV} {e : TypeId} (hr : Rel E H w)
    (hi : H[i]? = some (.cells l e)) {cs : List SV} (hvs : VRs E w cs v.cells.toList) (h1 : ∀ u ∈ v.cells.toList, u.oneCell' = true) (e1 : cs.length = ti.size) (e2 : off + cs.length ≤ l.length) :
    ∃ w', (Instr.storeAt t (.pointer (some ⟨E.b i, off, none⟩)) v).run P w = .ok () w' ∧ Rel E (H.set i (.cells (wrCells l off cs) e)) w' ∧ Step E H w E (H.set i (.cells (wrCells l off cs) e)) w' ∧ ∀ b, E.I b → w'.heap[b]? = w.heap[b]? := by
  have hsz := run_sizeOf' hΓ hti w
  obtain ⟨w', r1, r2, r3, r4⟩ := run_writes (P := P) hr hi hvs h1 e2
  refine ⟨w', ?_, r2, r3, r4⟩
  have hcz : v.cells.size = ti.size := by have := hvs.1; simp at this; omega
  simp [Instr.storeAt, Instr.sureAddr, storeVar, hsz, hcz, r1]
theorem storeK_sound {P : Program} {Γ : Ty} (hΓ : TyOk P Γ) {E : Env} {H : List LObj} {w : World} {t : TypeId} {x y : SV} {u v : Value} {c : List LObj → Prop}
    (hr : Rel E H w) (hx : VR E w x u) (hy : VR E w y v) (h : storeK Γ H t x y c) :
    ∃ w' H', (Instr.storeAt t u v).run P w = .ok () w' ∧ c H' ∧ Rel E H' w' ∧ Step E H w E H' w' ∧ ∀ b, E.I b → w'.heap[b]? = w.heap[b]? := by
  unfold storeK at h
  split at h
  · exact h.elim
  · rename_i ti hti
    cases hx <;> try exact h.elim
    case pown i off b n' c' hi0 hE =>
      have core : ∀ {e s n : Nat} {xs ys : List CV}, H[i]? = some (.own e s n xs true) → CRs E.I w ys v.cells.toList → (∀ u ∈ v.cells.toList, u.oneCell' = true) → ys.length = ti.size → off + ys.length ≤ xs.length → c (H.set i (.own e s n (wrCV xs off ys) true)) →
          ∃ w' H', (Instr.storeAt t (.pointer (some ⟨b, off, none⟩)) v).run P w = .ok () w' ∧ c H' ∧ Rel E H' w' ∧ Step E H w E H' w' ∧ ∀ b, E.I b → w'.heap[b]? = w.heap[b]? := by
        intro e s n xs ys hi hvs h1 e1 e2 hk
        have hsz := run_sizeOf' hΓ hti w
        obtain ⟨w', r1, r2, r3, r4⟩ := run_writesO (P := P) hr hi hE hvs h1 e2
        have hcz : v.cells.size = ti.size := by have := hvs.1; simp at this; omega
        exact ⟨w', _, by simp [Instr.storeAt, Instr.sureAddr, storeVar, hsz, hcz, r1], hk, r2, r3, r4⟩
      simp only at h
      split at h
      · rename_i e s n xs hi
        split at h
        · obtain ⟨z, hz, hcr⟩ := downK_out hy h
          obtain ⟨⟨e1, e2⟩, hk⟩ := hz
          rw [hsetK_eq] at hk
          have hone : v.oneCell' = true := by cases hcr <;> rfl
          have hc1 : v.cells = #[v] := by cases hcr <;> rfl
          refine core (ys := [z]) hi ?_ (by rw [hc1]; simpa using hone) e1.symm (by simp; omega) hk
          rw [hc1]
          exact ⟨rfl, fun j y u hy hu => by
            cases j with
            | zero => cases hy; cases hu; exact hcr
            | succ j => simp at hy⟩
        · split at h
          · rename_i cs
            cases hy
            rename_i vs hl hh
            obtain ⟨ys, hz, hcrs⟩ := downsK_out (vs := vs) ⟨hl, hh⟩ h
            obtain ⟨⟨e1, e2⟩, hk⟩ := hz
            rw [hsetK_eq] at hk
            have hyl : ys.length = cs.length := by have := hcrs.1; omega
            have hcv : (Value.agg vs.toArray).cells.toList = vs := by simp [Value.cells]
            refine core (ys := ys) hi (by rw [hcv]; exact hcrs) ?_ (by omega) (by omega) hk
            rw [hcv]
            intro u hu
            obtain ⟨j, hj⟩ := List.getElem?_of_mem hu
            have hlt : j < ys.length := by rw [← hcrs.1]; exact lt_of_get hj
            have := hcrs.2 j _ u (List.getElem?_eq_getElem hlt) hj
            revert this
            generalize ys[j] = z
            intro this
            cases this <;> rfl
          · exact h.elim
      · exact h.elim
    rename_i i off hi0
    simp only at h
    split at h
    · rename_i l e hi
      split at h
      · have key : (ownK H y (onesK [y] (Need (ti.size = 1 ∧ off < l.length) (hsetK H i (.cells (l.set off y) e) c)))) → ∃ w' H', (Instr.storeAt t (.pointer (some ⟨E.b i, off, none⟩)) v).run P w = .ok () w' ∧ c H' ∧ Rel E H' w' ∧ Step E H w E H' w' ∧ ∀ b, E.I b → w'.heap[b]? = w.heap[b]? := by
          intro h
          obtain ⟨h, h0⟩ := ownK_out hr h
          obtain ⟨⟨⟨e1, e2⟩, hk⟩, h1⟩ := onesK_out h
          rw [hsetK_eq] at hk
          have h1y := VR.one hy (h1 y (by simp)) h0
          have hc1 : v.cells = #[v] := by cases v <;> first | rfl | (simp [Value.oneCell'] at h1y; done)
          have hvs : VRs E w [y] v.cells.toList := by
            rw [hc1]
            exact ⟨rfl, fun j z u hz hu => by
              cases j with
              | zero => cases hz; cases hu; exact hy
              | succ j => simp at hz⟩
          obtain ⟨w', r1, r2, r3, r4⟩ := store_core (off := off) hΓ hti hr hi hvs (by rw [hc1]; simpa using h1y) (by simpa using e1.symm) (by simp; omega)
          exact ⟨w', _, r1, hk, r2, r3, r4⟩
        split at h
        · exact h.elim
        · rw [forceK_eq] at h
          exact key h
      · split at h
        · rename_i cs
          cases hy
          rename_i vs hl hh
          have hvs : VRs E w cs (Value.agg vs.toArray).cells.toList := by
            have h9 : VRs E w cs vs := ⟨hl, hh⟩
            simpa only [Value.cells, List.toList_toArray] using h9
          have far : (∀ y ∈ cs, isFar y) → ∀ u ∈ (Value.agg vs.toArray).cells.toList, u.oneCell' = true := by
            intro hf u hu
            simp [Value.cells] at hu
            obtain ⟨j, hj⟩ := List.getElem?_of_mem hu
            have hlt : j < cs.length := by rw [← hl]; exact lt_of_get hj
            have hmem := List.getElem_mem hlt
            have := hf _ hmem
            refine VR.one (hh j _ u (List.getElem?_eq_getElem hlt) hj) ?_ ?_
            · cases hq : cs[j] <;> rw [hq] at this <;> first | trivial | exact this.elim
            · intro k hk
              rw [hk] at this
              exact this.elim
          split at h
          · rename_i hb
            obtain ⟨⟨e1, e2, hf⟩, hk⟩ := h
            rw [hsetK_eq] at hk
            obtain ⟨w', r1, r2, r3, r4⟩ := store_core (off := 0) hΓ hti hr hi hvs (far hf) e1 (by omega)
            rw [wrCells_all cs l 0 (by omega)] at r2 r3
            simp only [List.take_zero, List.nil_append] at r2 r3
            exact ⟨w', _, r1, hk, r2, r3, r4⟩
          · obtain ⟨⟨e1, e2, hf⟩, hk⟩ := h
            rw [hsetK_eq] at hk
            obtain ⟨w', r1, r2, r3, r4⟩ := store_core hΓ hti hr hi hvs (far hf) e1 e2
            exact ⟨w', _, r1, hk, r2, r3, r4⟩
        · exact h.elim
    · exact h.elim
end
section

def srcK (H : List LObj) (s : Nat) (x : SV) (c : Nat → List CV → Prop) : Prop :=
  match x with
  | .nilsl => c 0 []
  | .sl s' m cs _ => Need (s' = s) (c m cs)
  | .own j => match H[j]? with
    | some (.own _ s' m cs _) => Need (s' = s) (c m cs)
    | _ => False
  | .str l => Need (s = 1) (c l.length (bys l))
  | .sub j s' lo m => match H[j]? with
    | some (.own _ s'' n cs _) => Need (s' = s ∧ s'' = s ∧ lo + m ≤ n) (c m ((cs.drop (lo * s)).take (m * s)))
    | _ => False
  | .slice j off m cap => match H[j]? with
    | some (.cells l _) => downsK ((l.drop off).take (m * s)) fun cs => Need (cs.length = m * s) (c m cs)
    | _ => False
  | _ => False
structure SrcR (P : Program) (I : Nat → Prop) (w : World) (s m : Nat) (cs : List CV) (x : Value) : Prop where
  len : (Builtin.lenOf x).run P w = .ok m w
  out : ∃ vs : List Value, vs.length = m * s ∧ CRs I w cs vs ∧ ∀ w' : World, w'.heap = w.heap → (Builtin.firstCells s m x).run P w' = .ok vs.toArray w'
theorem cell_of_heap {w w' : World} (h : w'.heap = w.heap) (a : Addr) : w'.cell? a = w.cell? a := by unfold World.cell?; rw [h]
theorem srcK_sound {P : Program} {E : Env} {H : List LObj} {w : World} {s : Nat} {x : SV} {v : Value} {c : Nat → List CV → Prop} (hr : Rel E H w) (hx : VR E w x v) (h : srcK H s x c) :
    ∃ m cs, c m cs ∧ SrcR P E.I w s m cs v := by
  cases hx <;> simp only [srcK] at h <;> try exact h.elim
  case nilsl => exact ⟨0, [], h, rfl, [], by simp, ⟨rfl, fun j x v hx => by simp at hx⟩, fun w' _ => rfl⟩
  case str l =>
    obtain ⟨rfl, hk⟩ := h
    refine ⟨_, _, hk, by simp [Builtin.lenOf, size_mk], l.map fun b => .int .u8 (b.toNat : Int), by simp, ⟨by simp [bys], fun j x v hx hv => ?_⟩, fun w' _ => ?_⟩
    · simp only [bys, List.getElem?_map, Option.map_eq_some_iff] at hx hv
      obtain ⟨b, hb, rfl⟩ := hx
      obtain ⟨b', hb', rfl⟩ := hv
      rw [hb] at hb'
      cases hb'
      exact .int _ _
    · simp only [Builtin.firstCells, Sem.run_pure]
      congr 1
      have : ((ByteArray.mk l.toArray).extract 0 l.length).data = l.toArray := by
        rw [ByteArray.data_extract]
        simp
      rw [this]
      simp
  case sl s' m cs f hcr =>
    obtain ⟨rfl, hk⟩ := h
    cases hcr with
    | sl0 => exact ⟨0, [], hk, rfl, [], by simp, ⟨rfl, fun j x v hx => by simp at hx⟩, fun w' _ => rfl⟩
    | sl a cp vs hl hv hc hf hI hw hh =>
      refine ⟨m, cs, hk, rfl, vs, by omega, ⟨hv, hh⟩, fun w' hw' => ?_⟩
      have := run_loadCells_list (P := P) w' a vs (fun j v hj => by rw [cell_of_heap hw']; exact hw j v hj)
      rw [hv, hl] at this
      exact this
  case own j hj =>
    split at h
    · rename_i e s' m cs wr hjo
      obtain ⟨rfl, hk⟩ := h
      have ho := hr.obj j _ hjo
      have hl := ho.len
      rcases ho.row with ⟨e1, hn⟩ | ⟨b', cap, vs, fz, e1, e2, e3, e4, _, _, e5⟩
      · subst hn
        have : cs = [] := List.eq_nil_of_length_eq_zero (by simpa using hl)
        subst this
        rw [e1]
        exact ⟨0, [], hk, rfl, [], by simp, ⟨rfl, fun j x v hx => by simp at hx⟩, fun w' _ => rfl⟩
      · rw [e1]
        have hle : m * s' ≤ vs.size := by rw [e3]; exact Nat.mul_le_mul_right _ e4
        refine ⟨m, cs, hk, rfl, vs.toList.take (m * s'), by simp; omega, ⟨by simp; omega, fun j x v hx hv => ?_⟩, fun w' hw' => ?_⟩
        · rw [List.getElem?_take] at hv
          split at hv
          · exact e5 j x v hx (by simpa using hv)
          · cases hv
        · have := run_loadCells_list (P := P) w' ⟨b', 0, none⟩ (vs.toList.take (m * s')) (fun j v hj => by
            rw [cell_of_heap hw', add_plain]
            rw [List.getElem?_take] at hj
            split at hj
            · simp only [World.cell?, e2]
              simpa using hj
            · cases hj)
          rw [List.length_take, Nat.min_eq_left (by simpa using hle)] at this
          exact this
    · exact h.elim
  case sub j s' lo m b0 n0 cap o hj hE q1 q2 q3 =>
    split at h
    · rename_i e s'' n cs wr hjo
      obtain ⟨⟨rfl, rfl, hle0⟩, hk⟩ := h
      have ho := hr.obj j _ hjo
      have hl := ho.len
      rcases ho.row with ⟨e1, hn⟩ | ⟨b', cap', vs, fz, e1, e2, e3, e4, _, _, e5⟩
      · rw [e1] at hE
        cases hE
      · rw [e1] at hE
        cases hE
        have hA : lo * s'' + m * s'' ≤ n0 * s'' := by rw [← Nat.add_mul]; exact Nat.mul_le_mul_right _ hle0
        have hB : n0 * s'' ≤ cap * s'' := Nat.mul_le_mul_right _ e4
        have hvl : ((vs.toList.drop (lo * s'')).take (m * s'')).length = m * s'' := by
          rw [List.length_take, List.length_drop, Array.length_toList, e3]
          omega
        have hcl : ((cs.drop (lo * s'')).take (m * s'')).length = m * s'' := by
          rw [List.length_take, List.length_drop, hl]
          omega
        refine ⟨m, _, hk, rfl, (vs.toList.drop (lo * s'')).take (m * s''), hvl, ⟨by rw [hvl, hcl], fun j x v hx hv => ?_⟩, fun w' hw' => ?_⟩
        · rw [List.getElem?_take] at hx hv
          split at hv
          · rename_i hj
            rw [if_pos hj, List.getElem?_drop] at hx
            rw [List.getElem?_drop] at hv
            exact e5 _ x v hx (by simpa using hv)
          · cases hv
        · rcases Nat.eq_zero_or_pos m with hm0 | hm0
          · subst hm0
            have := run_loadCells_list (P := P) w' ⟨b0, o, none⟩ [] (fun j v hj => by cases hj)
            simpa [Builtin.firstCells] using this
          · have hoo : o = lo * s'' := q2 (by omega)
            have := run_loadCells_list (P := P) w' ⟨b0, o, none⟩ ((vs.toList.drop (lo * s'')).take (m * s'')) (fun j v hj => by
              rw [cell_of_heap hw', add_plain, hoo]
              rw [List.getElem?_take] at hj
              split at hj
              · rw [List.getElem?_drop] at hj
                simp only [World.cell?, e2]
                simpa using hj
              · cases hj)
            rw [hvl] at this
            exact this
    · exact h.elim
  case subN j s' hj hE =>
    split at h
    · rename_i e s'' n cs wr hjo
      obtain ⟨⟨rfl, rfl, hle0⟩, hk⟩ := h
      refine ⟨0, _, hk, rfl, [], by simp, ⟨by simp, fun j x v hx => by simp at hx⟩, fun w' _ => rfl⟩
    · exact h.elim
  case slice j off m cap hj =>
    split at h
    · rename_i l e hjo
      obtain ⟨vs, h1, h2, h3⟩ := hr.cell hjo
      have hcut := h2.cut off (m * s)
      obtain ⟨cs, hcs, hcr⟩ := downsK_out hcut h
      obtain ⟨hl, hk⟩ := hcs
      refine ⟨m, cs, hk, rfl, (vs.drop off).take (m * s), by rw [hcr.1]; exact hl, hcr, fun w' hw' => ?_⟩
      have := run_loadCells_list (P := P) w' ⟨E.b j, off, none⟩ ((vs.drop off).take (m * s)) (fun i v hi => by
        rw [cell_of_heap hw']
        rw [List.getElem?_take] at hi
        split at hi
        · rw [List.getElem?_drop] at hi
          exact h3 off i v hi
        · cases hi)
      rw [hcr.1, hl] at this
      exact this
    · exact h.elim
theorem stores_run {P : Program} {b off : Nat} {e : TypeId} {fz : Nat × Nat} : ∀ (us : List Value) (k : Nat) (w1 : World) (ws1 : Array Value), (∀ v ∈ us, v.oneCell' = true) → w1.heap[b]? = some (.cells ws1 e fz) → off + k + us.length ≤ ws1.size →
    (∀ j, off + k ≤ j → j < off + k + us.length → ¬ (fz.1 ≤ j ∧ j < fz.2)) →
    ∃ w2 ws2, (storeCells ⟨b, off, none⟩ us k).run P w1 = .ok () w2 ∧ w2.heap[b]? = some (.cells ws2 e fz) ∧ ws2.size = ws1.size ∧
      (∀ j, j < off + k ∨ off + k + us.length ≤ j → ws2[j]? = ws1[j]?) ∧ (∀ j u, us[j]? = some u → ws2[off + k + j]? = some u) ∧
      (∀ b', b' ≠ b → w2.heap[b']? = w1.heap[b']?) ∧ w2.heap.size = w1.heap.size ∧ w2.os = w1.os ∧ w2.tape = w1.tape ∧ w2.output = w1.output
  | [], k, w1, ws1, _, h2, _, _ => ⟨w1, ws1, by simp [storeCells], h2, rfl, fun _ _ => rfl, fun j u hu => by simp at hu, fun _ _ => rfl, rfl, rfl, rfl, rfl⟩
  | u :: r, k, w1, ws1, ho, h2, h3, h4 => by
    simp only [List.length_cons] at h3 h4
    have hcell : w1.cell? ⟨b, off + k, none⟩ = some (ws1[off + k]'(by omega)) := by
      simp only [World.cell?, h2]
      simp
    have hfr : w1.frozen? ⟨b, off + k, none⟩ = false := by
      have := h4 (off + k) (Nat.le_refl _) (by omega)
      simp only [World.frozen?, h2]
      simpa using this
    have hset : (w1.setCell ⟨b, off + k, none⟩ u).heap[b]? = some (.cells (ws1.setIfInBounds (off + k) u) e fz) := by
      simp [World.setCell, Array.getElem?_modify, h2]
    obtain ⟨w2, ws2, e1, e2, e3, e4, e5, e6, e7, e8, e9, e10⟩ := stores_run (off := off) r (k + 1) (w1.setCell ⟨b, off + k, none⟩ u) (ws1.setIfInBounds (off + k) u) (fun v hv => ho v (by simp [hv])) hset (by simp; omega) (fun j h5 h6 => h4 j (by omega) (by omega))
    refine ⟨w2, ws2, ?_, e2, by simpa using e3, fun j hj => ?_, fun j v hv => ?_, fun b' hb => ?_, ?_, e8, e9, e10⟩
    · simp only [storeCells, Sem.run_bind, add_plain]
      rw [run_store P w1 _ u _ (ho u (by simp))]
      simp only [hcell, hfr, Bool.false_eq_true, if_false, Result.andThen_ok]
      exact e1
    · simp only [List.length_cons] at hj
      rw [e4 j (by omega), Array.getElem?_setIfInBounds_ne (by omega)]
    · cases j with
      | zero =>
        cases hv
        rw [e4 _ (by omega)]
        rw [Nat.add_zero, Array.getElem?_setIfInBounds_self_of_lt (by omega)]
      | succ j =>
        have := e5 j v (by simpa using hv)
        rw [← this]
        congr 1
        omega
    · rw [e6 b' hb]
      exact Below.heap_setCell _ _ _ _ hb
    · rw [e7]; simp [World.setCell]
theorem CR.one {I : Nat → Prop} {w : World} {c : CV} {v : Value} (h : CR I w c v) : v.oneCell' = true := by cases h <;> rfl
theorem matches_int {d : TypeDesc} (h : ∀ k, d ≠ .int k) : (match d with | .int _ => true | _ => false) = false := by
  cases d <;> first | rfl | exact absurd rfl (h _)
theorem append_grow {P : Program} {Γ : Ty} (hΓ : TyOk P Γ) {tS tX T e : TypeId} {tiS tiX te : TI} (hS : look Γ tS = some tiS) (hSd : tiS.d = .slice e) (he : look Γ e = some te)
    (hX : look Γ tX = some tiX) (hXd : ∀ k, tiX.d ≠ .int k) {w : World} {base : Option Addr} {n cap m : Nat} {x : Value} {old news : Array Value}
    (hlen : (Builtin.lenOf x).run P w = .ok m w) (hgt : cap < n + m) (hb : (n + m) * te.bytes ≤ 140737488355328) (hb0 : 0 < te.bytes)
    (hold : ∀ w' : World, w'.heap = w.heap → (Builtin.firstCells te.size n (.slice base n cap)).run P w' = .ok old w') (hnew : ∀ w' : World, w'.heap = w.heap → (Builtin.firstCells te.size m x).run P w' = .ok news w') :
    ∃ C, n + m ≤ C ∧ (Builtin.append_ #[tS, tX] T #[.slice base n cap, x]).run P w =
      .ok (.slice (some ⟨w.heap.size, 0, none⟩) (n + m) C) { w with drawn := w.drawn + 1, heap := w.heap.push (.cells (old ++ news ++ Builtin.zeroCells te.zero.cells (C - (n + m))) e) } := by
  have hu := run_und hΓ hS
  rw [hSd] at hu
  have hux := run_und hΓ hX
  obtain ⟨i, hi, hi1, hi2, hi3⟩ := run_inf hΓ he
  have hs := run_sizeOf' hΓ he
  have hm := matches_int hXd
  have hfit := growslice_fits (need := n + m) (old := cap) (bytes := te.bytes) hgt hb
  refine ⟨(Question.appendCap (n + m) cap e).cut (w.tape w.drawn (.appendCap (n + m) cap e)), by simp [Question.cut], ?_⟩
  have hsmall : n + m ≤ 140737488355328 := Nat.le_trans (Nat.le_mul_of_pos_right _ hb0) hb
  have h1 : ¬ (9223372036854775807 < (n : Int) + (m : Int) ∧ te.bytes = 0) := by omega
  have h2 : ¬ (281474976710656 < Builtin.nextslicecap (n + m) cap * te.bytes) := by omega
  have h3 : ¬ (n + m ≤ cap) := by omega
  have ho := hold w.drew rfl
  have hn := hnew w.drew rfl
  have hz := run_zeroValue hΓ he w.drew
  unfold Builtin.append_
  simp [run_underlying' hu, run_underlying' hux, hs, hm, hlen, h3, typeInfo, hi, hi3, IntKind.max, IntKind.bits, IntKind.signed, h1, h2, Question.forced, ho, hn, hz, newRow]
  rfl
theorem append_room {P : Program} {Γ : Ty} (hΓ : TyOk P Γ) {tS tX T e : TypeId} {tiS tiX te : TI} (hS : look Γ tS = some tiS) (hSd : tiS.d = .slice e) (he : look Γ e = some te)
    (hX : look Γ tX = some tiX) (hXd : ∀ k, tiX.d ≠ .int k) {w w' : World} {base : Addr} {n cap m : Nat} {x : Value} {news : Array Value}
    (hlen : (Builtin.lenOf x).run P w = .ok m w) (hle : n + m ≤ cap) (hnew : (Builtin.firstCells te.size m x).run P w = .ok news w)
    (hst : (storeCells (base.add (n * te.size)) news.toList 0).run P w = .ok () w') :
    (Builtin.append_ #[tS, tX] T #[.slice (some base) n cap, x]).run P w = .ok (.slice (some base) (n + m) cap) w' := by
  have hu := run_und hΓ hS
  rw [hSd] at hu
  have hux := run_und hΓ hX
  have hs := run_sizeOf' hΓ he
  have hm := matches_int hXd
  unfold Builtin.append_
  simp [run_underlying' hu, run_underlying' hux, hs, hm, hlen, hle, hnew, hst]
theorem append_nil {P : Program} {Γ : Ty} (hΓ : TyOk P Γ) {tS tX T e : TypeId} {tiS tiX te : TI} (hS : look Γ tS = some tiS) (hSd : tiS.d = .slice e) (he : look Γ e = some te)
    (hX : look Γ tX = some tiX) (hXd : ∀ k, tiX.d ≠ .int k) {w : World} {x : Value} {news : Array Value}
    (hlen : (Builtin.lenOf x).run P w = .ok 0 w) (hnew : (Builtin.firstCells te.size 0 x).run P w = .ok news w) :
    (Builtin.append_ #[tS, tX] T #[.slice none 0 0, x]).run P w = .ok (.slice none 0 0) w := by
  have hu := run_und hΓ hS
  rw [hSd] at hu
  have hux := run_und hΓ hX
  have hs := run_sizeOf' hΓ he
  have hm := matches_int hXd
  unfold Builtin.append_
  simp [run_underlying' hu, run_underlying' hux, hs, hm, hlen, hnew]
theorem run_append {P : Program} {Γ : Ty} (hΓ : TyOk P Γ) {tS tX T e : TypeId} {tiS tiX te : TI} (hS : look Γ tS = some tiS) (hSd : tiS.d = .slice e) (he : look Γ e = some te)
    (hX : look Γ tX = some tiX) (hXd : ∀ k, tiX.d ≠ .int k)
    {E : Env} {H : List LObj} {w : World} (hr : Rel E H w) {v x : Value} {n m : Nat} {xs cs : List CV} {wr : Bool} (k : Option Nat)
    (hv : (∃ i, k = some i ∧ H[i]? = some (.own e te.size n xs wr) ∧ E.v i = v) ∨ (k = none ∧ v = .slice none 0 0 ∧ n = 0 ∧ xs = []) ∨
      (k = none ∧ CR E.I w (.sl te.size n xs true) v ∧ 0 < m))
    (hx : SrcR P E.I w te.size m cs x) (hz : te.zero.cells.size = te.size) (hb : (n + m) * te.bytes ≤ 140737488355328) (hb0 : 0 < te.bytes) :
    ∃ v' w', (Builtin.append_ #[tS, tX] T #[v, x]).run P w = .ok v' w' ∧ Rel (E.add 0 v') (killAt H k ++ [.own e te.size (n + m) (xs ++ cs) wr]) w' ∧
      Step E H w (E.add 0 v') (killAt H k ++ [.own e te.size (n + m) (xs ++ cs) wr]) w' ∧ ∀ b, E.I b → w'.heap[b]? = w.heap[b]? := by
  obtain ⟨hlen, vs, hvl, hvc, hvf⟩ := hx
  have hcl : cs.length = m * te.size := by rw [← hvl]; exact hvc.1.symm
  -- the row grows
  have grow : ∀ (base : Option Addr) (cap : Nat) (old : List Value), v = .slice base n cap → cap < n + m → xs.length = n * te.size → CRs E.I w xs old →
      (∀ w' : World, w'.heap = w.heap → (Builtin.firstCells te.size n (.slice base n cap)).run P w' = .ok old.toArray w') →
      ∃ v' w', (Builtin.append_ #[tS, tX] T #[v, x]).run P w = .ok v' w' ∧ Rel (E.add 0 v') (killAt H k ++ [.own e te.size (n + m) (xs ++ cs) wr]) w' ∧
        Step E H w (E.add 0 v') (killAt H k ++ [.own e te.size (n + m) (xs ++ cs) wr]) w' ∧ ∀ b, E.I b → w'.heap[b]? = w.heap[b]? := by
    intro base cap old hvb hgt hxl hold hof
    obtain ⟨C, hC, hrun⟩ := append_grow (T := T) hΓ hS hSd he hX hXd hlen hgt hb hb0 hof hvf
    rw [hvb]
    refine ⟨_, _, hrun, ?_⟩
    have hsz : (old.toArray ++ vs.toArray ++ Builtin.zeroCells te.zero.cells (C - (n + m))).size = C * te.size := by
      have h1 := hold.1
      have h2 : C * te.size = n * te.size + m * te.size + (C - (n + m)) * te.size := by
        rw [← Nat.add_mul, ← Nat.add_mul]
        congr 1
        omega
      simp [Builtin.zeroCells, hz, hvl, h1, hxl, h2]
    refine Rel.push hr k 0 _ (.own e te.size (n + m) (xs ++ cs) wr) ⟨by simp, rfl, rfl, rfl⟩ (fun b hb _ => heap_push w _ b hb) (fun b hb => ?_) (fun hkI => ?_)
    · simp only [foot, Env.add_v, Value.blk] at hb
      cases hb
      exact .inl (Nat.le_refl _)
    · show OwnR _ _ _ _ _ _ _ _
      rw [Env.add_v]
      refine ⟨by rw [List.length_append, hxl, hcl, Nat.add_mul], .inr ⟨w.heap.size, C, _, (0, 0), rfl, by simp, hsz, hC, fun j _ _ => by simp, fun _ j _ => by simp, fun j y u hy hu => ?_⟩⟩
      have hol := hold.1
      rw [List.getElem?_append] at hy
      rw [Array.append_assoc, Array.getElem?_append, Array.getElem?_append] at hu
      simp only [List.size_toArray] at hu
      split at hy
      · rename_i hlt
        rw [if_pos (by omega)] at hu
        exact (hold.2 j y u hy (by simpa using hu)).kept (fun _ h => h) hkI
      · rename_i hge
        have hlt := lt_of_get hy
        rw [if_neg (by omega), if_pos (by omega), hol] at hu
        exact (hvc.2 _ y u hy (by simpa using hu)).kept (fun _ h => h) hkI
  rcases hv with ⟨i, rfl, hi, hEv⟩ | ⟨rfl, rfl, rfl, rfl⟩ | ⟨rfl, hcr, hm0⟩
  · have ho := hr.obj i _ hi
    have hxl := ho.len
    have ho' : OwnR E.I w (E.v i) e te.size n xs wr := ho
    rcases ho'.row with ⟨e1, hn⟩ | ⟨b', cap, ws, fz, e1, e2, e3, e4, e5, e6, e7⟩
    · -- nil, owned
      subst hn
      have hxs : xs = [] := List.eq_nil_of_length_eq_zero (by simpa using hxl)
      subst hxs
      rw [e1] at hEv
      by_cases hm : m = 0
      · subst hm
        have hcs : cs = [] := List.eq_nil_of_length_eq_zero (by simpa using hcl)
        subst hcs
        refine ⟨.slice none 0 0, w, ?_, ?_⟩
        · rw [← hEv]
          exact append_nil hΓ hS hSd he hX hXd hlen (hvf w rfl)
        · refine Rel.push hr (some i) 0 _ (.own e te.size (0 + 0) ([] ++ []) wr) ⟨Nat.le_refl _, rfl, rfl, rfl⟩ (fun b _ _ => rfl) (fun b hb => ?_) (fun hkI => ?_)
          · simp only [foot, Env.add_v, Value.blk] at hb
            cases hb
          · show OwnR _ _ _ _ _ _ _ _
            rw [Env.add_v]
            exact ⟨by simp, .inl ⟨rfl, rfl⟩⟩
      · exact grow none 0 [] hEv.symm (by omega) (by simp) ⟨rfl, fun j x v hx => by simp at hx⟩ (fun w' _ => rfl)
    · rw [e1] at hEv
      by_cases hroom : n + m ≤ cap
      · -- there is room
        have hsz1 : n * te.size + vs.length ≤ ws.size := by
          rw [hvl, e3, ← Nat.add_mul]
          exact Nat.mul_le_mul_right _ hroom
        obtain ⟨w2, ws2, s1, s2, s3, s4, s5, s6, s7, s8, s9, s10⟩ := stores_run (P := P) (b := b') (off := n * te.size) vs 0 w ws (fun u hu => by
          obtain ⟨j, hj⟩ := List.getElem?_of_mem hu
          have hlt : j < cs.length := by rw [← hvc.1]; exact lt_of_get hj
          exact (hvc.2 j _ u (List.getElem?_eq_getElem hlt) hj).one) e2 (by omega) (fun j h1 h2 => e5 j (by omega) (by omega))
        refine ⟨.slice (some ⟨b', 0, none⟩) (n + m) cap, w2, ?_, ?_⟩
        · rw [← hEv]
          exact append_room hΓ hS hSd he hX hXd hlen hroom (hvf w rfl) (by rw [add_plain, Nat.zero_add]; exact s1)
        · refine Rel.push hr (some i) 0 _ (.own e te.size (n + m) (xs ++ cs) wr) ⟨by omega, s8, s9, s10⟩ (fun b hb hne => s6 b fun he => ?_) (fun b hb => ?_) (fun hkI => ?_)
          · subst he
            exact hne i _ rfl hi (by simp [foot, e1, Value.blk])
          · simp only [foot, Env.add_v, Value.blk] at hb
            cases hb
            exact .inr ⟨i, _, rfl, hi, by simp [foot, e1, Value.blk]⟩
          · show OwnR _ _ _ _ _ _ _ _
            rw [Env.add_v]
            refine ⟨by rw [List.length_append, hxl, hcl, Nat.add_mul], .inr ⟨b', cap, ws2, fz, rfl, s2, by rw [s3, e3], hroom, fun j h1 h2 => e5 j (by rw [Nat.add_mul] at h1; omega) h2, e6, fun j y u hy hu => ?_⟩⟩
            rw [List.getElem?_append] at hy
            split at hy
            · rename_i hlt
              rw [s4 j (by omega)] at hu
              exact (e7 j y u hy hu).kept (fun _ h => h) hkI
            · rename_i hge
              have hlt := lt_of_get hy
              have hj : j - xs.length < vs.length := by rw [hvc.1]; exact hlt
              have h5 := s5 (j - xs.length) _ (List.getElem?_eq_getElem hj)
              rw [Nat.add_zero, show n * te.size + (j - xs.length) = j by omega, hu] at h5
              cases h5
              exact (hvc.2 _ y _ hy (List.getElem?_eq_getElem hj)).kept (fun _ h => h) hkI
      · -- it grows
        have hle : n * te.size ≤ ws.size := by rw [e3]; exact Nat.mul_le_mul_right _ e4
        refine grow (some ⟨b', 0, none⟩) cap (ws.toList.take (n * te.size)) hEv.symm (by omega) hxl ⟨by simp; omega, fun j y u hy hu => ?_⟩ (fun w' hw' => ?_)
        · rw [List.getElem?_take] at hu
          split at hu
          · exact e7 j y u hy (by simpa using hu)
          · cases hu
        · have := run_loadCells_list (P := P) w' ⟨b', 0, none⟩ (ws.toList.take (n * te.size)) (fun j v hj => by
            rw [cell_of_heap hw', add_plain]
            rw [List.getElem?_take] at hj
            split at hj
            · simp only [World.cell?, e2]
              simpa using hj
            · cases hj)
          rw [List.length_take, Nat.min_eq_left (by simpa using hle)] at this
          exact this
  · by_cases hm : m = 0
    · subst hm
      have hcs : cs = [] := List.eq_nil_of_length_eq_zero (by simpa using hcl)
      subst hcs
      refine ⟨.slice none 0 0, w, append_nil hΓ hS hSd he hX hXd hlen (hvf w rfl), ?_⟩
      refine Rel.push hr none 0 _ (.own e te.size (0 + 0) ([] ++ []) wr) ⟨Nat.le_refl _, rfl, rfl, rfl⟩ (fun b _ _ => rfl) (fun b hb => ?_) (fun hkI => ?_)
      · simp only [foot, Env.add_v, Value.blk] at hb
        cases hb
      · show OwnR _ _ _ _ _ _ _ _
        rw [Env.add_v]
        exact ⟨by simp, .inl ⟨rfl, rfl⟩⟩
    · exact grow none 0 [] rfl (by omega) (by simp) ⟨rfl, fun j x v hx => by simp at hx⟩ (fun w' _ => rfl)
  · cases hcr with
    | sl0 => exact grow none 0 [] rfl (by omega) (by simp) ⟨rfl, fun j x v hx => by simp at hx⟩ (fun w' _ => rfl)
    | sl a cp us hl hv hc hf hI hw hh =>
      have hcap := hf rfl
      refine grow (some a) cp us rfl (by omega) hl ⟨hv, hh⟩ (fun w' hw' => ?_)
      have := run_loadCells_list (P := P) w' a us (fun j v hj => by rw [cell_of_heap hw']; exact hw j v hj)
      rw [hv, hl] at this
      exact this
end
section

def isIntT : TypeDesc → Bool
  | .int _ => true
  | _ => false
def appendK (Γ : Ty) (H : List LObj) (ts : List TypeId) (args : List SV) (c : SV → List LObj → Prop) : Prop :=
  match ts, args with
  | [tS, tX], [d, x] => match look Γ tS, look Γ tX with
    | some tiS, some tiX => match isIntT tiX.d, tiS.d with
      | false, .slice e => match look Γ e with
        | some te => match Nat.beq te.zero.cells.size te.size, Nat.blt 0 te.bytes with
          | true, true => match d with
            | .nilsl => srcK H te.size x fun m cs => Need (m * te.bytes ≤ 140737488355328) (hpushK H (.own e te.size m cs true) fun H' => lenK' H 0 fun n => c (.own n) H')
            | .own i => match H[i]? with
              | some (.own e' s n xs wr) => match Nat.beq e' e, Nat.beq s te.size with
                | true, true => srcK H te.size x fun m cs => Need ((n + m) * te.bytes ≤ 140737488355328) (hpushK (H.set i .gone) (.own e te.size (n + m) (xs ++ cs) wr) fun H' => lenK' H 0 fun n => c (.own n) H')
                | _, _ => False
              | _ => False
            | .sub i s0 0 n => match H[i]? with
              | some (.own e' s n0 xs true) => match Nat.beq e' e, Nat.beq s te.size with
                | true, true => srcK H te.size x fun m cs => Need (n ≤ n0 ∧ (n + m) * te.bytes ≤ 140737488355328) (hpushK (H.set i .gone) .gone fun H1 => hpushK H1 (.own e te.size (n + m) (xs.take (n * te.size) ++ cs) true) fun H' => lenK' H1 0 fun n => c (.own n) H')
                | _, _ => False
              | _ => False
            | .sl s n xs true => srcK H te.size x fun m cs => Need (s = te.size ∧ 0 < m ∧ (n + m) * te.bytes ≤ 140737488355328) (hpushK H (.own e te.size (n + m) (xs ++ cs) true) fun H' => lenK' H 0 fun n => c (.own n) H')
            | _ => False
          | _, _ => False
        | none => False
      | _, _ => False
    | _, _ => False
  | _, _ => False
theorem mem_own {P : Program} {E : Env} {H : List LObj} {w : World} (hr : Rel E H w) {e : Sem Value} {c : SV → List LObj → Prop} {H' : List LObj} {v' : Value} {w' : World}
    (hrun : e.run P w = .ok v' w') (hrel : Rel (E.add 0 v') H' w') (hst : Step E H w (E.add 0 v') H' w') (hk : ∀ b, E.I b → w'.heap[b]? = w.heap[b]?) (hc : c (.own H.length) H') : MemRun P E H w e c := by
  refine ⟨⟨.own H.length, v', w', _, H', hrun, hc, ?_, hrel, hst, E.le_add _ _, fun _ h => h, hk⟩⟩
  have := VR.own (E := E.add 0 v') (w := w') E.n (Nat.lt_succ_self _)
  rw [Env.add_v] at this
  rw [hr.len]
  exact this
theorem sub_gen {P : Program} {Γ : Ty} (hΓ : TyOk P Γ) {tS tX T e : TypeId} {tiS tiX te : TI} (hS : look Γ tS = some tiS) (hSd : tiS.d = .slice e) (he : look Γ e = some te)
    (hX : look Γ tX = some tiX) (hXd : ∀ k, tiX.d ≠ .int k) {E : Env} {H : List LObj} {w : World} (hr : Rel E H w) {i n0 n m : Nat} {xs0 xs cs : List CV} {v x : Value} {c : SV → List LObj → Prop}
    (hi : H[i]? = some (.own e te.size n0 xs0 true)) (hfoot : ∀ b, Value.blk v = some b → Value.blk (E.v i) = some b) (hcut : OwnR E.I w v e te.size n xs true) (hsrc : SrcR P E.I w te.size m cs x)
    (hz : te.zero.cells.size = te.size) (hb : (n + m) * te.bytes ≤ 140737488355328) (hb0 : 0 < te.bytes)
    (hk : hpushK (H.set i .gone) .gone fun H1 => hpushK H1 (.own e te.size (n + m) (xs ++ cs) true) fun H' => lenK' H1 0 fun n => c (.own n) H') :
    MemRun P E H w (Builtin.append_ #[tS, tX] T #[v, x]) c := by
  obtain ⟨r1, r2, r3⟩ := Rel.push (w' := w) hr (some i) 0 v (.own e te.size n xs true) ⟨Nat.le_refl _, rfl, rfl, rfl⟩ (fun b _ _ => rfl) (fun b hb => by
    refine .inr ⟨i, _, rfl, hi, ?_⟩
    simp only [foot, Env.add_v] at hb
    exact hfoot b hb) (fun hkI => by
    show OwnR _ _ ((E.add 0 v).v E.n) _ _ _ _ _
    rw [Env.add_v]
    exact hcut)
  have hn := hr.len
  have hlen1 : (killAt H (some i)).length = E.n := by rw [killAt_length, hn]
  have hget : (killAt H (some i) ++ [LObj.own e te.size n xs true])[E.n]? = some (.own e te.size n xs true) := by
    rw [List.getElem?_append_right (by omega), hlen1, Nat.sub_self]
    rfl
  obtain ⟨v', w', h1, h2, h3, h4⟩ := run_append (T := T) (E := E.add 0 v) hΓ hS hSd he hX hXd r1 (some E.n) (.inl ⟨E.n, rfl, hget, Env.add_v E 0 v⟩) hsrc hz hb hb0
  rw [hpushK_eq, hpushK_eq, lenK'_eq] at hk
  have hH : killAt (killAt H (some i) ++ [LObj.own e te.size n xs true]) (some E.n) = H.set i .gone ++ [.gone] := by
    show (H.set i .gone ++ [LObj.own e te.size n xs true]).set E.n .gone = _
    rw [List.set_append_right _ _ (by rw [List.length_set, hn]; exact Nat.le_refl _), List.length_set, hn, Nat.sub_self]
    rfl
  rw [hH] at h2 h3
  have hnm : 0 + (H.set i LObj.gone ++ [LObj.gone]).length = E.n + 1 := by
    rw [List.length_append, List.length_set, hn]
    simp
  rw [hnm] at hk
  refine ⟨⟨.own (E.n + 1), v', w', _, _, h1, hk, ?_, h2, r2.trans h3, (E.le_add _ _).trans ((E.add 0 v).le_add _ _), fun _ h => h, h4⟩⟩
  have := VR.own (E := (E.add 0 v).add 0 v') (w := w') (E.n + 1) (Nat.lt_succ_self _)
  rw [show ((E.add 0 v).add 0 v').v (E.n + 1) = v' from Env.add_v (E.add 0 v) 0 v'] at this
  exact this
theorem sub_own {P : Program} {Γ : Ty} (hΓ : TyOk P Γ) {tS tX T e : TypeId} {tiS tiX te : TI} (hS : look Γ tS = some tiS) (hSd : tiS.d = .slice e) (he : look Γ e = some te)
    (hX : look Γ tX = some tiX) (hXd : ∀ k, tiX.d ≠ .int k) {E : Env} {H : List LObj} {w : World} (hr : Rel E H w) {i n0 n n1 m b cap cap0 : Nat} {xs0 xs cs : List CV} {x : Value} {c : SV → List LObj → Prop}
    (hi : H[i]? = some (.own e te.size n0 xs0 true)) (hE : E.v i = .slice (some ⟨b, 0, none⟩) n1 cap0) (hcut : OwnR E.I w (.slice (some ⟨b, 0, none⟩) n cap) e te.size n xs true) (hsrc : SrcR P E.I w te.size m cs x)
    (hz : te.zero.cells.size = te.size) (hb : (n + m) * te.bytes ≤ 140737488355328) (hb0 : 0 < te.bytes)
    (hk : hpushK (H.set i .gone) .gone fun H1 => hpushK H1 (.own e te.size (n + m) (xs ++ cs) true) fun H' => lenK' H1 0 fun n => c (.own n) H') :
    MemRun P E H w (Builtin.append_ #[tS, tX] T #[.slice (some ⟨b, 0, none⟩) n cap, x]) c :=
  sub_gen hΓ hS hSd he hX hXd hr hi (fun b' hb' => by rw [hE]; exact hb') hcut hsrc hz hb hb0 hk
theorem sub_ownN {P : Program} {Γ : Ty} (hΓ : TyOk P Γ) {tS tX T e : TypeId} {tiS tiX te : TI} (hS : look Γ tS = some tiS) (hSd : tiS.d = .slice e) (he : look Γ e = some te)
    (hX : look Γ tX = some tiX) (hXd : ∀ k, tiX.d ≠ .int k) {E : Env} {H : List LObj} {w : World} (hr : Rel E H w) {i n0 n m : Nat} {xs0 xs cs : List CV} {x : Value} {c : SV → List LObj → Prop}
    (hi : H[i]? = some (.own e te.size n0 xs0 true)) (hE : E.v i = .slice none 0 0) (hcut : OwnR E.I w (.slice none 0 0) e te.size n xs true) (hsrc : SrcR P E.I w te.size m cs x)
    (hz : te.zero.cells.size = te.size) (hb : (n + m) * te.bytes ≤ 140737488355328) (hb0 : 0 < te.bytes)
    (hk : hpushK (H.set i .gone) .gone fun H1 => hpushK H1 (.own e te.size (n + m) (xs ++ cs) true) fun H' => lenK' H1 0 fun n => c (.own n) H') :
    MemRun P E H w (Builtin.append_ #[tS, tX] T #[.slice none 0 0, x]) c :=
  sub_gen hΓ hS hSd he hX hXd hr hi (fun b' hb' => by cases hb') hcut hsrc hz hb hb0 hk
theorem appendK_sound {P : Program} {Γ : Ty} (hΓ : TyOk P Γ) {E : Env} {H : List LObj} {w : World} {ts : List TypeId} {T : TypeId} {args : List SV} {vs : List Value} {c : SV → List LObj → Prop}
    (hr : Rel E H w) (hv : VRs E w args vs) (h : appendK Γ H ts args c) : MemRun P E H w (Builtin.append_ ts.toArray T vs.toArray) c := by
  unfold appendK at h
  split at h
  case h_2 => exact h.elim
  rename_i tS tX d x
  have hvs : ∃ v u, vs = [v, u] := by
    have := hv.1
    match vs, this with
    | [v, u], _ => exact ⟨v, u, rfl⟩
  obtain ⟨v, u, rfl⟩ := hvs
  have hd := hv.2 0 d v rfl rfl
  have hx := hv.2 1 x u rfl rfl
  split at h
  case h_2 => exact h.elim
  rename_i tiS tiX hS hX
  split at h
  case h_2 => exact h.elim
  rename_i e hXi hSd
  have hXd : ∀ k, tiX.d ≠ .int k := by
    intro k hk
    rw [hk] at hXi
    cases hXi
  split at h
  case h_2 => exact h.elim
  rename_i te he
  split at h
  case h_2 => exact h.elim
  rename_i hz hb0
  have hz := Nat.eq_of_beq_eq_true hz
  have hb0 : 0 < te.bytes := by simpa [Nat.blt_eq] using hb0
  cases hd <;> try exact h.elim
  case nilsl =>
    obtain ⟨m, cs, hk, hsrc⟩ := srcK_sound (P := P) hr hx h
    obtain ⟨v', w', h1, h2, h3, h4⟩ := run_append (T := T) (wr := true) (n := 0) (xs := []) (v := .slice none 0 0) hΓ hS hSd he hX hXd hr none (.inr (.inl ⟨rfl, rfl, rfl, rfl⟩)) hsrc hz (by simpa using hk.pre) hb0
    refine mem_own hr h1 h2 h3 h4 ?_
    have hkr := hk.rest
    rw [hpushK_eq, lenK'_eq, Nat.zero_add] at hkr
    simpa [killAt] using hkr
  case own i hi0 =>
    simp only at h
    split at h
    · rename_i e' s n xs wr hi
      split at h
      · rename_i hbe hbs
        obtain rfl := Nat.eq_of_beq_eq_true hbe
        have hbs := Nat.eq_of_beq_eq_true hbs
        subst hbs
        obtain ⟨m, cs, hk, hsrc⟩ := srcK_sound (P := P) hr hx h
        obtain ⟨v', w', h1, h2, h3, h4⟩ := run_append (T := T) hΓ hS hSd he hX hXd hr (some i) (.inl ⟨i, rfl, hi, rfl⟩) hsrc hz hk.pre hb0
        have hkr := hk.rest
        rw [hpushK_eq, lenK'_eq, Nat.zero_add] at hkr
        exact mem_own hr h1 h2 h3 h4 hkr
      · exact h.elim
    · exact h.elim
  case sub i s0 lo n b0 n1 cap o hi0 hE q1 q2 q3 =>
    cases lo with
    | succ lo => exact h.elim
    | zero =>
      simp only at h
      split at h
      · rename_i e' s n0 xs hi
        split at h
        · rename_i hbe hbs
          obtain rfl := Nat.eq_of_beq_eq_true hbe
          have hbs := Nat.eq_of_beq_eq_true hbs
          subst hbs
          obtain ⟨m, cs, hk, hsrc⟩ := srcK_sound (P := P) hr hx h
          obtain rfl : o = 0 := q3 rfl
          have hor := hr.obj i _ hi
          have hxl := hor.len
          have hcut : OwnR E.I w (.slice (some ⟨b0, 0, none⟩) n (cap - 0)) e' te.size n (xs.take (n * te.size)) true := by
            rcases hor.row with ⟨e1, hn⟩ | ⟨b', cap', vs, fz, e1, e2, e3, e4, e5, e6, e7⟩
            · rw [e1] at hE
              cases hE
            · rw [e1] at hE
              cases hE
              refine ⟨?_, .inr ⟨b0, cap, vs, fz, rfl, e2, e3, by omega, fun j _ hj => e6 rfl j hj, e6, fun j x u hx hu => ?_⟩⟩
              · rw [List.length_take, hxl]
                exact Nat.min_eq_left (Nat.mul_le_mul_right _ hk.pre.1)
              · rw [List.getElem?_take] at hx
                split at hx
                · exact e7 j x u hx hu
                · cases hx
          exact sub_own hΓ hS hSd he hX hXd hr hi (b := b0) (cap := cap - 0) hE hcut hsrc hz hk.pre.2 hb0 hk.rest
        · exact h.elim
      · exact h.elim
  case subN i s0 hi0 hE =>
    simp only at h
    split at h
    · rename_i e' s n0 xs hi
      split at h
      · rename_i hbe hbs
        obtain rfl := Nat.eq_of_beq_eq_true hbe
        have hbs := Nat.eq_of_beq_eq_true hbs
        subst hbs
        obtain ⟨m, cs, hk, hsrc⟩ := srcK_sound (P := P) hr hx h
        have hcut : OwnR E.I w (.slice none 0 0) e' te.size 0 (xs.take (0 * te.size)) true := ⟨by simp, .inl ⟨rfl, rfl⟩⟩
        exact sub_ownN hΓ hS hSd he hX hXd hr hi hE hcut hsrc hz hk.pre.2 hb0 hk.rest
      · exact h.elim
    · exact h.elim
  case sl s n xs full hcr =>
    cases full <;> try exact h.elim
    obtain ⟨m, cs, hk, hsrc⟩ := srcK_sound (P := P) hr hx h
    obtain ⟨⟨hs, hm, hb⟩, hk⟩ := hk
    subst hs
    obtain ⟨v', w', h1, h2, h3, h4⟩ := run_append (T := T) (wr := true) hΓ hS hSd he hX hXd hr none (.inr (.inr ⟨rfl, hcr, hm⟩)) hsrc hz hb hb0
    rw [hpushK_eq, lenK'_eq, Nat.zero_add] at hk
    exact mem_own hr h1 h2 h3 h4 hk
def repCV (n : Nat) (z : List CV) : List CV := (List.replicate n z).flatten
theorem repCV_length (n : Nat) (z : List CV) : (repCV n z).length = n * z.length := by simp [repCV]
theorem repCV_one (n : Nat) (x : CV) : repCV n [x] = List.replicate n x := by
  induction n with
  | zero => rfl
  | succ n ih => rw [repCV, List.replicate_succ, List.flatten_cons, List.replicate_succ]; exact congrArg _ ih
theorem repCV_get : ∀ (n : Nat) (z : List CV) (j : Nat), j < n * z.length → (repCV n z)[j]? = z[j % z.length]?
  | 0, z, j, h => by simp at h
  | n + 1, z, j, h => by
    rw [repCV, List.replicate_succ, List.flatten_cons, List.getElem?_append]
    split
    · rename_i hj
      rw [Nat.mod_eq_of_lt hj]
    · rename_i hj
      have hz : 0 < z.length := by
        rcases Nat.eq_zero_or_pos z.length with h0 | h0
        · rw [h0] at h; simp at h
        · exact h0
      have := repCV_get n z (j - z.length) (by rw [Nat.add_mul] at h; omega)
      rw [repCV] at this
      rw [this, Nat.mod_eq_sub_mod (Nat.le_of_not_lt hj)]
def zerosOf (s n : Nat) (z : List CV) : List CV :=
  match s, z with
  | 1, [x] => List.replicate n x
  | _, z => repCV n z
theorem zerosOf_eq (s n : Nat) (z : List CV) : zerosOf s n z = repCV n z := by
  unfold zerosOf
  split
  · exact (repCV_one _ _).symm
  · rfl
def makeK (Γ : Ty) (H : List LObj) (t : TypeId) (l c' : SV) (c : SV → List LObj → Prop) : Prop :=
  match look Γ t, l, c' with
  | some ⟨.slice e, _, _, _⟩, .int _ n, .int _ m => match look Γ e with
    | some te => match Nat.beq te.zero.cells.size te.size, Nat.blt 0 te.size with
      | true, true => downsK (zeroCells te) fun z => Need (m = n ∧ 0 ≤ n ∧ te.bytes * n ≤ 140737488355328 ∧ n ≤ 140737488355328) (hpushK H (.own e te.size n.toNat (zerosOf te.size n.toNat z) true) fun H' => lenK' H 0 fun n => c (.own n) H')
      | _, _ => False
    | none => False
  | _, _, _ => False
theorem makeK_sound {P : Program} {Γ : Ty} (hΓ : TyOk P Γ) {E : Env} {H : List LObj} {w : World} {t : TypeId} {l c' : SV} {u v : Value} {c : SV → List LObj → Prop}
    (hr : Rel E H w) (hl : VR E w l u) (hc : VR E w c' v) (h : makeK Γ H t l c' c) : MemRun P E H w (Instr.makeSlice t u v) c := by
  unfold makeK at h
  split at h
  case h_2 => exact h.elim
  rename_i e _ _ _ k n k' m hti
  cases hl; cases hc
  split at h
  case h_2 => exact h.elim
  rename_i te hte
  split at h
  case h_2 => exact h.elim
  rename_i hz hs0
  have hz := Nat.eq_of_beq_eq_true hz
  have hs0 : 0 < te.size := by simpa [Nat.blt_eq] using hs0
  obtain ⟨z, hk, hzr⟩ := downsK_out (zeroCells_ok E w te) h
  obtain ⟨⟨hmn, h0, hb, hn⟩, hk⟩ := hk
  subst hmn
  have hzl : z.length = te.size := by
    have := hzr.1
    simp at this
    omega
  rw [zerosOf_eq] at hk
  have hu := run_und hΓ hti
  obtain ⟨i, hi, hi1, hi2, hi3⟩ := run_inf hΓ hte
  have hwrap : IntKind.i64.wrap m = m := by
    simp [IntKind.wrap, IntKind.bits, IntKind.signed]
    omega
  have hpos : ¬ m < 0 := by omega
  have htl : ¬ ((te.bytes : Int) * m > 281474976710656) := by omega
  have hrun : (Instr.makeSlice t (.int k m) (.int k' m)).run P w = .ok (.slice (some ⟨w.heap.size, 0, none⟩) m.toNat m.toNat)
      { w with heap := w.heap.push (.cells ((Array.range (m.toNat * te.size)).map fun j => te.zero.cells[j % te.zero.cells.size]!) e) } := by
    have hzv := run_zeroValue hΓ hte w
    have hs := run_sizeOf' hΓ hte w
    unfold Instr.makeSlice
    by_cases hm0 : m.toNat * te.size = 0
    · have hm1 : m.toNat = 0 := by
        rcases Nat.mul_eq_zero.1 hm0 with h | h
        · exact h
        · omega
      have hm2 : m = 0 := by omega
      subst hm2
      simp [run_underlying' hu, asInt, asIntOf, typeInfo, hi, hi3, hs, newRow, IntKind.wrap, IntKind.bits, IntKind.signed, show Array.range 0 = #[] from rfl]
    · simp [run_underlying' hu, asInt, asIntOf, typeInfo, hi, hi3, hs, newRow, hwrap, hpos, htl, hm0, hzv]
  obtain ⟨h1, h2, h3⟩ := hr.newOwn (xs := repCV m.toNat z) (vs := (Array.range (m.toNat * te.size)).map fun j => te.zero.cells[j % te.zero.cells.size]!) e te.size m.toNat m.toNat (0, 0) true (by rw [repCV_length, hzl]) (by simp) (Nat.le_refl _)
    (fun j _ _ => by simp) (fun _ j _ => by simp) (fun j x v hx hv => by
      have hlt := lt_of_get hx
      rw [repCV_length] at hlt
      rw [repCV_get _ _ _ hlt] at hx
      rw [hzl] at hx hlt
      simp only [Array.getElem?_map, Array.getElem?_range] at hv
      rw [if_pos hlt] at hv
      simp only [Option.map_some, Option.some.injEq] at hv
      have hmod : j % te.size < te.zero.cells.size := by rw [hz]; exact Nat.mod_lt _ hs0
      have hget : te.zero.cells[j % te.zero.cells.size]! = te.zero.cells[j % te.size] := by
        simp only [hz]
        rw [getElem!_pos te.zero.cells (j % te.size) hmod]
      rw [hget] at hv
      subst hv
      exact hzr.2 (j % te.size) x _ hx (by simp [hmod]))
  rw [hpushK_eq, lenK'_eq, Nat.zero_add] at hk
  exact mem_own hr hrun h1 h2 h3 hk
def toBytesK (Γ : Ty) (H : List LObj) (dst : TypeId) (x : SV) (c : SV → List LObj → Prop) : Prop :=
  match look Γ dst, x with
  | some ⟨.slice e, _, _, _⟩, .str l => match look Γ e with
    | some ⟨.int .u8, _, _, _⟩ => hpushK H (.own e 1 l.length (bys l) true) fun H' => lenK' H 0 fun n => c (.own n) H'
    | _ => False
  | _, _ => False
end
section

theorem run_toBytes {P : Program} {w : World} (e : TypeId) (l : List UInt8) :
    let C := (Question.appendCap l.length 0 e).cut (w.tape w.drawn (.appendCap l.length 0 e))
    let cells : Array Value := (l.map fun b => Value.int .u8 (b.toNat : Int)).toArray ++ Array.replicate (C - l.length) (.int .u8 0)
    (Conv.stringToBytes e ⟨l.toArray⟩).run P w = .ok (.slice (some ⟨w.heap.size, 0, none⟩) l.length C) { w with drawn := w.drawn + 1, heap := w.heap.push (.cells cells e (C, C + 1)) } := by
  intro C cells
  have hC : l.length ≤ C := by simp [C, Question.cut]
  have hcs : cells.size = C := by simp [cells]; omega
  have hdat : (ByteArray.mk l.toArray).data.map (fun b => Value.int .u8 (b.toNat : Int)) = (l.map fun b => Value.int .u8 (b.toNat : Int)).toArray := by simp
  have hshape : ∀ w' : World, w'.heap = w.heap.push (.cells cells e) → w'.shape? w.heap.size = some (e, C) := by
    intro w' hw'
    simp [World.shape?, hw', hcs]
  unfold Conv.stringToBytes
  simp only [Sem.run_bind, run_choose, Question.forced, Bool.false_eq_true, if_false, Result.andThen_ok, size_mk, newRow, run_newObj, Sem.run_pure, markStringish, run_shape, hdat]
  have h1 := hshape { heap := w.heap.push (.cells cells e), tape := w.tape, drawn := w.drawn + 1, os := w.os, output := w.output } rfl
  simp only [cells, C] at h1
  rw [h1]
  simp only [run_freeze, Result.andThen_ok]
  congr 1
  simp only [World.freeze, Nat.one_ne_zero, if_false]
  congr 1
  apply Array.ext_getElem?
  intro i
  rw [Array.getElem?_modify]
  by_cases hi : w.heap.size = i
  · subst hi
    simp [cells, C]
  · rw [if_neg hi]
    simp only [Array.getElem?_push]
    split
    · rename_i h; exact absurd h.symm hi
    · rfl
theorem toBytesK_sound {P : Program} {Γ : Ty} (hΓ : TyOk P Γ) {E : Env} {H : List LObj} {w : World} {src dst : TypeId} {x : SV} {u : Value} {ts : TI} {c : SV → List LObj → Prop}
    (hr : Rel E H w) (hx : VR E w x u) (hts : look Γ src = some ts) (h : toBytesK Γ H dst x c) : MemRun P E H w (convert src dst u) c := by
  unfold toBytesK at h
  split at h
  case h_2 => exact h.elim
  rename_i e _ _ _ l hti
  cases hx
  split at h
  case h_2 => exact h.elim
  rename_i hte
  have hs := run_und hΓ hts
  have hd := run_und hΓ hti
  have he := run_und hΓ hte
  simp only at hd he
  let C := (Question.appendCap l.length 0 e).cut (w.tape w.drawn (.appendCap l.length 0 e))
  have hC : l.length ≤ C := by simp [C, Question.cut]
  let cells : Array Value := (l.map fun b => Value.int .u8 (b.toNat : Int)).toArray ++ Array.replicate (C - l.length) (.int .u8 0)
  have hcs : cells.size = C := by simp [cells]; omega
  have hrun : (convert src dst (.string ⟨l.toArray⟩)).run P w = .ok (.slice (some ⟨w.heap.size, 0, none⟩) l.length C) { w with drawn := w.drawn + 1, heap := w.heap.push (.cells cells e (C, C + 1)) } := by
    have h1 : (convert src dst (.string ⟨l.toArray⟩)).run P w = (Conv.stringToBytes e ⟨l.toArray⟩).run P w := by
      cases hq : ts.d <;> rw [hq] at hs <;> simp [convert, run_underlying' hs, run_underlying' hd, run_underlying' he]
    rw [h1]
    exact run_toBytes e l
  have hall : Rel (E.add 0 (.slice (some ⟨w.heap.size, 0, none⟩) l.length C)) (killAt H none ++ [.own e 1 l.length (bys l) true]) { w with drawn := w.drawn + 1, heap := w.heap.push (.cells cells e (C, C + 1)) } ∧
      Step E H w (E.add 0 (.slice (some ⟨w.heap.size, 0, none⟩) l.length C)) (killAt H none ++ [.own e 1 l.length (bys l) true]) { w with drawn := w.drawn + 1, heap := w.heap.push (.cells cells e (C, C + 1)) } ∧
      ∀ b, E.I b → ({ w with drawn := w.drawn + 1, heap := w.heap.push (.cells cells e (C, C + 1)) } : World).heap[b]? = w.heap[b]? := by
    refine Rel.push hr none 0 _ (.own e 1 l.length (bys l) true) ⟨by simp, rfl, rfl, rfl⟩ (fun b hb _ => heap_push w _ b hb) (fun b hb => ?_) (fun hkI => ?_)
    · simp only [foot, Env.add_v, Value.blk] at hb
      cases hb
      exact .inl (Nat.le_refl _)
    · show OwnR _ _ _ _ _ _ _ _
      rw [Env.add_v]
      refine ⟨by simp [bys], .inr ⟨w.heap.size, C, cells, (C, C + 1), rfl, by simp, by omega, hC, fun j _ h => by simp; omega, fun _ j h => by simp; omega, fun j x u hx hv => ?_⟩⟩
      simp only [bys, List.getElem?_map, Option.map_eq_some_iff] at hx
      obtain ⟨b, hb, rfl⟩ := hx
      have hlt := lt_of_get hb
      simp only [cells, Array.getElem?_append, List.size_toArray, List.length_map, if_pos hlt] at hv
      simp [hb] at hv
      subst hv
      exact .int _ _
  rw [hpushK_eq, lenK'_eq, Nat.zero_add] at h
  exact mem_own hr hrun hall.1 hall.2.1 hall.2.2 h
def repSV (n : Nat) (z : List SV) : List SV :=
  match n with
  | 0 => []
  | n + 1 => z ++ repSV n z
theorem repSV_length : ∀ (n : Nat) (z : List SV), (repSV n z).length = n * z.length
  | 0, z => by simp [repSV]
  | n + 1, z => by rw [repSV, List.length_append, repSV_length n z, Nat.add_mul]; omega
theorem repSV_get : ∀ (n : Nat) (z : List SV) (j : Nat), j < n * z.length → (repSV n z)[j]? = z[j % z.length]?
  | 0, z, j, h => by simp at h
  | n + 1, z, j, h => by
    rw [repSV, List.getElem?_append]
    split
    · rename_i hj
      rw [Nat.mod_eq_of_lt hj]
    · rename_i hj
      rw [repSV_get n z (j - z.length) (by rw [Nat.add_mul] at h; omega), Nat.mod_eq_sub_mod (Nat.le_of_not_lt hj)]
def allDown : List SV → Bool
  | [] => true
  | x :: r => match x with
    | .int _ _ => allDown r
    | .bool _ => allDown r
    | .str _ => allDown r
    | .nil => allDown r
    | .sl _ _ _ _ => allDown r
    | _ => false
def bsliceK (Γ : Ty) (H : List LObj) (t : TypeId) (n : Nat) (parts : List (Nat × SV)) (c : SV → List LObj → Prop) : Prop :=
  match look Γ t with
  | some ⟨.slice e, _, _, _⟩ => match look Γ e with
    | some te => match Nat.beq te.zero.cells.size te.size, Nat.blt 0 te.size with
      | true, true => match n with
        | 0 => match parts with
          | [] => hpushK H (.own e te.size 0 [] true) fun H' => lenK' H 0 fun n => c (.own n) H'
          | _ => False
        | n => match Nat.ble (n * te.size) 16777216 with
          | true => ownsK H (parts.map (·.2)) (fillK (fun i => some (i * te.size, te.size)) (repSV n (zeroCells te)) parts fun l => match allDown l with
            | true => downsK l fun cs => c (.sl te.size n cs true) H
            | false => hpushK H (.cells l e) fun H' => lenK' H 0 fun b => c (.slice b 0 n n) H')
          | false => False
      | _, _ => False
    | none => False
  | _ => False
theorem Rel.newImm {E : Env} {H : List LObj} {w : World} (hr : Rel E H w) (o : Obj) :
    let w' : World := { w with heap := w.heap.push o }
    let E' : Env := ⟨E.n, E.b, E.v, fun b => E.I b ∨ b = w.heap.size⟩
    Rel E' H w' ∧ Step E H w E' H w' ∧ (∀ b, E.I b → w'.heap[b]? = w.heap[b]?) ∧ E.Le E' := by
  intro w' E'
  have le : E.Le E' := ⟨Nat.le_refl _, fun _ _ => rfl, fun _ _ => rfl⟩
  have hk : ∀ b, b < w.heap.size → w'.heap[b]? = w.heap[b]? := fun b hb => heap_push w _ b hb
  have hkI : ∀ b, E.I b → w'.heap[b]? = w.heap[b]? := fun b hb => hk b (hr.ltI b hb)
  have hin : ∀ b, InFoot E' H b → InFoot E H b := by
    rintro b ⟨i, o', hi, hf⟩
    exact ⟨i, o', hi, by rw [foot_le le (hr.lt hi)] at hf; exact hf⟩
  refine ⟨⟨hr.len, fun i o' hi => ?_, fun i j o1 o2 b hne hi hj hf hf' => ?_, fun b hb hI => ?_, fun b hI => ?_⟩, ⟨by simp [w'], fun b hb _ => hk b hb, rfl, rfl, rfl, fun b hb => .inr (hin b hb), fun b h => .inl h, fun b h => ?_⟩, hkI, le⟩
  · exact ObjR.kept le (fun _ h => .inl h) hkI (hr.lt hi) (fun b hb => hk b (hr.foot_lt ⟨i, o', hi, hb⟩)) (hr.obj i o' hi)
  · rw [foot_le le (hr.lt hi)] at hf
    rw [foot_le le (hr.lt hj)] at hf'
    exact hr.sep i j o1 o2 b hne hi hj hf hf'
  · rcases hI with h | h
    · exact hr.imm b (hin b hb) h
    · have := hr.foot_lt (hin b hb)
      omega
  · rcases hI with h | h
    · have := hr.ltI b h
      simp [w']
      omega
    · simp [w', h]
  · rcases h with h | h
    · exact .inl h
    · exact .inr (.inl (by omega))
theorem foldl_size (off : Nat) : ∀ (l : List (Value × Nat)) (a : Array Value), (l.foldl (fun a p => a.setIfInBounds (off + p.2) p.1) a).size = a.size
  | [], a => rfl
  | p :: r, a => by rw [List.foldl_cons, foldl_size off r]; simp
theorem fill_size {pl : Nat → Option (Nat × Nat)} : ∀ (vs : List (Nat × Value)) (arr arr' : Array Value), Instr.fill pl arr vs = some arr' → arr'.size = arr.size
  | [], arr, arr', h => by simp [Instr.fill] at h; rw [h]
  | (i, v) :: r, arr, arr', h => by
    rw [Instr.fill] at h
    split at h
    · cases h
    · split at h
      · cases h
      · rw [fill_size r _ _ h, ← Array.foldl_toList]
        exact foldl_size _ _ _
theorem bsliceK_sound {P : Program} {Γ : Ty} (hΓ : TyOk P Γ) {E : Env} {H : List LObj} {w : World} {t : TypeId} {n : Nat} {parts : List (Nat × SV)} {vs : List (Nat × Value)} {c : SV → List LObj → Prop}
    (hr : Rel E H w) (hp : PartsR E w parts vs) (h : bsliceK Γ H t n parts c) : MemRun P E H w (Instr.buildSlice t n vs.toArray) c := by
  unfold bsliceK at h
  split at h
  case h_2 => exact h.elim
  rename_i e _ _ _ hti
  split at h
  case h_2 => exact h.elim
  rename_i te hte
  split at h
  case h_2 => exact h.elim
  rename_i hz hs0
  have hz := Nat.eq_of_beq_eq_true hz
  have hs0 : 0 < te.size := by simpa [Nat.blt_eq] using hs0
  have hu := run_und hΓ hti
  simp only at hu
  have hs := run_sizeOf' hΓ hte w
  have hzv := run_zeroValue hΓ hte w
  split at h
  · split at h
    · have hvs : vs = [] := by
        have := hp.1
        cases vs with
        | nil => rfl
        | cons => simp at this
      subst hvs
      have hrun : (Instr.buildSlice t 0 ([] : List (Nat × Value)).toArray).run P w = .ok (.slice (some ⟨w.heap.size, 0, none⟩) 0 0) { w with heap := w.heap.push (.cells #[] e) } := by
        simp [Instr.buildSlice, run_underlying' hu, hs, newRow, Instr.fill, show Array.range 0 = #[] from rfl]
      obtain ⟨h1, h2, h3⟩ := hr.newOwn (xs := []) (vs := #[]) e te.size 0 0 (0, 0) true (by simp) (by simp) (Nat.le_refl _) (fun j _ _ => by simp) (fun _ j _ => by simp) (fun j x v hx => by simp at hx)
      rw [hpushK_eq, lenK'_eq, Nat.zero_add] at h
      exact mem_own hr hrun h1 h2 h3 h
    · exact h.elim
  · rename_i hn
    split at h
    case h_2 => exact h.elim
    rename_i hle
    have hle := Nat.le_of_ble_eq_true hle
    obtain ⟨h, hown⟩ := ownsK_out hr h
    have hn0 : n ≠ 0 := hn
    have hns : ¬ (n * te.size = 0) := by
      intro h0
      rcases Nat.mul_eq_zero.1 h0 with h1 | h1
      · exact hn0 h1
      · omega
    have hzero : VRs E w (repSV n (zeroCells te)) ((Array.range (n * te.size)).map fun j => te.zero.cells[j % te.zero.cells.size]!).toList := by
      have hzc := zeroCells_ok E w te
      have hzl : (zeroCells te).length = te.size := by have := hzc.1; simp at this; omega
      refine ⟨by rw [repSV_length, hzl]; simp, fun j x v hx hv => ?_⟩
      have hlt := lt_of_get hx
      rw [repSV_length, hzl] at hlt
      rw [repSV_get _ _ _ (by rw [hzl]; exact hlt), hzl] at hx
      have hmod : j % te.size < te.zero.cells.size := by rw [hz]; exact Nat.mod_lt _ hs0
      have hget : te.zero.cells[j % te.zero.cells.size]! = te.zero.cells[j % te.size] := by
        simp only [hz]
        rw [getElem!_pos te.zero.cells (j % te.size) hmod]
      simp [hlt] at hv
      rw [← hv]
      rw [getElem!_pos te.zero.cells (j % te.zero.cells.size) (by rw [hz]; rw [hz] at hmod; exact hmod)] 
      refine hzc.2 (j % te.size) x _ hx ?_
      simp [hz, hmod]
    obtain ⟨l, arr, h1, h2, h3⟩ := fillK_sound (pl := fun i => some (i * te.size, te.size)) (pl' := fun i => some (i * te.size, te.size)) (fun i _ => rfl) parts vs _ _ _ hp hzero (fun x hx => hown x.2 (List.mem_map_of_mem hx)) h
    have hrun : (Instr.buildSlice t n vs.toArray).run P w = .ok (.slice (some ⟨w.heap.size, 0, none⟩) n n) { w with heap := w.heap.push (.cells arr e) } := by
      have hle' : ¬ (16777216 < n * te.size) := by omega
      unfold Instr.buildSlice
      simp [run_underlying' hu, hs, newRow, hle', hns, hzv, h1]
    split at h2
    · obtain ⟨cs, hc, hcr⟩ := downsK_out h3 h2
      obtain ⟨r1, r2, r3, r4⟩ := hr.newImm (.cells arr e)
      refine ⟨⟨.sl te.size n cs true, _, _, _, H, hrun, hc, .sl ?_, r1, r2, r4, fun _ h => .inl h, r3⟩⟩
      have hal : arr.toList.length = n * te.size := by
        have := fill_size _ _ _ h1
        simpa using this
      refine .sl ⟨w.heap.size, 0, none⟩ n arr.toList (by rw [← hcr.1, hal]) hcr.1 (Nat.le_refl _) (fun _ => rfl) (fun _ => .inr rfl) (fun j v hj => ?_) (fun j x v hx hv => (hcr.2 j x v hx hv).kept (fun _ h => .inl h) r3)
      rw [add_plain]
      simp only [World.cell?]
      simp
      simpa using hj
    · rw [hpushK_eq, lenK'_eq, Nat.zero_add] at h2
      obtain ⟨r1, r2, r3⟩ := hr.newCells (c := l) (vs := arr.toList) e h3
      refine ⟨⟨.slice H.length 0 n n, _, _, _, _, hrun, h2, ?_, r1, r2, E.le_add _ _, fun _ h => h, r3⟩⟩
      have := VR.slice (E := E.add w.heap.size .nilFunc) (w := { w with heap := w.heap.push (.cells arr.toList.toArray e) }) E.n 0 n n (Nat.lt_succ_self _)
      rw [Env.add_b] at this
      rw [hr.len]
      exact this
end
section

def sdataK (Γ : Ty) (H : List LObj) (T : TypeId) (x : SV) (c : SV → List LObj → Prop) : Prop :=
  match x with
  | .nilsl => c .nil H
  | .own i => match H[i]? with
    | some (.own _ _ n _ _) => match look Γ T with
      | some ⟨.pointer _, _, _, _⟩ => Both (Nat.blt 0 n) (c (.pown i 0) H) (c (.pim []) H)
      | _ => False
    | _ => False
  | _ => False
theorem sdataK_sound {P : Program} {Γ : Ty} (hΓ : TyOk P Γ) {E : Env} {H : List LObj} {w : World} {ts : Array TypeId} {T : TypeId} {x : SV} {v : Value} {c : SV → List LObj → Prop}
    (hr : Rel E H w) (hx : VR E w x v) (h : sdataK Γ H T x c) : MemRun P E H w (Builtin.unsafeSliceData_ ts T #[v]) c := by
  unfold sdataK at h
  split at h
  · cases hx
    exact ⟨.nil, .pointer none, w, E, H, Lib.run_unsafeSliceData_nil _ _ _ _ _, h, .nil, hr, Step.refl E H w, Env.Le.refl E, fun _ h => h, fun _ _ => rfl⟩
  · rename_i i
    cases hx
    rename_i hi0
    split at h
    case h_2 => exact h.elim
    rename_i e s n xs wr hi
    split at h
    case h_2 => exact h.elim
    rename_i e' _ _ _ hT
    have hu := run_und hΓ hT
    simp only at hu
    have ho := hr.obj i _ hi
    rcases ho.row with ⟨h0, hn⟩ | ⟨b, cap, vs, fz, g1, g2, g3, g4, _⟩
    · rw [h0]
      have hc := h.no (by rw [hn]; rfl)
      exact ⟨.pim [], .pointer none, w, E, H, Lib.run_unsafeSliceData_nil _ _ _ _ _, hc, .pnull, hr, Step.refl E H w, Env.Le.refl E, fun _ h => h, fun _ _ => rfl⟩
    · rw [g1]
      by_cases hn : 0 < n
      · have hc := h.yes (by simpa [Nat.blt_eq] using hn)
        exact ⟨.pown i 0, .pointer (some ⟨b, 0, none⟩), w, E, H, Lib.run_unsafeSliceData_row _ _ _ _ _ _ (by omega), hc, .pown i 0 b n cap hi0 g1, hr, Step.refl E H w, Env.Le.refl E, fun _ h => h, fun _ _ => rfl⟩
      · have hc := h.no (by
          cases hb : Nat.blt 0 n with
          | false => rfl
          | true => exact absurd (by simpa [Nat.blt_eq] using hb) hn)
        by_cases hcap : cap = 0
        · subst hcap
          have hrun := Lib.run_unsafeSliceData_zero (P := P) (w := w) ts T e' hu ⟨b, 0, none⟩ n (e, vs.size) (by simp [World.shape?, g2])
          obtain ⟨k1, k2, k3, k4⟩ := hr.newImm (.view ⟨b, 0, none⟩ e')
          exact ⟨.pim [], _, _, _, H, hrun, hc, .pim _ [] rfl (fun h => by simp at h) (fun j v h => by simp at h) (fun j x v h => by simp at h), k1, k2, k4, fun _ h => .inl h, k3⟩
        · exact ⟨.pim [], .pointer (some ⟨b, 0, none⟩), w, E, H, Lib.run_unsafeSliceData_row _ _ _ _ _ _ hcap, hc, .pim _ [] rfl (fun h => by simp at h) (fun j v h => by simp at h) (fun j x v h => by simp at h), hr, Step.refl E H w, Env.Le.refl E, fun _ h => h, fun _ _ => rfl⟩
  · exact h.elim
def ustrK (P : Program) (Γ : Ty) (H : List LObj) (pt : TypeId) (p n : SV) (c : SV → List LObj → Prop) : Prop :=
  match p, n with
  | .nil, .int .i64 n => Need (n = 0) (c (.str []) H)
  | .pim [], .int .i64 n => Need (n = 0) (c (.str []) H)
  | .pown i off, .int .i64 n => match H[i]? with
    | some (.own e s m xs _) => match look Γ pt with
      | some ⟨.pointer e', _, _, _⟩ => ∃ l : List UInt8, xs = bys l ∧ Need (off = 0 ∧ e' = e ∧ s = 1 ∧ n = (m : Int) ∧ 0 < m ∧ m ≤ 9223372036854775807 ∧ P.cellsOf e = 1) (hsetK H i .gone (c (.str l)))
      | _ => False
    | _ => False
  | _, _ => False
theorem ustrK_sound {P : Program} {Γ : Ty} (hΓ : TyOk P Γ) {E : Env} {H : List LObj} {w : World} {pt it T : TypeId} {x y : SV} {u v : Value} {c : SV → List LObj → Prop}
    (hr : Rel E H w) (hx : VR E w x u) (hy : VR E w y v) (h : ustrK P Γ H pt x y c) : MemRun P E H w (Builtin.unsafeString_ #[pt, it] T #[u, v]) c := by
  have none_ : ∀ (q : Option Addr) (n : Int), Need (n = 0) (c (.str []) H) → MemRun P E H w (Builtin.unsafeString_ #[pt, it] T #[.pointer q, .int .i64 n]) c := by
    rintro q n ⟨rfl, hc⟩
    exact ⟨.str [], _, w, E, H, Lib.run_unsafeString_none _ _ _ _ _, hc, .str [], hr, Step.refl E H w, Env.Le.refl E, fun _ h => h, fun _ _ => rfl⟩
  unfold ustrK at h
  split at h
  · cases hx; cases hy; exact none_ _ _ h
  · cases hy
    cases hx
    · exact none_ _ _ h
    · exact none_ _ _ h
  · rename_i i off n
    cases hy
    cases hx
    rename_i b n' c' hi0 hE
    split at h
    case h_2 => exact h.elim
    rename_i e s m xs wr hi
    split at h
    case h_2 => exact h.elim
    rename_i e' _ _ _ hT
    have hu := run_und hΓ hT
    simp only at hu
    obtain ⟨l, rfl, ⟨rfl, rfl, rfl, rfl, hm, hmax, hcell⟩, hk⟩ := h
    rw [hsetK_eq] at hk
    have ho := hr.obj i _ hi
    have hlen := ho.len
    rcases ho.row with ⟨h0, _⟩ | ⟨b', cap, ws, fz, g1, g2, g3, g4, g5, g6, g7⟩
    · rw [h0] at hE; cases hE
    rw [g1] at hE
    cases hE
    have hl : l.length = n' := by simpa [bys] using hlen
    subst hl
    have hrun := Lib.run_unsafeString_row (P := P) (w := w) pt it T e' hu hcell b ws.size (by simp [World.shape?, g2]) l (by intro h0; subst h0; simp at hm) (by omega) hmax (by
      intro j x hx
      have hj : j < ws.size := by have := lt_of_get hx; omega
      have := g7 j (.int .u8 (x.toNat : Int)) ws[j] (by rw [bys, List.getElem?_map, hx]; rfl) (Array.getElem?_eq_getElem hj)
      rw [add_plain, Nat.zero_add]
      simp only [World.cell?, g2]
      rw [Array.getElem?_eq_getElem hj]
      generalize ws[j] = z at this
      cases this
      rfl)
    have hblk : foot E i (.own e' 1 l.length (bys l) wr) = some b := by simp [foot, g1, Value.blk]
    have hl0 : ¬ l.length = 0 := by omega
    have hcalm : Calm w (w.freeze ⟨b, 0, none⟩ l.length) := by
      refine ⟨?_, ?_, ?_, ?_⟩ <;> simp [World.freeze, hl0]
    obtain ⟨k1, k2, k3⟩ := Rel.turn (o' := .gone) (w' := w.freeze ⟨b, 0, none⟩ l.length) hr hi hcalm (fun d hd hne => by
        have hdb : d ≠ b := fun he => hne (by rw [he]; exact hblk)
        simp only [World.freeze, hl0, if_false, Array.getElem?_modify]
        rw [if_neg (fun he => hdb he.symm)]) (fun d h => by cases h) (fun hkI => trivial)
    exact ⟨.str l, _, _, E, _, hrun, hk, .str l, k1, k2, Env.Le.refl E, fun _ h => h, k3⟩
  · exact h.elim
end
section
open Go.MapKept

def keq : CV → CV → Bool
  | .int _ a, .int _ b => decide (a = b)
  | .str a, .str b => decide (a = b)
  | _, _ => false
def mget : List (CV × CV) → CV → Option CV
  | [], _ => none
  | (a, b) :: r, k => match keq k a with
    | true => some b
    | false => mget r k
def mput : List (CV × CV) → CV → CV → List (CV × CV)
  | [], k, v => [(k, v)]
  | (a, b) :: r, k, v => match keq k a with
    | true => (k, v) :: r
    | false => (a, b) :: mput r k v
def kindT : TypeDesc → Nat
  | .int .i64 => 1
  | .string => 2
  | _ => 0
theorem isKey_of {I : Nat → Prop} {w : World} {d : TypeDesc} {k : CV} {v : Value} (h : CR I w k v) (h1 : kindB k = kindT d) (h0 : kindT d ≠ 0) : IsKey d v := by
  cases h with
  | int k n => cases k <;> simp only [kindB] at h1 <;> (cases d <;> simp [kindT] at h1 h0 <;> first | (split at h1 <;> simp_all [IsKey]) | simp_all [IsKey])
  | str l => simp only [kindB] at h1; cases d <;> simp [kindT] at h1 h0 <;> first | (split at h1 <;> simp_all [IsKey]) | simp_all [IsKey]
  | bool b => exact absurd h1.symm h0
  | nil => exact absurd h1.symm h0
  | sl0 s f => exact absurd h1.symm h0
  | sl a c vs hl hv hc hf hI hw hh => exact absurd h1.symm h0
theorem keq_iff {I : Nat → Prop} {w : World} {a b : CV} {u v : Value} (ha : CR I w a u) (hb : CR I w b v) (hk : kindB a = kindB b) (h0 : kindB a ≠ 0) : keq a b = true ↔ u = v := by
  cases ha with
  | int k n => cases hb with
    | int k' n' =>
      have e1 : k = .i64 := by cases k <;> simp [kindB] at h0 <;> rfl
      have e2 : k' = .i64 := by subst e1; cases k' <;> simp [kindB] at hk <;> rfl
      subst e1; subst e2
      simp [keq]
    | _ => simp [keq]
  | str l => cases hb with
    | str l' => simp [keq]
    | _ => simp [keq]
  | bool b => exact absurd rfl h0
  | nil => exact absurd rfl h0
  | sl0 s f => exact absurd rfl h0
  | sl a c vs hl hv hc hf hI hw hh => exact absurd rfl h0
theorem MapR.tl {I : Nat → Prop} {w : World} {kd : Nat} {x : CV × CV} {es : List (CV × CV)} {m : MapEntry} {l : List MapEntry} (h : MapR I w kd (x :: es) (m :: l)) : (kindB x.1 = kd ∧ CR I w x.1 m.key ∧ CR I w x.2 m.val) ∧ MapR I w kd es l :=
  ⟨h.2 0 x m rfl rfl, by simpa using h.1, fun j y n hy hn => h.2 (j + 1) y n (by simpa using hy) (by simpa using hn)⟩
theorem sameNow_key {I : Nat → Prop} {w : World} {d : TypeDesc} {a b : CV} {u v : Value} (ha : CR I w a u) (hb : CR I w b v) (h1 : kindB a = kindT d) (h2 : kindB b = kindT d) (h0 : kindT d ≠ 0) : Instr.sameNow d u v = some (keq a b) := by
  obtain ⟨r, hr, hiff⟩ := sameNow_of_keys (isKey_of ha h1 h0) (isKey_of hb h2 h0)
  rw [hr]
  have := keq_iff ha hb (h1.trans h2.symm) (by rw [h1]; exact h0)
  cases r <;> cases hq : keq a b <;> simp_all
theorem findNow_mget {I : Nat → Prop} {w : World} {d : TypeDesc} {k : CV} {kv : Value} (hk : CR I w k kv) (h1 : kindB k = kindT d) (h0 : kindT d ≠ 0) : ∀ {es : List (CV × CV)} {l : List MapEntry} (i : Nat), MapR I w (kindT d) es l →
    (Instr.findNow d kv l i = some none ∧ mget es k = none ∧ ∀ v, mput es k v = es ++ [(k, v)]) ∨
    ∃ j m v, Instr.findNow d kv l i = some (some (i + j, m.val)) ∧ l[j]? = some m ∧ m.key = kv ∧ mget es k = some v ∧ CR I w v m.val ∧ j < es.length ∧ ∀ v, mput es k v = es.set j (k, v)
  | [], [], i, _ => .inl ⟨rfl, rfl, fun _ => rfl⟩
  | [], _ :: _, i, h => by have := h.1; simp at this
  | _ :: _, [], i, h => by have := h.1; simp at this
  | (a, b) :: es, m :: l, i, h => by
    obtain ⟨⟨g1, g2, g3⟩, hr⟩ := h.tl
    have hs := sameNow_key hk g2 h1 g1 h0
    have hiff := keq_iff hk g2 (h1.trans g1.symm) (by rw [h1]; exact h0)
    cases hq : keq k a with
    | true =>
      rw [hq] at hs
      exact .inr ⟨0, m, b, by simp [Instr.findNow, hs], rfl, (hiff.1 hq).symm, by simp [mget, hq], g3, by simp, fun v => by simp [mput, hq]⟩
    | false =>
      rw [hq] at hs
      rcases findNow_mget hk h1 h0 (i + 1) hr with ⟨e1, e2, e3⟩ | ⟨j, m', v, e1, e2, e3, e4, e5, e6, e7⟩
      · exact .inl ⟨by simp [Instr.findNow, hs, e1], by simp [mget, hq, e2], fun v => by simp [mput, hq, e3]⟩
      · exact .inr ⟨j + 1, m', v, by simp [Instr.findNow, hs, e1]; omega, by simpa using e2, e3, by simp [mget, hq, e4], e5, by simp; omega, fun v => by simp [mput, hq, e7]⟩
def okV (ok : Bool) (v : SV) (b : Bool) : SV :=
  match ok with
  | true => .tuple [v, .bool b]
  | false => v
def lookupK (Γ : Ty) (H : List LObj) (t : TypeId) (x i : SV) (ok : Bool) (c : SV → Prop) : Prop :=
  match x with
  | .mp b => match H[b]? with
    | some (.map kd es) => match look Γ t with
      | some ⟨.map kt et, _, _, _⟩ => match look Γ kt, look Γ et with
        | some tk, some te => downK i fun k => match Nat.beq (kindB k) kd, Nat.beq (kindT tk.d) kd, Nat.beq kd 0 with
          | true, true, false => ∃ r, mget es k = r ∧ match r with
            | some v => c (okV ok v.up true)
            | none => c (okV ok (ofV te.zero) false)
          | _, _, _ => False
        | _, _ => False
      | _ => False
    | _ => False
  | _ => False
theorem VR.okV_ {E : Env} {w : World} {v : SV} {u : Value} (ok b : Bool) (h : VR E w v u) : VR E w (okV ok v b) (if ok then .tuple #[u, .bool b] else u) := by
  cases ok
  · exact h
  · refine .tuple [u, .bool b] rfl fun j x y hx hy => ?_
    match j with
    | 0 => cases hx; cases hy; exact h
    | 1 => cases hx; cases hy; exact .bool b
    | j + 2 => simp at hx
theorem lookupK_sound {P : Program} {Γ : Ty} (hΓ : TyOk P Γ) {E : Env} {H : List LObj} {w : World} {t : TypeId} {x i : SV} {u v : Value} {ok : Bool} {c : SV → Prop}
    (hr : Rel E H w) (hx : VR E w x u) (hi : VR E w i v) (h : lookupK Γ H t x i ok c) : PureRun P E w (Instr.lookup t u v ok) c := by
  unfold lookupK at h
  split at h
  case h_2 => exact h.elim
  rename_i b
  cases hx
  case mp hb0 =>
  split at h
  case h_2 => exact h.elim
  rename_i kd es hb
  obtain ⟨ents, clock, hh, hm⟩ := hr.obj b _ hb
  split at h
  case h_2 => exact h.elim
  rename_i kt et _ _ _ ht
  split at h
  case h_2 => exact h.elim
  rename_i tk te hk he
  have h9 := downK_out hi h
  clear h
  obtain ⟨k, h, hkr⟩ := h9
  split at h
  case h_2 => exact h.elim
  rename_i q1 q2 q3
  have q1 := Nat.eq_of_beq_eq_true q1
  have q2 := Nat.eq_of_beq_eq_true q2
  have h0 : kindT tk.d ≠ 0 := by
    intro e
    rw [e] at q2
    subst q2
    simp at q3
  subst q2
  have ut := run_und hΓ ht
  have uk := run_und hΓ hk
  have hz := run_zeroValue hΓ he w
  obtain ⟨r, hr', h⟩ := h
  rcases findNow_mget hkr q1 h0 0 hm with ⟨e1, e2, e3⟩ | ⟨j, m, v', e1, e2, e3, e4, e5, e6, e7⟩
  · rw [e2] at hr'
    subst hr'
    refine .mk' (x := okV ok (ofV te.zero) false) (v := if ok then .tuple #[te.zero, .bool false] else te.zero) ?_ h (.okV_ ok false (.ofV E w te.zero))
    cases ok <;> simp [Instr.lookup, run_underlying' ut, MapKept.run_getObj_map hh, MapKept.run_checkKey uk (isKey_of hkr q1 h0), MapKept.run_findKey uk e1, hz, Result.andThen]
  · rw [e4] at hr'
    subst hr'
    refine .mk' (x := okV ok v'.up true) (v := if ok then .tuple #[m.val, .bool true] else m.val) ?_ h (.okV_ ok true e5.up)
    cases ok <;> simp [Instr.lookup, run_underlying' ut, MapKept.run_getObj_map hh, MapKept.run_checkKey uk (isKey_of hkr q1 h0), MapKept.run_findKey uk e1, Result.andThen]
def mputK (Γ : Ty) (H : List LObj) (t : TypeId) (x i v : SV) (c : List LObj → Prop) : Prop :=
  match x with
  | .mp b => match H[b]? with
    | some (.map kd es) => match look Γ t with
      | some ⟨.map kt et, _, _, _⟩ => match look Γ kt with
        | some tk => downK i fun k => downK v fun y => match Nat.beq (kindB k) kd, Nat.beq (kindT tk.d) kd, Nat.beq kd 0 with
          | true, true, false => hsetK H b (.map kd (mput es k y)) c
          | _, _, _ => False
        | _ => False
      | _ => False
    | _ => False
  | _ => False
theorem mputK_sound {P : Program} {Γ : Ty} (hΓ : TyOk P Γ) {E : Env} {H : List LObj} {w : World} {t : TypeId} {x i y : SV} {u v z : Value} {c : List LObj → Prop}
    (hr : Rel E H w) (hx : VR E w x u) (hi : VR E w i v) (hy : VR E w y z) (h : mputK Γ H t x i y c) :
    ∃ w' H', (Instr.mapUpdate t u v z).run P w = .ok () w' ∧ c H' ∧ Rel E H' w' ∧ Step E H w E H' w' ∧ ∀ b, E.I b → w'.heap[b]? = w.heap[b]? := by
  unfold mputK at h
  split at h
  case h_2 => exact h.elim
  rename_i b
  cases hx
  case mp hb0 =>
  split at h
  case h_2 => exact h.elim
  rename_i kd es hb
  obtain ⟨ents, clock, hh, hm⟩ := hr.obj b _ hb
  split at h
  case h_2 => exact h.elim
  rename_i kt et _ _ _ ht
  split at h
  case h_2 => exact h.elim
  rename_i tk hk
  have h9 := downK_out hi h
  clear h
  obtain ⟨k, h, hkr⟩ := h9
  have h8 := downK_out hy h
  clear h
  obtain ⟨y', h, hyr⟩ := h8
  split at h
  case h_2 => exact h.elim
  rename_i q1 q2 q3
  have q1 := Nat.eq_of_beq_eq_true q1
  have q2 := Nat.eq_of_beq_eq_true q2
  have h0 : kindT tk.d ≠ 0 := by
    intro e
    rw [e] at q2
    subst q2
    simp at q3
  subst q2
  rw [hsetK_eq] at h
  have ut := run_und hΓ ht
  have uk := run_und hΓ hk
  have ik := isKey_of hkr q1 h0
  have turn : ∀ (ents' : Array MapEntry) (clock' : Nat), MapR E.I w (kindT tk.d) (mput es k y') ents'.toList →
      let w' : World := { w with heap := w.heap.setIfInBounds (E.b b) (.map ents' clock') }
      Rel E (H.set b (.map (kindT tk.d) (mput es k y'))) w' ∧ Step E H w E (H.set b (.map (kindT tk.d) (mput es k y'))) w' ∧ ∀ b, E.I b → w'.heap[b]? = w.heap[b]? := by
    intro ents' clock' hm' w'
    refine Rel.turn (w' := w') hr hb ⟨by simp [w'], rfl, rfl, rfl⟩ (fun d hd hne => (heap_set hh).2 d fun e => hne (by rw [e]; rfl)) (fun d hd => hd) (fun hkI => ?_)
    exact ⟨ents', clock', (heap_set hh).1, hm'.kept (fun _ h => h) hkI⟩
  rcases findNow_mget hkr q1 h0 0 hm with ⟨e1, e2, e3⟩ | ⟨j, m, v', e1, e2, e3, e4, e5, e6, e7⟩
  · have hm' : MapR E.I w (kindT tk.d) (mput es k y') (ents.push { key := v, val := z, born := clock }).toList := by
      rw [e3, Array.toList_push]
      refine ⟨by simp [hm.1], fun j x m hx hm2 => ?_⟩
      rcases Nat.lt_or_ge j es.length with hlt | hge
      · rw [List.getElem?_append_left hlt] at hx
        rw [List.getElem?_append_left (by rw [hm.1]; exact hlt)] at hm2
        exact hm.2 j x m hx hm2
      · rw [List.getElem?_append_right hge] at hx
        rw [List.getElem?_append_right (by rw [hm.1]; exact hge), hm.1] at hm2
        cases hj : j - es.length with
        | zero => rw [hj] at hx hm2; cases hx; cases hm2; exact ⟨q1, hkr, hyr⟩
        | succ n => rw [hj] at hx; simp at hx
    obtain ⟨t1, t2, t3⟩ := turn _ (clock + 1) hm'
    refine ⟨_, _, ?_, h, t1, t2, t3⟩
    simp [Instr.mapUpdate, run_underlying' ut, MapKept.run_getObj_map hh, MapKept.run_checkKey uk ik, MapKept.run_findKey uk e1, MapKept.run_setObj_map _ hh, Result.andThen]
  · have hj : ents[j]? = some m := by simpa using e2
    have hm' : MapR E.I w (kindT tk.d) (mput es k y') (ents.modify j fun e => { e with key := v, val := z }).toList := by
      rw [e7]
      refine ⟨by simp [hm.1], fun i x n hx hn => ?_⟩
      rw [List.getElem?_set] at hx
      simp only [Array.getElem?_toList, Array.getElem?_modify] at hn
      by_cases hij : j = i
      · subst hij
        simp only [if_true, e6] at hx
        simp only [if_true, hj, Option.map_some] at hn
        cases hx; cases hn
        exact ⟨q1, hkr, hyr⟩
      · rw [if_neg hij] at hx
        rw [if_neg hij] at hn
        exact hm.2 i x n hx (by simpa using hn)
    obtain ⟨t1, t2, t3⟩ := turn _ clock hm'
    refine ⟨_, _, ?_, h, t1, t2, t3⟩
    rw [Nat.zero_add] at e1
    simp [Instr.mapUpdate, run_underlying' ut, MapKept.run_getObj_map hh, MapKept.run_checkKey uk ik, MapKept.run_findKey uk e1, hj, e3, MapKept.run_keyThatStays ik, MapKept.run_setObj_map _ hh, Result.andThen]
def mmapK (Γ : Ty) (H : List LObj) (t : TypeId) (c : SV → List LObj → Prop) : Prop :=
  match look Γ t with
  | some ⟨.map kt et, _, _, _⟩ => match look Γ kt with
    | some tk => hpushK H (.map (kindT tk.d) []) fun H' => lenK' H 0 fun n => c (.mp n) H'
    | none => False
  | _ => False
theorem mmapK_sound {P : Program} {Γ : Ty} {E : Env} {H : List LObj} {w : World} {t : TypeId} {c : SV → List LObj → Prop}
    (hr : Rel E H w) (h : mmapK Γ H t c) : MemRun P E H w (Instr.makeMap t none) c := by
  unfold mmapK at h
  split at h
  case h_2 => exact h.elim
  split at h
  case h_2 => exact h.elim
  rename_i tk hk
  rw [hpushK_eq, lenK'_eq, Nat.zero_add] at h
  have h1 := Rel.push (w' := { w with heap := w.heap.push (.map #[] 0) }) hr none w.heap.size .nilFunc (.map (kindT tk.d) []) ⟨by simp, rfl, rfl, rfl⟩ (fun b hb _ => heap_push w _ b hb) (fun b hb => by
    simp only [foot, Env.add_b] at hb
    cases hb
    exact .inl (Nat.le_refl _)) (fun hkI => ⟨#[], 0, by rw [Env.add_b]; simp, rfl, fun j x m hx => by simp at hx⟩)
  obtain ⟨h1, h2, h3⟩ := h1
  refine ⟨⟨.mp H.length, .map (some w.heap.size), _, _, _, ?_, h, ?_, h1, h2, E.le_add _ _, fun _ h => h, h3⟩⟩
  · rfl
  · have := VR.mp (E := E.add w.heap.size .nilFunc) (w := { w with heap := w.heap.push (.map #[] 0) }) E.n (Nat.lt_succ_self _)
    rw [Env.add_b] at this
    rw [hr.len]
    exact this
def copyK (Γ : Ty) (H : List LObj) (ts : List TypeId) (args : List SV) (c : SV → List LObj → Prop) : Prop :=
  match ts, args with
  | tD :: _, [.slice i off n cap, .slice j off' n' cap'] => match look Γ tD with
    | some ⟨.slice e, _, _, _⟩ => match look Γ e, H[i]?, H[j]? with
      | some te, some (.cells l et), some (.cells l' et') => seqK ((l'.drop off').take (Nat.min n' n * te.size)) fun cs => match allDown cs with
        | true => Need (cs.length = Nat.min n' n * te.size ∧ off + cs.length ≤ l.length) (seqK (wrCells l off cs) fun l2 => hsetK H i (.cells l2 et) fun H' => c (.int .i64 (Nat.min n' n : Nat)) H')
        | false => False
      | _, _, _ => False
    | _ => False
  | _, _ => False
theorem allDown_one : ∀ {l : List SV}, allDown l = true → ∀ x ∈ l, isOne x ∧ ∀ i, x ≠ .own i
  | [], _, x, hx => by cases hx
  | y :: r, h, x, hx => by
    unfold allDown at h
    cases hx with
    | head => split at h <;> first | exact ⟨trivial, fun i e => by cases e⟩ | cases h
    | tail _ hx => split at h <;> first | exact allDown_one h x hx | cases h
theorem copyK_sound {P : Program} {Γ : Ty} (hΓ : TyOk P Γ) {E : Env} {H : List LObj} {w : World} {ts : List TypeId} {T : TypeId} {args : List SV} {vs : List Value} {c : SV → List LObj → Prop}
    (hr : Rel E H w) (hv : VRs E w args vs) (h : copyK Γ H ts args c) : MemRun P E H w (Builtin.copy_ ts.toArray T vs.toArray) c := by
  unfold copyK at h
  split at h
  case h_2 => exact h.elim
  rename_i tD tr i off n cap j off' n' cap'
  split at h
  case h_2 => exact h.elim
  rename_i e _ _ _ htD
  split at h
  case h_2 => exact h.elim
  rename_i te l et l' et' hte hi hj
  rw [seqK_eq] at h
  split at h
  case h_2 => exact h.elim
  rename_i hall
  obtain ⟨⟨g1, g2⟩, h⟩ := h
  rw [seqK_eq, hsetK_eq] at h
  obtain ⟨u, hu, hu'⟩ := hv.get (j := 0) rfl
  obtain ⟨u2, hu2, hu2'⟩ := hv.get (j := 1) rfl
  have hvs : vs = [u, u2] := by
    have := hv.1
    match vs, this with
    | [a, b], _ => simp at hu hu2; rw [hu, hu2]
  subst hvs
  cases hu'
  case slice hi0 =>
  cases hu2'
  case slice hj0 =>
  have ut := run_und hΓ htD
  have hsz := run_sizeOf' hΓ hte
  obtain ⟨ws, hh, hws, hcell⟩ := hr.cell hj
  have hcut := hws.cut off' (Nat.min n' n * te.size)
  have hlen : ((ws.drop off').take (Nat.min n' n * te.size)).length = Nat.min n' n * te.size := by rw [hcut.1]; exact g1
  have hld : (loadCells ⟨E.b j, off', none⟩ (Nat.min n' n * te.size)).run P w = .ok ((ws.drop off').take (Nat.min n' n * te.size)).toArray w := by
    have := run_loadCells_list (P := P) w ⟨E.b j, off', none⟩ ((ws.drop off').take (Nat.min n' n * te.size)) (fun q v hq => by
      rw [add_plain]
      have := hcell off' q v (by
        rw [List.getElem?_take] at hq
        split at hq
        · rw [List.getElem?_drop] at hq; exact hq
        · cases hq)
      rw [add_plain] at this
      exact this)
    rw [hlen] at this
    exact this
  have hone : ∀ v ∈ (ws.drop off').take (Nat.min n' n * te.size), v.oneCell' = true := by
    intro v hv
    obtain ⟨q, hq⟩ := List.getElem?_of_mem hv
    have hql : q < ((l'.drop off').take (Nat.min n' n * te.size)).length := by rw [← hcut.1]; exact lt_of_get hq
    have hx := List.getElem?_eq_getElem hql
    have ho := allDown_one hall _ (List.mem_of_getElem? hx)
    exact (hcut.2 q _ v hx hq).one ho.1 fun i e => absurd e (ho.2 i)
  obtain ⟨w', r1, r2, r3, r4⟩ := run_writes (P := P) hr hi (cs := (l'.drop off').take (Nat.min n' n * te.size)) hcut hone (off := off) g2
  refine ⟨⟨.int .i64 (Nat.min n' n : Nat), .int .i64 (Nat.min n' n : Nat), w', E, _, ?_, h, .int _ _, r2, r3, .refl E, fun _ h => h, r4⟩⟩
  have hlo : (Builtin.lenOf (.slice (some ⟨E.b j, off', none⟩) n' cap')).run P w = .ok n' w := rfl
  simp only [Builtin.copy_, List.getElem?_toArray, List.getElem?_cons_zero, List.getElem?_cons_succ, Sem.run_bind, run_underlying' ut, Result.andThen_ok, hlo, hsz, Builtin.firstCells, hld, r1, Sem.run_pure]
  rfl
end
end Go.LX
end
