/- Own texts of this claim, in build order: LX. -/
import Derived.Test.YtbnbklbpkpibmaaDoorX1
import Derived.Lib.Builder
import Derived.Laws.Externs
import Derived.LaidEql
import Derived.Laws.Build
import Derived.Laws.StructEq
import Derived.Orders
import Derived.Scope
import Derived.StillTail
import Derived.OpenShut
import Derived.Carry
import Derived.ProofKit
import Derived.Deep.Slices
import Derived.ChangeMaps5
section
set_option autoImplicit false
set_option linter.unusedVariables false
set_option linter.unusedSimpArgs false
set_option linter.unnecessarySimpa false
namespace Go.LX
open Go.RowKit
section

def pos : List Nat → Nat → Nat → Option Nat
  | [], _, _ => none
  | a :: r, i, k => match Nat.beq a i with
    | true => some k
    | false => pos r i (k + 1)
theorem pos_out : ∀ {l : List Nat} {i k j : Nat}, pos l i k = some j → k ≤ j ∧ l[j - k]? = some i
  | [], _, _, _, h => by cases h
  | a :: r, i, k, j, h => by
    rw [pos] at h
    split at h
    · rename_i hb
      cases h
      rw [Nat.eq_of_beq_eq_true hb]
      simp
    · obtain ⟨h1, h2⟩ := pos_out h
      refine ⟨by omega, ?_⟩
      have : j - k = j - (k + 1) + 1 := by omega
      rw [this]
      simpa using h2
mutual
def SV.ren (f : Nat → Option Nat) : SV → SV
  | .ptr i off => match f i with
    | some j => .ptr j off
    | none => .any
  | .slice i off len cap => match f i with
    | some j => .slice j off len cap
    | none => .any
  | .own i => match f i with
    | some j => .own j
    | none => .any
  | .pown i off => match f i with
    | some j => .pown j off
    | none => .any
  | .sub i s lo len => match f i with
    | some j => .sub j s lo len
    | none => .any
  | .opt i off => match f i with
    | some j => .opt j off
    | none => .any
  | .mp i => match f i with
    | some j => .mp j
    | none => .any
  | .agg l => .agg (SV.renL f l)
  | .tuple l => .tuple (SV.renL f l)
  | .func fn l => .func fn (SV.renL f l)
  | .int k n => .int k n
  | .bool b => .bool b
  | .str l => .str l
  | .nil => .nil
  | .nilsl => .nilsl
  | .sl s n cs full => .sl s n cs full
  | .pim cs => .pim cs
  | .nilfunc => .nilfunc
  | .any => .any
def SV.renL (f : Nat → Option Nat) : List SV → List SV
  | [] => []
  | x :: r => x.ren f :: SV.renL f r
end
theorem SV.renL_eq (f : Nat → Option Nat) : ∀ l : List SV, SV.renL f l = l.map (SV.ren f)
  | [] => rfl
  | x :: r => by rw [SV.renL, SV.renL_eq f r]; rfl
def LObj.ren (f : Nat → Option Nat) : LObj → LObj
  | .cells c e => .cells (SV.renL f c) e
  | .own e s n xs wr => .own e s n xs wr
  | .map kd es => .map kd es
  | .gone => .gone
structure Env.Named (E E' : Env) (f : Nat → Option Nat) : Prop where
  lt : ∀ i j, i < E.n → f i = some j → j < E'.n
  b : ∀ i j, i < E.n → f i = some j → E'.b j = E.b i
  v : ∀ i j, i < E.n → f i = some j → E'.v j = E.v i
  I : ∀ b, E.I b → E'.I b
theorem VR.ren {E E' : Env} {w : World} {f : Nat → Option Nat} (hf : E.Named E' f) {x : SV} {v : Value} (h : VR E w x v) : VR E' w (x.ren f) v := by
  induction h with
  | int k n => rw [SV.ren]; exact .int k n
  | bool b => rw [SV.ren]; exact .bool b
  | str l => rw [SV.ren]; exact .str l
  | nil => rw [SV.ren]; exact .nil
  | nilsl => rw [SV.ren]; exact .nilsl
  | sl h => rw [SV.ren]; exact .sl (h.kept hf.I fun _ _ => rfl)
  | pnull => rw [SV.ren]; exact .pnull
  | pim a vs hv hI hw h => rw [SV.ren]; exact .pim a vs hv (fun h0 => hf.I _ (hI h0)) hw fun j x v hx hv => (h j x v hx hv).kept hf.I fun _ _ => rfl
  | ptr i off hi =>
    rw [SV.ren]
    split
    · rename_i j hj
      rw [← hf.b i j hi hj]
      exact .ptr j off (hf.lt i j hi hj)
    · exact .any _
  | slice i off len cap hi =>
    rw [SV.ren]
    split
    · rename_i j hj
      rw [← hf.b i j hi hj]
      exact .slice j off len cap (hf.lt i j hi hj)
    · exact .any _
  | own i hi =>
    rw [SV.ren]
    split
    · rename_i j hj
      rw [← hf.v i j hi hj]
      exact .own j (hf.lt i j hi hj)
    · exact .any _
  | pown i off b n c hi h =>
    rw [SV.ren]
    split
    · rename_i j hj
      exact .pown j off b n c (hf.lt i j hi hj) (by rw [hf.v i j hi hj]; exact h)
    · exact .any _
  | sub i s lo len b n c o hi h hl ho h0 =>
    rw [SV.ren]
    split
    · rename_i j hj
      exact .sub j s lo len b n c o (hf.lt i j hi hj) (by rw [hf.v i j hi hj]; exact h) hl ho h0
    · exact .any _
  | subN i s hi h =>
    rw [SV.ren]
    split
    · rename_i j hj
      exact .subN j s (hf.lt i j hi hj) (by rw [hf.v i j hi hj]; exact h)
    · exact .any _
  | optN i off =>
    rw [SV.ren]
    split
    · exact .optN _ off
    · exact .any _
  | optS i off hi =>
    rw [SV.ren]
    split
    · rename_i j hj
      rw [← hf.b i j hi hj]
      exact .optS j off (hf.lt i j hi hj)
    · exact .any _
  | mp i hi =>
    rw [SV.ren]
    split
    · rename_i j hj
      rw [← hf.b i j hi hj]
      exact .mp j (hf.lt i j hi hj)
    · exact .any _
  | agg vs hl h ih =>
    rw [SV.ren, SV.renL_eq]
    refine .agg vs (by simpa using hl) fun j x v hx hv => ?_
    rw [List.getElem?_map, Option.map_eq_some_iff] at hx
    obtain ⟨y, hy, rfl⟩ := hx
    exact ih j y v hy hv
  | tuple vs hl h ih =>
    rw [SV.ren, SV.renL_eq]
    refine .tuple vs (by simpa using hl) fun j x v hx hv => ?_
    rw [List.getElem?_map, Option.map_eq_some_iff] at hx
    obtain ⟨y, hy, rfl⟩ := hx
    exact ih j y v hy hv
  | func vs hl h ih =>
    rw [SV.ren, SV.renL_eq]
    refine .func vs (by simpa using hl) fun j x v hx hv => ?_
    rw [List.getElem?_map, Option.map_eq_some_iff] at hx
    obtain ⟨y, hy, rfl⟩ := hx
    exact ih j y v hy hv
  | nilfunc => rw [SV.ren]; exact .nilfunc
  | any v => rw [SV.ren]; exact .any v
theorem VRs.ren {E E' : Env} {w : World} {f : Nat → Option Nat} (hf : E.Named E' f) {l : List SV} {vs : List Value} (h : VRs E w l vs) : VRs E' w (SV.renL f l) vs := by
  rw [SV.renL_eq]
  refine ⟨by simpa using h.1, fun j x v hx hv => ?_⟩
  rw [List.getElem?_map, Option.map_eq_some_iff] at hx
  obtain ⟨y, hy, rfl⟩ := hx
  exact (h.2 j y v hy hv).ren hf
theorem ObjR.ren {E E' : Env} {w : World} {f : Nat → Option Nat} (hf : E.Named E' f) {i j : Nat} (hi : i < E.n) (hj : f i = some j) {o : LObj} (h : ObjR E w i o) : ObjR E' w j (o.ren f) := by
  cases o with
  | cells c e =>
    obtain ⟨vs, h1, h2⟩ := h
    exact ⟨vs, by rw [hf.b i j hi hj]; exact h1, h2.ren hf⟩
  | own e s n xs wr =>
    show OwnR _ _ _ _ _ _ _ _
    rw [hf.v i j hi hj]
    exact OwnR.kept hf.I (fun _ _ => rfl) (fun _ _ => rfl) h
  | map kd es =>
    obtain ⟨ents, clock, h1, h2⟩ := h
    exact ⟨ents, clock, by rw [hf.b i j hi hj]; exact h1, h2.kept hf.I (fun _ _ => rfl)⟩
  | gone => trivial
theorem foot_ren {E E' : Env} {f : Nat → Option Nat} (hf : E.Named E' f) {i j : Nat} (hi : i < E.n) (hj : f i = some j) (o : LObj) : foot E' j (o.ren f) = foot E i o := by
  cases o with
  | cells c e => simp only [LObj.ren, foot, hf.b i j hi hj]
  | own e s n xs wr => simp only [LObj.ren, foot, hf.v i j hi hj]
  | map kd es => simp only [LObj.ren, foot, hf.b i j hi hj]
  | gone => rfl
def nodupB : List Nat → Bool
  | [] => true
  | a :: r => match pos r a 0 with
    | some _ => false
    | none => nodupB r
theorem pos_none : ∀ {l : List Nat} {i k : Nat}, pos l i k = none → ∀ x ∈ l, x ≠ i
  | [], _, _, _, x, hx => by cases hx
  | a :: r, i, k, h, x, hx => by
    rw [pos] at h
    split at h
    · cases h
    · rename_i hb
      cases hx with
      | head => intro e; subst e; simp at hb
      | tail _ hx => exact pos_none h x hx
theorem nodupB_out : ∀ {l : List Nat}, nodupB l = true → ∀ (i j : Nat) x, l[i]? = some x → l[j]? = some x → i = j
  | [], _, i, j, x, hi, _ => by simp at hi
  | a :: r, h, i, j, x, hi, hj => by
    rw [nodupB] at h
    split at h
    · cases h
    · rename_i hp
      have hne := pos_none hp
      cases i with
      | zero =>
        cases j with
        | zero => rfl
        | succ j =>
          cases hi
          exact absurd rfl (hne _ (List.mem_of_getElem? (by simpa using hj)))
      | succ i =>
        cases j with
        | zero =>
          cases hj
          exact absurd rfl (hne _ (List.mem_of_getElem? (by simpa using hi)))
        | succ j => exact congrArg _ (nodupB_out h i j x (by simpa using hi) (by simpa using hj))
def allLt (n : Nat) : List Nat → Bool
  | [] => true
  | a :: r => match Nat.blt a n with
    | true => allLt n r
    | false => false
theorem allLt_out {n : Nat} : ∀ {l : List Nat}, allLt n l = true → ∀ x ∈ l, x < n
  | [], _, x, hx => by cases hx
  | a :: r, h, x, hx => by
    rw [allLt] at h
    split at h
    · rename_i hb
      cases hx with
      | head => simpa [Nat.blt_eq] using hb
      | tail _ hx => exact allLt_out h x hx
    · cases h
def sub (H : List LObj) (idx : List Nat) (f : Nat → Option Nat) : List Nat → List LObj
  | [] => []
  | i :: r => ((H[i]?).getD .gone).ren f :: sub H idx f r
theorem sub_get {H : List LObj} {idx : List Nat} {f : Nat → Option Nat} : ∀ {l : List Nat} {k : Nat} {o : LObj}, (sub H idx f l)[k]? = some o → ∃ i, l[k]? = some i ∧ o = ((H[i]?).getD .gone).ren f
  | [], k, o, h => by simp [sub] at h
  | i :: r, 0, o, h => by
    simp [sub] at h
    exact ⟨i, rfl, h.symm⟩
  | i :: r, k + 1, o, h => by
    simp only [sub, List.getElem?_cons_succ] at h
    simpa using sub_get h
theorem sub_length (H : List LObj) (idx : List Nat) (f : Nat → Option Nat) : ∀ l, (sub H idx f l).length = l.length
  | [] => rfl
  | i :: r => by simp [sub, sub_length H idx f r]
def backF (n : Nat) (idx : List Nat) (k : Nat) : Option Nat :=
  match idx[k]? with
  | some i => some i
  | none => some (n + (k - idx.length))
def setAll (H : List LObj) (g : Nat → Option Nat) : List Nat → List LObj → List LObj
  | i :: r, o :: os => setAll (H.set i (o.ren g)) g r os
  | _, _ => H
def merge (H : List LObj) (idx : List Nat) (H' : List LObj) : List LObj :=
  setAll H (backF H.length idx) idx (H'.take idx.length) ++ (H'.drop idx.length).map (LObj.ren (backF H.length idx))
def lits : List Nat := [0, 1, 2, 3, 4, 5, 6, 7, 8, 9, 10, 11, 12, 13, 14, 15, 16, 17, 18, 19, 20, 21, 22, 23, 24, 25, 26, 27, 28, 29, 30, 31, 32, 33, 34, 35, 36, 37, 38, 39, 40, 41, 42, 43, 44, 45, 46, 47, 48, 49, 50, 51, 52, 53, 54, 55, 56, 57, 58, 59, 60, 61, 62, 63, 64, 65, 66, 67, 68, 69, 70, 71, 72, 73, 74, 75, 76, 77, 78, 79]
def litK : List Nat → Nat → (Nat → Prop) → Prop
  | [], i, k => k i
  | c :: r, i, k => match Nat.beq c i with
    | true => k c
    | false => litK r i k
theorem litK_eq : ∀ (l : List Nat) (i : Nat) (k : Nat → Prop), litK l i k = k i
  | [], _, _ => rfl
  | c :: r, i, k => by
    rw [litK]
    split
    · rename_i hb; rw [← Nat.eq_of_beq_eq_true hb]
    · exact litK_eq r i k
def norm1 (v : SV) (k : SV → Prop) : Prop :=
  match v with
  | .int a b => k (.int a b)
  | .bool a => k (.bool a)
  | .str a => k (.str a)
  | .nil => k .nil
  | .nilsl => k .nilsl
  | .sl a b c d => k (.sl a b c d)
  | .pim a => k (.pim a)
  | .ptr a b => litK lits a fun a => k (.ptr a b)
  | .slice a b c d => litK lits a fun a => k (.slice a b c d)
  | .own a => litK lits a fun a => k (.own a)
  | .pown a b => litK lits a fun a => k (.pown a b)
  | .sub a b c d => litK lits a fun a => k (.sub a b c d)
  | .opt a b => litK lits a fun a => k (.opt a b)
  | .mp a => litK lits a fun a => k (.mp a)
  | .agg a => k (.agg a)
  | .tuple a => k (.tuple a)
  | .func a b => k (.func a b)
  | .nilfunc => k .nilfunc
  | .any => k .any
theorem norm1_eq (v : SV) (k : SV → Prop) : norm1 v k = k v := by cases v <;> simp only [norm1, litK_eq]
def norms : List SV → (List SV → Prop) → Prop
  | [], k => k []
  | x :: r, k => norm1 x fun x => norms r fun r => k (x :: r)
theorem norms_eq : ∀ (l : List SV) (k : List SV → Prop), norms l k = k l
  | [], _ => rfl
  | x :: r, k => by rw [norms, norm1_eq, norms_eq r]
def normK (v : SV) (k : SV → Prop) : Prop :=
  match v with
  | .int a b => k (.int a b)
  | .bool a => k (.bool a)
  | .str a => k (.str a)
  | .nil => k .nil
  | .nilsl => k .nilsl
  | .sl a b c d => k (.sl a b c d)
  | .pim a => k (.pim a)
  | .ptr a b => litK lits a fun a => k (.ptr a b)
  | .slice a b c d => litK lits a fun a => k (.slice a b c d)
  | .own a => litK lits a fun a => k (.own a)
  | .pown a b => litK lits a fun a => k (.pown a b)
  | .sub a b c d => litK lits a fun a => k (.sub a b c d)
  | .opt a b => litK lits a fun a => k (.opt a b)
  | .mp a => litK lits a fun a => k (.mp a)
  | .agg a => k (.agg a)
  | .tuple a => norms a fun a => k (.tuple a)
  | .func a b => norms b fun b => k (.func a b)
  | .nilfunc => k .nilfunc
  | .any => k .any
theorem normK_eq (v : SV) (k : SV → Prop) : normK v k = k v := by cases v <;> simp only [normK, litK_eq, norms_eq]
def normL : List SV → (List SV → Prop) → Prop
  | [], k => k []
  | x :: r, k => normK x fun x => normL r fun r => k (x :: r)
theorem normL_eq : ∀ (l : List SV) (k : List SV → Prop), normL l k = k l
  | [], _ => rfl
  | x :: r, k => by rw [normL, normK_eq, normL_eq r]
def normO (o : LObj) (k : LObj → Prop) : Prop :=
  match o with
  | .cells c e => normL c fun c => k (.cells c e)
  | .own e s n xs wr => k (.own e s n xs wr)
  | .map kd es => k (.map kd es)
  | .gone => k .gone
theorem normO_eq (o : LObj) (k : LObj → Prop) : normO o k = k o := by cases o <;> simp only [normO, normL_eq]
def normH : List LObj → (List LObj → Prop) → Prop
  | [], k => k []
  | o :: r, k => normO o fun o => normH r fun r => k (o :: r)
theorem normH_eq : ∀ (H : List LObj) (k : List LObj → Prop), normH H k = k H
  | [], _ => rfl
  | a :: r, k => by rw [normH, normO_eq, normH_eq r]
def mergeN (n : Nat) (H : List LObj) (idx : List Nat) (H' : List LObj) : List LObj :=
  setAll H (backF n idx) idx (H'.take idx.length) ++ (H'.drop idx.length).map (LObj.ren (backF n idx))
def callK (S : Spec) (idx : List Nat) (args : List SV) (H : List LObj) (k : SV → List LObj → Prop) : Prop :=
  match nodupB idx, allLt H.length idx with
  | true, true => lenK' H 0 fun n => litK lits n fun n => normL (SV.renL (fun i => pos idx i 0) args) fun as => normH (sub H idx (fun i => pos idx i 0) idx) fun Hs =>
    S as Hs fun r H' => normH (mergeN n H idx H') fun H2 => normK (r.ren (backF n idx)) fun r => k r H2
  | _, _ => False
theorem setAll_get {g : Nat → Option Nat} : ∀ {idx : List Nat} {os H : List LObj} {i : Nat} {o : LObj}, (setAll H g idx os)[i]? = some o →
    (∃ k : Nat, idx[k]? = some i ∧ ∃ o', os[k]? = some o' ∧ o = o'.ren g) ∨ ((∀ k : Nat, idx[k]? = some i → os.length ≤ k) ∧ H[i]? = some o)
  | [], os, H, i, o, h => by
    rw [setAll] at h
    · exact .inr ⟨fun k hk => by simp at hk, h⟩
    · intro _ _ _ _ hc; cases hc
  | a :: r, [], H, i, o, h => by
    rw [setAll] at h
    · exact .inr ⟨fun k hk => Nat.zero_le _, h⟩
    · intro _ _ _ _ _ hc; cases hc
  | a :: r, o1 :: os, H, i, o, h => by
    rw [setAll] at h
    rcases setAll_get h with ⟨k, h1, o', h2, h3⟩ | ⟨h1, h2⟩
    · exact .inl ⟨k + 1, by simpa using h1, o', by simpa using h2, h3⟩
    · rw [List.getElem?_set] at h2
      split at h2
      · rename_i he
        subst he
        split at h2
        · cases h2
          exact .inl ⟨0, rfl, o1, rfl, rfl⟩
        · cases h2
      · rename_i hne
        refine .inr ⟨fun k hk => ?_, h2⟩
        cases k with
        | zero => cases hk; exact absurd rfl hne
        | succ k => have := h1 k (by simpa using hk); simp; omega
theorem setAll_length {g : Nat → Option Nat} : ∀ (idx : List Nat) (os H : List LObj), (setAll H g idx os).length = H.length
  | [], os, H => by rw [setAll]; intro _ _ _ _ hc; cases hc
  | a :: r, [], H => by rw [setAll]; intro _ _ _ _ _ hc; cases hc
  | a :: r, o1 :: os, H => by rw [setAll, setAll_length r os]; simp
theorem call_sound {P : Program} {G : Gl} {f : FuncId} {S : Spec} (hm : Meets P G f S) {E : Env} {H : List LObj} {w : World} (hr : Rel E H w) (hg : GlOk E w G) {args : List SV} {vs : List Value} (ha : VRs E w args vs)
    {idx : List Nat} {k : SV → List LObj → Prop} (h : callK S idx args H k) :
    Calls P f vs.toArray w fun e w' => ∃ v r H' E', e = .returned v ∧ k r H' ∧ VR E' w' r v ∧ Rel E' H' w' ∧ Step E H w E' H' w' ∧ E.Le E' := by
  unfold callK at h
  split at h
  case h_2 => exact h.elim
  rename_i hnd hlt
  rw [lenK'_eq, Nat.zero_add, litK_eq, normL_eq, normH_eq] at h
  have hnd := nodupB_out hnd
  have hlt := allLt_out hlt
  have hlt' : ∀ (k : Nat) i, idx[k]? = some i → i < E.n := fun k i hk => by rw [← hr.len]; exact hlt i (List.mem_of_getElem? hk)
  let E0 : Env := ⟨idx.length, fun k => E.b (idx.getD k 0), fun k => E.v (idx.getD k 0), E.I⟩
  have hgetD : ∀ (k i : Nat), idx[k]? = some i → idx.getD k 0 = i := fun k i hk => by rw [List.getD_eq_getElem?_getD, hk]; rfl
  have nam : E.Named E0 (fun i => pos idx i 0) := by
    have hp : ∀ i j, pos idx i 0 = some j → idx[j]? = some i := fun i j hj => by simpa using (pos_out hj).2
    exact ⟨fun i j _ hj => lt_of_get (hp i j hj), fun i j _ hj => congrArg E.b (hgetD j i (hp i j hj)), fun i j _ hj => congrArg E.v (hgetD j i (hp i j hj)), fun _ h => h⟩
  have hposof : ∀ (k i : Nat), idx[k]? = some i → pos idx i 0 = some k := by
    intro k i hk
    cases hq : pos idx i 0 with
    | none => exact absurd rfl (pos_none hq i (List.mem_of_getElem? hk))
    | some j =>
      have h1 := (pos_out hq).2
      rw [Nat.sub_zero] at h1
      exact congrArg some (hnd j k i h1 hk)
  let H0 := sub H idx (fun i => pos idx i 0) idx
  have hsub : ∀ (k : Nat) o, H0[k]? = some o → ∃ i, idx[k]? = some i ∧ ((∃ o', H[i]? = some o' ∧ o = o'.ren (fun i => pos idx i 0))) := by
    intro k o hk
    obtain ⟨i, h1, h2⟩ := sub_get hk
    refine ⟨i, h1, ?_⟩
    have hil := hlt i (List.mem_of_getElem? h1)
    rw [List.getElem?_eq_getElem hil] at h2
    exact ⟨H[i], List.getElem?_eq_getElem hil, h2⟩
  have hin0 : ∀ b, InFoot E0 H0 b → ∃ (i k : Nat) (o : LObj), idx[k]? = some i ∧ H[i]? = some o ∧ foot E i o = some b := by
    rintro b ⟨k, o, hk, hf⟩
    obtain ⟨i, h1, o', h2, rfl⟩ := hsub k o hk
    exact ⟨i, k, o', h1, h2, by rw [← foot_ren nam (hlt' k i h1) (hposof k i h1)]; exact hf⟩
  have hr0 : Rel E0 H0 w := by
    refine ⟨sub_length _ _ _ _, ?_, ?_, ?_, hr.ltI⟩
    · intro k o hk
      obtain ⟨i, h1, o', h2, rfl⟩ := hsub k o hk
      exact ObjR.ren nam (hlt' k i h1) (hposof k i h1) (hr.obj i o' h2)
    · intro k k' o o' b hne hk hk' hf hf'
      obtain ⟨i, h1, o1, h2, rfl⟩ := hsub k o hk
      obtain ⟨i', h1', o1', h2', rfl⟩ := hsub k' o' hk'
      rw [foot_ren nam (hlt' k i h1) (hposof k i h1)] at hf
      rw [foot_ren nam (hlt' k' i' h1') (hposof k' i' h1')] at hf'
      refine hr.sep i i' o1 o1' b ?_ h2 h2' hf hf'
      rintro rfl
      exact hne (hnd k k' i h1 h1')
    · intro b hb
      obtain ⟨i, k, o, _, h2, h3⟩ := hin0 b hb
      exact hr.imm b ⟨i, o, h2, h3⟩
  have hg0 : GlOk E0 w G := ⟨hg.ok⟩
  have ha0 : VRs E0 w (SV.renL (fun i => pos idx i 0) args) vs := ha.ren nam
  refine (hm _ _ _ h E0 w vs ha0 hr0 hg0).mono ?_
  rintro e w' ⟨v, r, H1, E1, rfl, hk, hv, hr1, hst, le1⟩
  rw [normH_eq, normK_eq] at hk
  have hmg : mergeN H.length H idx H1 = merge H idx H1 := rfl
  rw [hmg] at hk
  have hn1 : idx.length ≤ E1.n := le1.n
  let E' : Env := ⟨E.n + (E1.n - idx.length), fun i => if i < E.n then E.b i else E1.b (i - E.n + idx.length), fun i => if i < E.n then E.v i else E1.v (i - E.n + idx.length), E1.I⟩
  have le : E.Le E' := ⟨Nat.le_add_right _ _, fun i hi => if_pos hi, fun i hi => if_pos hi⟩
  have hback : ∀ (k j : Nat), backF H.length idx k = some j → (k < idx.length ∧ idx[k]? = some j) ∨ (idx.length ≤ k ∧ j = E.n + (k - idx.length)) := by
    intro k j hj
    unfold backF at hj
    split at hj
    · rename_i i hi
      cases hj
      exact .inl ⟨lt_of_get hi, hi⟩
    · rename_i hi
      have : idx.length ≤ k := by simpa using hi
      cases hj
      exact .inr ⟨this, by rw [hr.len]⟩
  have namb : E1.Named E' (backF H.length idx) := by
    refine ⟨fun k j hkn hj => ?_, fun k j hkn hj => ?_, fun k j hkn hj => ?_, fun _ h => h⟩
    · rcases hback k j hj with ⟨h1, h2⟩ | ⟨h1, h2⟩
      · have := hlt' k j h2
        show j < E.n + _
        omega
      · show j < E.n + _
        omega
    · rcases hback k j hj with ⟨h1, h2⟩ | ⟨h1, h2⟩
      · have h3 : E'.b j = E.b j := if_pos (hlt' k j h2)
        rw [h3, le1.b k h1]
        exact congrArg E.b (hgetD k j h2).symm
      · have h3 : E'.b j = E1.b (j - E.n + idx.length) := if_neg (by omega)
        rw [h3]
        congr 1
        omega
    · rcases hback k j hj with ⟨h1, h2⟩ | ⟨h1, h2⟩
      · have h3 : E'.v j = E.v j := if_pos (hlt' k j h2)
        rw [h3, le1.v k h1]
        exact congrArg E.v (hgetD k j h2).symm
      · have h3 : E'.v j = E1.v (j - E.n + idx.length) := if_neg (by omega)
        rw [h3]
        congr 1
        omega
  have hlen1 : H1.length = E1.n := hr1.len
  have hmerge : ∀ (i : Nat) o, (merge H idx H1)[i]? = some o → (∃ k o', k < E1.n ∧ backF H.length idx k = some i ∧ H1[k]? = some o' ∧ o = o'.ren (backF H.length idx)) ∨
      (i < E.n ∧ (∀ k : Nat, idx[k]? ≠ some i) ∧ H[i]? = some o) := by
    intro i o hi
    unfold merge at hi
    rw [List.getElem?_append] at hi
    split at hi
    · rename_i hil
      rw [setAll_length] at hil
      rcases setAll_get hi with ⟨k, h1, o', h2, h3⟩ | ⟨h1, h2⟩
      · have hk : k < idx.length := lt_of_get h1
        rw [List.getElem?_take, if_pos hk] at h2
        exact .inl ⟨k, o', by omega, by unfold backF; rw [h1], h2, h3⟩
      · refine .inr ⟨by rw [← hr.len]; exact hil, fun k hk => ?_, h2⟩
        have := h1 k hk
        have hk' := lt_of_get hk
        simp at this
        omega
    · rename_i hil
      rw [setAll_length] at hi hil
      rw [List.getElem?_map, Option.map_eq_some_iff] at hi
      obtain ⟨o', h1, h2⟩ := hi
      rw [List.getElem?_drop] at h1
      refine .inl ⟨_, o', by rw [← hlen1]; exact lt_of_get h1, ?_, h1, h2.symm⟩
      unfold backF
      have hnone : idx[idx.length + (i - H.length)]? = none := List.getElem?_eq_none (by omega)
      have hsum : H.length + (idx.length + (i - H.length) - idx.length) = i := by omega
      simp only [hnone, hsum]
  have hkI : ∀ b, E.I b → w'.heap[b]? = w.heap[b]? := fun b hb => hst.keep b (hr.ltI b hb) fun h => by
    obtain ⟨i, k, o, _, h2, h3⟩ := hin0 b h
    exact hr.imm b ⟨i, o, h2, h3⟩ hb
  have hnotin : ∀ (i : Nat) o b, (∀ k : Nat, idx[k]? ≠ some i) → H[i]? = some o → foot E i o = some b → ¬ InFoot E0 H0 b := by
    intro i o b hni hi hf hin
    obtain ⟨i', k, o', h1, h2, h3⟩ := hin0 b hin
    refine hr.sep i i' o o' b ?_ hi h2 hf h3
    rintro rfl
    exact hni k h1
  have hin1 : ∀ b, InFoot E1 H1 b → w.heap.size ≤ b ∨ InFoot E H b := by
    intro b hb
    rcases hst.foot' b hb with h1 | h1
    · exact .inl h1
    · obtain ⟨i, k, o, _, h2, h3⟩ := hin0 b h1
      exact .inr ⟨i, o, h2, h3⟩
  have hin1' : ∀ (i : Nat) o b, (∀ k : Nat, idx[k]? ≠ some i) → H[i]? = some o → foot E i o = some b → ¬ InFoot E1 H1 b := by
    intro i o b hni hi hf hb
    rcases hst.foot' b hb with h1 | h1
    · have := hr.foot_lt ⟨i, o, hi, hf⟩
      omega
    · exact hnotin i o b hni hi hf h1
  have hinM : ∀ b, InFoot E' (merge H idx H1) b → InFoot E1 H1 b ∨ ∃ (i : Nat) (o : LObj), (∀ k : Nat, idx[k]? ≠ some i) ∧ H[i]? = some o ∧ foot E i o = some b := by
    rintro b ⟨i, o, hi, hf⟩
    rcases hmerge i o hi with ⟨k, o', hkn, hb, ho, rfl⟩ | ⟨hil, hni, ho⟩
    · rw [foot_ren namb hkn hb] at hf
      exact .inl ⟨k, o', ho, hf⟩
    · rw [foot_le le hil] at hf
      exact .inr ⟨i, o, hni, ho, hf⟩
  refine ⟨v, r.ren (backF H.length idx), merge H idx H1, E', rfl, hk, hv.ren namb, ⟨?_, ?_, ?_, ?_, hr1.ltI⟩, ⟨hst.size, ?_, hst.os, hst.tape, hst.output, ?_, hst.Imono, ?_⟩, le⟩
  · unfold merge
    rw [List.length_append, setAll_length]
    simp [hlen1, hr.len, E']
  · intro i o hi
    rcases hmerge i o hi with ⟨k, o', hkn, hb, ho, rfl⟩ | ⟨hil, hni, ho⟩
    · exact ObjR.ren namb hkn hb (hr1.obj k o' ho)
    · exact ObjR.kept le hst.Imono hkI hil (fun b hb => hst.keep b (hr.foot_lt ⟨i, o, ho, hb⟩) (hnotin i o b hni ho hb)) (hr.obj i o ho)
  · intro i j o o' b hne hi hj hf hf'
    rcases hmerge i o hi with ⟨k, o1, hkn, hb, ho, rfl⟩ | ⟨hil, hni, ho⟩
    · rw [foot_ren namb hkn hb] at hf
      rcases hmerge j o' hj with ⟨k', o1', hkn', hb', ho', rfl⟩ | ⟨hil', hni', ho'⟩
      · rw [foot_ren namb hkn' hb'] at hf'
        refine hr1.sep k k' o1 o1' b ?_ ho ho' hf hf'
        rintro rfl
        rw [hb] at hb'
        cases hb'
        exact hne rfl
      · rw [foot_le le hil'] at hf'
        exact hin1' j o' b hni' ho' hf' ⟨k, o1, ho, hf⟩
    · rw [foot_le le hil] at hf
      rcases hmerge j o' hj with ⟨k', o1', hkn', hb', ho', rfl⟩ | ⟨hil', hni', ho'⟩
      · rw [foot_ren namb hkn' hb'] at hf'
        exact hin1' i o b hni ho hf ⟨k', o1', ho', hf'⟩
      · rw [foot_le le hil'] at hf'
        exact hr.sep i j o o' b hne ho ho' hf hf'
  · intro b hb hI
    rcases hinM b hb with h1 | ⟨i, o, hni, ho, hf⟩
    · exact hr1.imm b h1 hI
    · rcases hst.Inew b hI with h2 | h2 | h2
      · exact hr.imm b ⟨i, o, ho, hf⟩ h2
      · have := hr.foot_lt ⟨i, o, ho, hf⟩
        omega
      · exact hnotin i o b hni ho hf h2
  · intro b hb hnf
    refine hst.keep b hb fun h => ?_
    obtain ⟨i, k, o, _, h2, h3⟩ := hin0 b h
    exact hnf ⟨i, o, h2, h3⟩
  · intro b hb
    rcases hinM b hb with h1 | ⟨i, o, hni, ho, hf⟩
    · exact hin1 b h1
    · exact .inr ⟨i, o, ho, hf⟩
  · intro b hb
    rcases hst.Inew b hb with h2 | h2 | h2
    · exact .inl h2
    · exact .inr (.inl h2)
    · obtain ⟨i, k, o, _, h3, h4⟩ := hin0 b h2
      exact .inr (.inr ⟨i, o, h3, h4⟩)
end
section
variable {A : Env}

def Weak (G : Gl) (N : Nat) (s s' : LS) : Prop := ∀ A E w a, A.n = N → SR G A E s a w → ∃ E', SR G A E' s' a w ∧ Step E s.h w E' s'.h w
theorem Weak.refl (G : Gl) (N : Nat) (s : LS) : Weak G N s s := fun A E w a _ h => ⟨E, h, Step.refl E s.h w⟩
theorem Weak.trans {G : Gl} {N : Nat} {s s' s'' : LS} (h : Weak G N s s') (k : Weak G N s' s'') : Weak G N s s'' := fun A E w a hA hs => by
  obtain ⟨E1, h1, h2⟩ := h A E w a hA hs
  obtain ⟨E2, h3, h4⟩ := k A E1 w a hA h1
  exact ⟨E2, h3, h2.trans h4⟩
structure FnOk (P : Program) (f : FuncId) : Prop where
  out : ∃ fn, P.funcs[f]? = some fn ∧ (fn.name == "runtime.NumGoroutine") = false ∧ fn.body.isNone = false
structure Contract (P : Program) (G : Gl) (f : FuncId) (S : Spec) : Prop where
  ok : FnOk P f
  meets : Meets P G f S
def evL (G : Gl) (s : LS) : List Operand → List SV
  | [] => []
  | x :: r => s.ev G x :: evL G s r
structure CallVC (P : Program) (G : Gl) (N : Nat) (f : FuncId) (args : List Operand) (dst : Option Tmp) (s : LS) (k : LS → Prop) : Prop where
  out : (∃ (s0 : LS) (idx : List Nat) (S : Spec), Weak G N s s0 ∧ Contract P G f S ∧ callK S idx (evL G s0 args) s0.h fun r H' => LS.put ⟨s0.t, H'⟩ dst r k) ∨ (∃ x, args = [x] ∧ (∀ (v : Value) (w : World), (callFunc f #[v]).run P w = .ok (.value v) w) ∧ s.put dst (s.ev G x) k) ∨
    ∃ r, (∀ (E : Env) (w : World) (vs : List Value), VRs E w (evL G s args) vs → ∃ v, (callFunc f vs.toArray).run P w = .ok (.value v) w ∧ VR E w r v) ∧ s.put dst r k
theorem CallVC.same {P : Program} {G : Gl} {N : Nat} {f : FuncId} {x : Operand} {dst : Option Tmp} {s : LS} {k : LS → Prop} (hf : ∀ (v : Value) (w : World), (callFunc f #[v]).run P w = .ok (.value v) w) (h : s.put dst (s.ev G x) k) : CallVC P G N f [x] dst s k := ⟨.inr (.inl ⟨x, rfl, hf, h⟩)⟩
theorem CallVC.ext {P : Program} {G : Gl} {N : Nat} {f : FuncId} {args : List Operand} {dst : Option Tmp} {s : LS} {k : LS → Prop} (r : SV)
    (hf : ∀ (E : Env) (w : World) (vs : List Value), VRs E w (evL G s args) vs → ∃ v, (callFunc f vs.toArray).run P w = .ok (.value v) w ∧ VR E w r v) (h : s.put dst r k) : CallVC P G N f args dst s k := ⟨.inr (.inr ⟨r, hf, h⟩)⟩
theorem CallVC.of {P : Program} {G : Gl} {N : Nat} {f : FuncId} {args : List Operand} {dst : Option Tmp} {s : LS} {k : LS → Prop} (idx : List Nat) {S : Spec} (hc : Contract P G f S)
    (h : callK S idx (evL G s args) s.h fun r H' => LS.put ⟨s.t, H'⟩ dst r k) : CallVC P G N f args dst s k := ⟨.inl ⟨s, idx, S, Weak.refl G N s, hc, h⟩⟩
theorem CallVC.weak {P : Program} {G : Gl} {N : Nat} {f : FuncId} {args : List Operand} {dst : Option Tmp} {s : LS} {k : LS → Prop} (s0 : LS) (hw : Weak G N s s0) (idx : List Nat) {S : Spec} (hc : Contract P G f S)
    (h : callK S idx (evL G s0 args) s0.h fun r H' => LS.put ⟨s0.t, H'⟩ dst r k) : CallVC P G N f args dst s k := ⟨.inl ⟨s0, idx, S, hw, hc, h⟩⟩
structure CallClo (P : Program) (G : Gl) (f : FuncId) (args : List Operand) (cap : List SV) (dst : Option Tmp) (s : LS) (k : LS → Prop) : Prop where
  out : ∃ (idx : List Nat) (S : Spec), Contract P G f S ∧ callK S idx (evL G s args ++ cap) s.h fun r H' => LS.put ⟨s.t, H'⟩ dst r k
theorem CallClo.of {P : Program} {G : Gl} {f : FuncId} {args : List Operand} {cap : List SV} {dst : Option Tmp} {s : LS} {k : LS → Prop} (idx : List Nat) {S : Spec} (hc : Contract P G f S)
    (h : callK S idx (evL G s args ++ cap) s.h fun r H' => LS.put ⟨s.t, H'⟩ dst r k) : CallClo P G f args cap dst s k := ⟨⟨idx, S, hc, h⟩⟩
def extractK (x : SV) (i : Nat) (c : SV → Prop) : Prop :=
  match x with
  | .tuple l => match l[i]? with
    | some v => c v
    | none => False
  | _ => False
def nilK (x : SV) (c : SV → Prop) : Prop :=
  match x with
  | .ptr _ _ => c x
  | .pim (_ :: _) => c x
  | .pown _ _ => c x
  | .func (.func _) _ => c x
  | _ => False
def eqK (Γ : Ty) (t : TypeId) (x y : SV) (c : Bool → Prop) : Prop :=
  match look Γ t with
  | none => False
  | some ti => match ti.d, x, y with
    | .bool, .bool a, .bool b => c (a == b)
    | .pointer _, .nil, .nil => c true
    | .pointer _, .ptr _ _, .nil => c false
    | .pointer e, .ptr i o, .ptr j p => match look Γ e, Nat.beq i j, Nat.beq o p with
      | some _, true, true => c true
      | _, _, _ => False
    | .pointer _, .nil, .ptr _ _ => c false
    | .pointer _, .pim (_ :: _), .nil => c false
    | .pointer _, .nil, .pim (_ :: _) => c false
    | _, _, _ => False
def cellEqK (d : TypeDesc) (x y : SV) (k : Bool → Prop) : Prop :=
  match d, x, y with
  | .int _, .int a m, .int b n => match kb a b with
    | true => k (decide (m = n))
    | false => False
  | .string, .str a, .str b => k (decide (a = b))
  | .bool, .bool a, .bool b => k (a == b)
  | _, _, _ => False
def eqFK (Γ : Ty) : Nat → List Field → List SV → List SV → (Bool → Prop) → Prop
  | 0, _, _, _, _ => False
  | _ + 1, [], _, _, k => k true
  | n + 1, f :: fs, xs, ys, k => Need (f.name ≠ "_") (match look Γ f.type with
    | none => False
    | some tf => match tf.d with
      | .struct gs => eqFK Γ n gs.toList ((xs.drop f.offset).take tf.size) ((ys.drop f.offset).take tf.size) fun a => eqFK Γ n fs xs ys fun b => k (a && b)
      | d => match xs[f.offset]?, ys[f.offset]? with
        | some x, some y => cellEqK d x y fun a => eqFK Γ n fs xs ys fun b => k (a && b)
        | _, _ => False)
def aggEqK (Γ : Ty) (op : BinOp) (t : TypeId) (xs ys : List SV) (c : SV → Prop) : Prop :=
  match look Γ t with
  | none => False
  | some ti => match ti.d with
    | .struct fs => match op with
      | .eql => eqFK Γ 40 fs.toList xs ys fun b => c (.bool b)
      | .neq => eqFK Γ 40 fs.toList xs ys fun b => c (.bool !b)
      | _ => False
    | _ => False
def bin2K (Γ : Ty) (op : BinOp) (t : TypeId) (x y : SV) (c : SV → Prop) : Prop :=
  match x with
  | .int _ _ => binK op x y c
  | .str _ => binK op x y c
  | .agg xs => match y with
    | .agg ys => aggEqK Γ op t xs ys c
    | _ => False
  | _ => match op with
    | .eql => eqK Γ t x y fun b => c (.bool b)
    | .neq => eqK Γ t x y fun b => c (.bool !b)
    | _ => False
def optEv (G : Gl) (s : LS) : Option Operand → Option SV
  | none => none
  | some x => some (s.ev G x)
def partsEv (G : Gl) (s : LS) : List (Nat × Operand) → List (Nat × SV)
  | [] => []
  | (i, x) :: r => (i, s.ev G x) :: partsEv G s r
def minK (mx : Bool) (k : IntKind) (m : Int) : List SV → (SV → Prop) → Prop
  | [], c => c (.int k m)
  | .int k' n :: r, c => match kb k k' with
    | true => match mx with
      | true => minK mx k (max m n) r c
      | false => minK mx k (min m n) r c
    | false => False
  | _, _ => False
def builtinK (Γ : Ty) (b : Builtin) (ts : List TypeId) (T : TypeId) (H : List LObj) (args : List SV) (c : SV → List LObj → Prop) : Prop :=
  match b, ts, args with
  | .len, [t], [x] => lenK Γ H t x fun v => c v H
  | .max, _, .int k m :: r => minK true k m r fun v => c v H
  | .min, _, .int k m :: r => minK false k m r fun v => c v H
  | .append, ts, args => appendK Γ H ts args c
  | .copy, ts, args => copyK Γ H ts args c
  | _, _, _ => False
def pureK (Γ : Ty) (G : Gl) (o : Oper) (s : LS) (c : SV → Prop) : Prop :=
  match o.op with
  | .move x => c (s.ev G x)
  | .assign x => c (s.ev G x)
  | .pick b x y => match s.ev G b with
    | .bool t => Both t (c (s.ev G x)) (c (s.ev G y))
    | _ => False
  | .build t parts => ownsK s.h ((partsEv G s parts.toList).map (·.2)) (buildK Γ t (partsEv G s parts.toList) c)
  | .load t a => loadK Γ s.h t (s.ev G a) c
  | .nilCheck x => nilK (s.ev G x) c
  | .binOp op t x y _ => bin2K Γ op t (s.ev G x) (s.ev G y) c
  | .unOp op _ x => unK op (s.ev G x) c
  | .convert a b x => convK Γ s.h a b (s.ev G x) c
  | .slice t x lo hi none => cutK Γ s.h t (s.ev G x) (optEv G s lo) (optEv G s hi) c
  | .fieldAddr t x f => faddrK Γ t (s.ev G x) f c
  | .field t x f => fieldK Γ t (s.ev G x) f c
  | .indexAddr t x i => iaddrK Γ s.h t (s.ev G x) (s.ev G i) c
  | .index t x i => idxK Γ t (s.ev G x) (s.ev G i) c
  | .lookup t x i ok => lookupK Γ s.h t (s.ev G x) (s.ev G i) ok c
  | .extract x i => extractK (s.ev G x) i c
  | .makeFunc fn first cap => match first.toList with
    | [] => c (.func fn (evL G s cap.toList))
    | _ => False
  | .call ca => match ca.callee, ca.argTypes.toList, evL G s ca.args.toList with
    | .builtin .len, [t], [x] => lenK Γ s.h t x c
    | .builtin .unsafeSliceData, _, [.own i] => match s.h[i]? with
      | some (.own _ _ n _ _) => Need (0 < n) (c (.pown i 0))
      | _ => False
    | .builtin .max, _, .int k m :: r => minK true k m r c
    | .builtin .min, _, .int k m :: r => minK false k m r c
    | _, _, _ => False
  | _ => False
inductive PtrConv (P : Program) (a b : TypeId) (e : TypeId) (cells off : Nat) : Prop
  | to {t : TypeId} {j : TypeInfo} (ha : P.underlying a = some (.pointer t)) (hb : P.underlying b = some .unsafePointer) (ht : P.info? t = some j) (hj : j.size ≠ 0) (h : off < cells)
  | back {u : TypeId} {j : TypeInfo} (ha : P.underlying a = some .unsafePointer) (hb : P.underlying b = some (.pointer u)) (hu : P.info? u = some j) (h : liesAt P P.depth e (cells / P.cellsOf e) off u 1 = true)
def opK (P : Program) (Γ : Ty) (G : Gl) (N : Nat) (o : Oper) (s : LS) (k : LS → Prop) : Prop :=
  match o.op with
  | .alloc t => allocK Γ s.h t fun x H => LS.put ⟨s.t, H⟩ o.dst x k
  | .box t x => boxK s.h t (s.ev G x) fun x H => LS.put ⟨s.t, H⟩ o.dst x k
  | .store t a v => storeK Γ s.h t (s.ev G a) (s.ev G v) fun H => LS.put ⟨s.t, H⟩ o.dst .any k
  | .convert a b x => match look Γ a, look Γ b, s.ev G x with
    | some _, some ⟨.slice _, _, _, _⟩, .str l => toBytesK Γ s.h b (.str l) fun x H => LS.put ⟨s.t, H⟩ o.dst x k
    | none, _, .ptr i off => match s.h[i]? with
      | some (.cells c e) => Need (PtrConv P a b e c.length off) (s.put o.dst (.ptr i off) k)
      | _ => False
    | _, none, .ptr i off => match s.h[i]? with
      | some (.cells c e) => Need (PtrConv P a b e c.length off) (s.put o.dst (.ptr i off) k)
      | _ => False
    | _, _, v => convK Γ s.h a b v fun v => s.put o.dst v k
  | .buildSlice t n parts => bsliceK Γ s.h t n (partsEv G s parts.toList) fun x H => LS.put ⟨s.t, H⟩ o.dst x k
  | .makeSlice t l c => makeK Γ s.h t (s.ev G l) (s.ev G c) fun x H => LS.put ⟨s.t, H⟩ o.dst x k
  | .mapUpdate t m i v => mputK Γ s.h t (s.ev G m) (s.ev G i) (s.ev G v) fun H => LS.put ⟨s.t, H⟩ o.dst .any k
  | .makeMap t none => mmapK Γ s.h t fun x H => LS.put ⟨s.t, H⟩ o.dst x k
  | .call c => match c.callee with
    | .builtin b => match b with
      | .unsafeSliceData => match evL G s c.args.toList with
        | [x] => sdataK Γ s.h o.type x fun v H => LS.put ⟨s.t, H⟩ o.dst v k
        | _ => False
      | .unsafeString => match c.argTypes.toList, evL G s c.args.toList with
        | [pt, _], [x, n] => ustrK P Γ s.h pt x n fun v H => LS.put ⟨s.t, H⟩ o.dst v k
        | _, _ => False
      | b => builtinK Γ b c.argTypes.toList o.type s.h (evL G s c.args.toList) fun v H => LS.put ⟨s.t, H⟩ o.dst v k
    | .value (.func f) => CallVC P G N f c.args.toList o.dst s k
    | .value x => match s.ev G x with
      | .func (.func f) cap => CallClo P G f c.args.toList cap o.dst s k
      | _ => False
    | _ => False
  | _ => pureK Γ G o s fun v => s.put o.dst v k
theorem op_value {P : Program} {G : Gl} {E : Env} {s : LS} {a : Act} {w : World} {o : Oper} {k : LS → Prop} {e : Sem Value} {Q : Exit → Act → World → Prop} {N : Act → World → Prop}
    (hs : SR G A E s a w) (he : execOp a.eval o = do pure (.value (← e))) (h : MemRun P E s.h w e fun x H => LS.put ⟨s.t, H⟩ o.dst x k) (hN : ∀ a' w', Then G A E s w k a' w' → N a' w') : o.wp P a w N Q := by
  obtain ⟨x, v, w', E', H', h1, h2, h3, h4, h5, h6, h7, h8⟩ := h.out
  have hw : o.wp P a w N Q = N (a.put o.dst v) w' := by
    unfold Oper.wp
    rw [he]
    simp only [Sem.run_bind, h1, Result.andThen_ok, Sem.run_pure]
    rfl
  rw [hw]
  exact hN _ _ (LS.put_then h2 (hs.step h6 h7 h8 h4) h3 h5)
theorem partsEv_ok {G : Gl} {E : Env} {s : LS} {a : Act} {w : World} (hs : SR G A E s a w) : ∀ (l : List (Nat × Operand)), PartsR E w (partsEv G s l) (l.map fun p => (p.1, a.eval p.2))
  | [] => ⟨rfl, fun j x v hx => by simp [partsEv] at hx⟩
  | (i, x) :: r => by
    have ih := partsEv_ok hs r
    refine ⟨by simpa [partsEv] using ih.1, fun j y v hy hv => ?_⟩
    cases j with
    | zero =>
      simp [partsEv] at hy hv
      subst hy; subst hv
      exact ⟨rfl, hs.ev x⟩
    | succ j => exact ih.2 j y v (by simpa [partsEv] using hy) (by simpa using hv)
theorem evL_ok {G : Gl} {E : Env} {s : LS} {a : Act} {w : World} (hs : SR G A E s a w) : ∀ (l : List Operand), VRs E w (evL G s l) (l.map a.eval)
  | [] => ⟨rfl, fun j x v hx => by simp [evL] at hx⟩
  | x :: r => by
    have ih := evL_ok hs r
    refine ⟨by simpa [evL] using ih.1, fun j y v hy hv => ?_⟩
    cases j with
    | zero =>
      simp [evL] at hy hv
      subst hy; subst hv
      exact hs.ev x
    | succ j => exact ih.2 j y v (by simpa [evL] using hy) (by simpa using hv)
theorem VRs.append {E : Env} {w : World} {l l' : List SV} {vs vs' : List Value} (h : VRs E w l vs) (h' : VRs E w l' vs') : VRs E w (l ++ l') (vs ++ vs') := by
  refine ⟨by simp [h.1, h'.1], fun j x v hx hv => ?_⟩
  rw [List.getElem?_append] at hx hv
  rw [h.1] at hv
  split at hx
  · rename_i hj
    rw [if_pos hj] at hv
    exact h.2 j x v hx hv
  · rename_i hj
    rw [if_neg hj] at hv
    exact h'.2 _ x v hx hv
theorem optEv_ok {G : Gl} {E : Env} {s : LS} {a : Act} {w : World} (hs : SR G A E s a w) (o : Option Operand) : OptR E w (optEv G s o) (o.map a.eval) := by
  cases o with
  | none => trivial
  | some x => exact hs.ev x
theorem binK_sound {P : Program} {E : Env} {w : World} {op : BinOp} {x y : SV} {u v : Value} {c : SV → Prop} (t : TypeId) (hx : VR E w x u) (hy : VR E w y v) (h : binK op x y c) : PureRun P E w (binOp op t u v) c := by
  cases hx <;> cases hy <;> simp only [binK] at h <;> try exact h.elim
  case int.int k m k' n =>
    split at h
    · obtain ⟨h0, hk⟩ := h
      exact .mk' (x := .int k _) (by simp [binOp, Op.shift, shlI, show ¬ n < 0 by omega]) hk (.int _ _)
    · obtain ⟨h0, hk⟩ := h
      exact .mk' (x := .int k _) (by simp [binOp, Op.shift, shrI, show ¬ n < 0 by omega]) hk (.int _ _)
    · split at h
      · rename_i hb
        have := kb_eq hb
        subst this
        exact intK_sound t h
      · exact h.elim
  case str.str x y => exact strK_sound t h
def plainSV : SV → Prop
  | .agg _ => False
  | .any => False
  | .own _ => False
  | .tuple _ => False
  | _ => True
theorem plain_out {E : Env} {w : World} {p : SV} {u : Value} (hx : VR E w p u) (hp : plainSV p) : (∀ c, u ≠ .agg c) ∧ u ≠ .nilIface := by
  cases hx
  case sl hcr => cases hcr <;> exact ⟨(fun c h => by cases h), (fun h => by cases h)⟩
  case agg => exact hp.elim
  case tuple => exact hp.elim
  case any => exact hp.elim
  case own => exact hp.elim
  all_goals exact ⟨(fun c h => by cases h), (fun h => by cases h)⟩
theorem eqGuard_ok {P : Program} {E : Env} {w : World} (op : BinOp) (t : TypeId) (x y : Operand) {p : SV} {u v : Value} (hx : VR E w p u) (hp : plainSV p) :
    (eqGuard op t x y u v).run P w = .ok () w := by
  obtain ⟨h1, h2⟩ := plain_out hx hp
  unfold eqGuard
  cases u <;> first | exact absurd rfl h2 | exact absurd rfl (h1 _) | (simp; done) | (cases op <;> simp)
theorem run_eq_bool {P : Program} {t : TypeId} (hu : P.underlying t = some .bool) (a b : Bool) (w : World) : (Op.equal t (.bool a) (.bool b)).run P w = .ok (a == b) w := by
  suffices h : ∀ d, (Op.equalIn (d + 1) t (.bool a) (.bool b)).run P w = .ok (a == b) w from h 9999
  intro d
  simp only [Op.equalIn, Sem.run_bind, run_underlying' hu, Result.andThen_ok, Sem.run_pure]
theorem run_eq_nil {P : Program} {t e : TypeId} (hu : P.underlying t = some (.pointer e)) (b : Option Addr) (w : World) : (Op.equal t (.pointer none) (.pointer b)).run P w = .ok b.isNone w := by
  suffices h : ∀ d, (Op.equalIn (d + 1) t (.pointer none) (.pointer b)).run P w = .ok b.isNone w from h 9999
  intro d
  simp only [Op.equalIn, Sem.run_bind, run_underlying' hu, Result.andThen_ok, Sem.run_pure]
theorem run_eq_nil' {P : Program} {t e : TypeId} (hu : P.underlying t = some (.pointer e)) (a : Addr) (w : World) : (Op.equal t (.pointer (some a)) (.pointer none)).run P w = .ok false w := by
  suffices h : ∀ d, (Op.equalIn (d + 1) t (.pointer (some a)) (.pointer none)).run P w = .ok false w from h 9999
  intro d
  simp only [Op.equalIn, Sem.run_bind, run_underlying' hu, Result.andThen_ok, Sem.run_pure]
theorem run_eq_self {P : Program} {Γ : Ty} (hΓ : TyOk P Γ) {t e : TypeId} {te : TI} (hu : P.underlying t = some (.pointer e)) (hte : look Γ e = some te) (a : Addr) (w : World) : (Op.equal t (.pointer (some a)) (.pointer (some a))).run P w = .ok true w := by
  suffices h : ∀ d, (Op.equalIn (d + 1) t (.pointer (some a)) (.pointer (some a))).run P w = .ok true w from h 9999
  intro d
  simp only [Op.equalIn, Sem.run_bind, run_underlying' hu, Result.andThen_ok, run_sizeOf' hΓ hte]
  split
  · exact run_sameAddr_same _ a
  · simp
theorem run_cellEq {P : Program} {d : TypeDesc} {t : TypeId} (hu : P.underlying t = some d) {E : Env} {w : World} {x y : SV} {u v : Value} (hx : VR E w x u) (hy : VR E w y v) {k : Bool → Prop} (h : cellEqK d x y k) :
    isRow d = false ∧ ∃ b, k b ∧ ∀ n, (Op.equalIn (n + 1) t u v).run P w = .ok b w := by
  cases d <;> cases hx <;> try exact h.elim
  all_goals (cases hy <;> try exact h.elim)
  case int.int.int =>
    simp only [cellEqK] at h
    split at h
    · rename_i hb
      have := kb_eq hb
      subst this
      exact ⟨rfl, _, h, fun n => by rw [run_equalIn_int w n t _ _ _ _ hu]; rfl⟩
    · exact h.elim
  case string.str.str =>
    refine ⟨rfl, _, h, fun n => ?_⟩
    rw [run_equalIn_string w n t _ _ hu, toList_mk, toList_mk, beq_dec]
  case bool.bool.bool => exact ⟨rfl, _, h, fun n => run_equalIn_bool' w n t _ _ hu⟩
theorem run_partCell {P : Program} {Γ : Ty} (hΓ : TyOk P Γ) {t : Nat} {ti : TI} (h : look Γ t = some ti) (hr : isRow ti.d = false) {vs : List Value} {off : Nat} {v : Value} (hv : vs[off]? = some v) (w : World) :
    (part t vs.toArray off).run P w = .ok v w := by
  unfold part
  simp only [Sem.run_bind, run_isAgg hΓ h, hr, Result.andThen_ok]
  simp [hv]
theorem run_partAgg {P : Program} {Γ : Ty} (hΓ : TyOk P Γ) {t : Nat} {ti : TI} (h : look Γ t = some ti) (hr : isRow ti.d = true) (vs : List Value) (off : Nat) (w : World) :
    (part t vs.toArray off).run P w = .ok (.agg ((vs.drop off).take ti.size).toArray) w := by
  unfold part
  simp only [Sem.run_bind, run_isAgg hΓ h, hr, Result.andThen_ok, if_true, run_sizeOf' hΓ h, Sem.run_pure]
  congr 2
  apply Array.ext'
  simp [List.extract]
theorem eqFK_sound {P : Program} {Γ : Ty} (hΓ : TyOk P Γ) {E : Env} {w : World} : ∀ (n : Nat) {fs : List Field} {xs ys : List SV} {vs us : List Value} {k : Bool → Prop}, VRs E w xs vs → VRs E w ys us → eqFK Γ n fs xs ys k →
    ∃ b, k b ∧ ∀ d, n ≤ d → (Op.eqFields d vs.toArray us.toArray fs).run P w = .ok b w
  | 0, fs, xs, ys, vs, us, k, _, _, h => h.elim
  | n + 1, [], xs, ys, vs, us, k, _, _, h => ⟨true, h, fun d _ => by simp [Op.eqFields]⟩
  | n + 1, f :: fs, xs, ys, vs, us, k, hx, hy, h => by
    rw [eqFK] at h
    obtain ⟨hn, h⟩ := h
    have fin : ∀ {a b : Bool} {x y : Value} {d : Nat}, (part f.type vs.toArray f.offset).run P w = .ok x w → (part f.type us.toArray f.offset).run P w = .ok y w → (Op.equalIn d f.type x y).run P w = .ok a w →
        (Op.eqFields d vs.toArray us.toArray fs).run P w = .ok b w → (Op.eqFields d vs.toArray us.toArray (f :: fs)).run P w = .ok (a && b) w := by
      intro a b x y d h1 h2 h3 h4
      rw [Op.eqFields, if_pos hn]
      simp only [Sem.run_bind, h1, h2, h3, Result.andThen_ok]
      cases a
      · simp
      · simp [h4]
    split at h
    · exact h.elim
    · rename_i tf htf
      split at h
      · rename_i gs hgs
        have sub : ∀ {l : List SV} {ws : List Value}, VRs E w l ws → VRs E w ((l.drop f.offset).take tf.size) ((ws.drop f.offset).take tf.size) := by
          intro l ws hl
          refine ⟨by simp [hl.1], fun j x v hx hv => ?_⟩
          rw [List.getElem?_take] at hx hv
          split at hx
          · rename_i hj
            rw [if_pos hj] at hv
            rw [List.getElem?_drop] at hx hv
            exact hl.2 _ x v hx hv
          · cases hx
        obtain ⟨a, ha, hra⟩ := eqFK_sound hΓ n (sub hx) (sub hy) h
        obtain ⟨b, hb, hrb⟩ := eqFK_sound hΓ n hx hy ha
        have hrow : isRow tf.d = true := by rw [hgs]; rfl
        have hst := (hΓ _ (look_mem htf)).eqs (by show isSt tf.d = true; rw [hgs]; rfl)
        have hu : P.underlying f.type = some (.struct gs) := by rw [← hgs]; exact run_und hΓ htf
        have hfo : P.fieldsOf f.type = gs := by simp [Program.fieldsOf, hu]
        refine ⟨a && b, hb, fun d hd => ?_⟩
        obtain ⟨d, rfl⟩ : ∃ m, d = m + 1 := ⟨d - 1, by omega⟩
        refine fin (run_partAgg hΓ htf hrow vs f.offset w) (run_partAgg hΓ htf hrow us f.offset w) ?_ (hrb _ (by omega))
        rw [run_equalIn_struct w d f.type _ _ (by rw [hfo]; exact hu) hst.2, hfo]
        exact hra d (by omega)
      · rename_i hns
        split at h
        · rename_i x y hx0 hy0
          have hxl : ∃ v, vs[f.offset]? = some v := ⟨_, List.getElem?_eq_getElem (by rw [hx.1]; exact lt_of_get hx0)⟩
          have hyl : ∃ v, us[f.offset]? = some v := ⟨_, List.getElem?_eq_getElem (by rw [hy.1]; exact lt_of_get hy0)⟩
          obtain ⟨v, hv⟩ := hxl
          obtain ⟨u, hu⟩ := hyl
          obtain ⟨hrow, a0, h0, same⟩ := run_cellEq (run_und hΓ htf) (hx.2 _ x v hx0 hv) (hy.2 _ y u hy0 hu) h
          obtain ⟨b, hb, hrb⟩ := eqFK_sound hΓ n hx hy h0
          refine ⟨a0 && b, hb, fun d hd => ?_⟩
          obtain ⟨d, rfl⟩ : ∃ m, d = m + 1 := ⟨d - 1, by omega⟩
          exact fin (run_partCell hΓ htf hrow hv w) (run_partCell hΓ htf hrow hu w) (same d) (hrb _ (by omega))
        · exact h.elim
theorem aggEqK_sound {P : Program} {Γ : Ty} (hΓ : TyOk P Γ) {E : Env} {w : World} {op : BinOp} {xs ys : List SV} {vs us : List Value} {c : SV → Prop} (t : TypeId) (p q : Operand) (hx : VRs E w xs vs) (hy : VRs E w ys us) (h : aggEqK Γ op t xs ys c) :
    PureRun P E w (do eqGuard op t p q (.agg vs.toArray) (.agg us.toArray); binOp op t (.agg vs.toArray) (.agg us.toArray)) c := by
  unfold aggEqK at h
  split at h
  · exact h.elim
  · rename_i ti hti
    split at h
    · rename_i fs hfs
      have hst := (hΓ _ (look_mem hti)).eqs (by show isSt ti.d = true; rw [hfs]; rfl)
      have hu : P.underlying t = some (.struct fs) := by rw [← hfs]; exact run_und hΓ hti
      have hfo : P.fieldsOf t = fs := by simp [Program.fieldsOf, hu]
      split at h
      · obtain ⟨b, hb, hr⟩ := eqFK_sound hΓ 40 hx hy h
        refine .mk' (x := .bool b) (v := .bool b) ?_ hb (.bool b)
        simp only [Sem.run_bind, run_eqGuard_agg w _ t p q _ _ hst.1, Result.andThen_ok, run_eql_struct w t]
        rw [show (10000 : Nat) = 9999 + 1 from rfl, run_equalIn_struct w 9999 t _ _ (by rw [hfo]; exact hu) hst.2, hfo, hr 9999 (by omega)]
        rfl
      · obtain ⟨b, hb, hr⟩ := eqFK_sound hΓ 40 hx hy h
        refine .mk' (x := .bool !b) (v := .bool !b) ?_ hb (.bool _)
        simp only [Sem.run_bind, run_eqGuard_agg w _ t p q _ _ hst.1, Result.andThen_ok, run_neq_struct w t]
        rw [show (10000 : Nat) = 9999 + 1 from rfl, run_equalIn_struct w 9999 t _ _ (by rw [hfo]; exact hu) hst.2, hfo, hr 9999 (by omega)]
        rfl
      · exact h.elim
    · exact h.elim
theorem bin2K_sound {P : Program} {Γ : Ty} (hΓ : TyOk P Γ) {E : Env} {w : World} {op : BinOp} {x y : SV} {u v : Value} {c : SV → Prop} (t : TypeId) (p q : Operand) (hx : VR E w x u) (hy : VR E w y v) (h : bin2K Γ op t x y c) :
    PureRun P E w (do eqGuard op t p q u v; binOp op t u v) c := by
  have go : plainSV x → PureRun P E w (binOp op t u v) c → PureRun P E w (do eqGuard op t p q u v; binOp op t u v) c := by
    intro h1 h2
    obtain ⟨z, r, h3, h4, h5⟩ := h2.out
    refine .mk' (x := z) (v := r) ?_ h4 h5
    simp only [Sem.run_bind, eqGuard_ok op t p q hx h1, Result.andThen_ok, h3]
  have eqs : (op = .eql ∨ op = .neq) → (∃ b, (if op = .eql then c (.bool b) else c (.bool !b)) ∧ (Op.equal t u v).run P w = .ok b w) → (∀ k n, u ≠ .int k n) → (∀ s, u ≠ .string s) → (∀ k n, u ≠ .float k n) → (∀ k n m, u ≠ .complex k n m) → (∀ k n, v ≠ .int k n) →
      PureRun P E w (binOp op t u v) c := by
    intro ho ⟨b, hb, hr⟩ n1 n2 n3 n4 n5
    rcases ho with rfl | rfl
    · refine .mk' (x := .bool b) (v := .bool b) ?_ (by simpa using hb) (.bool b)
      have : binOp .eql t u v = (do pure (.bool (← Op.equal t u v)) : Sem Value) := by
        cases u <;> first | exact absurd rfl (n1 _ _) | exact absurd rfl (n2 _) | exact absurd rfl (n3 _ _) | exact absurd rfl (n4 _ _ _) | skip
        all_goals (cases v <;> first | exact absurd rfl (n5 _ _) | rfl)
      rw [this]
      simp [hr]
    · refine .mk' (x := .bool !b) (v := .bool !b) ?_ (by simpa using hb) (.bool _)
      have : binOp .neq t u v = (do pure (.bool (!(← Op.equal t u v))) : Sem Value) := by
        cases u <;> first | exact absurd rfl (n1 _ _) | exact absurd rfl (n2 _) | exact absurd rfl (n3 _ _) | exact absurd rfl (n4 _ _ _) | skip
        all_goals (cases v <;> first | exact absurd rfl (n5 _ _) | rfl)
      rw [this]
      simp [hr]
  have eqcase : (op = .eql ∨ op = .neq) → eqK Γ t x y (fun b => if op = .eql then c (.bool b) else c (.bool !b)) → plainSV x ∧ PureRun P E w (binOp op t u v) c := by
    intro ho h
    unfold eqK at h
    split at h
    · exact h.elim
    · rename_i ti hti
      have hu := run_und hΓ hti
      obtain ⟨d, z, sz, by_⟩ := ti
      simp only at h hu
      cases d <;> try exact h.elim
      case bool =>
        cases hx <;> try exact h.elim
        cases hy <;> try exact h.elim
        rename_i a b
        refine ⟨trivial, eqs ho ⟨_, h, ?_⟩ (fun k n h => by cases h) (fun s h => by cases h) (fun k n h => by cases h) (fun k n m h => by cases h) (fun k n h => by cases h)⟩
        exact run_eq_bool hu _ _ _
      case pointer e =>
        cases hx <;> try exact h.elim
        case nil =>
          cases hy <;> try exact h.elim
          case nil =>
            refine ⟨trivial, eqs ho ⟨_, h, ?_⟩ (fun k n h => by cases h) (fun s h => by cases h) (fun k n h => by cases h) (fun k n m h => by cases h) (fun k n h => by cases h)⟩
            exact run_eq_nil hu _ _
          case ptr i off hi =>
            refine ⟨trivial, eqs ho ⟨_, h, ?_⟩ (fun k n h => by cases h) (fun s h => by cases h) (fun k n h => by cases h) (fun k n m h => by cases h) (fun k n h => by cases h)⟩
            exact run_eq_nil hu _ _
          case pim =>
            rename_i cs a vs hv hI hw hh _
            cases cs with
            | nil => exact h.elim
            | cons y cs =>
              refine ⟨trivial, eqs ho ⟨_, h, ?_⟩ (fun k n h => by cases h) (fun s h => by cases h) (fun k n h => by cases h) (fun k n m h => by cases h) (fun k n h => by cases h)⟩
              exact run_eq_nil hu _ _
        case ptr i off hi =>
          cases hy <;> try exact h.elim
          case nil =>
            refine ⟨trivial, eqs ho ⟨_, h, ?_⟩ (fun k n h => by cases h) (fun s h => by cases h) (fun k n h => by cases h) (fun k n m h => by cases h) (fun k n h => by cases h)⟩
            exact run_eq_nil' hu _ _
          case ptr j p hj =>
            simp only at h
            split at h
            · rename_i te hte h1 h2
              have e1 := Nat.eq_of_beq_eq_true h1
              have e2 := Nat.eq_of_beq_eq_true h2
              subst e1
              subst e2
              refine ⟨trivial, eqs ho ⟨_, h, ?_⟩ (fun k n h => by cases h) (fun s h => by cases h) (fun k n h => by cases h) (fun k n m h => by cases h) (fun k n h => by cases h)⟩
              exact run_eq_self hΓ hu hte _ _
            · exact h.elim
        case pim =>
          rename_i cs a vs hv hI hw hh _
          cases cs with
          | nil => cases hy <;> exact h.elim
          | cons y cs =>
            cases hy <;> try exact h.elim
            refine ⟨trivial, eqs ho ⟨_, h, ?_⟩ (fun k n h => by cases h) (fun s h => by cases h) (fun k n h => by cases h) (fun k n m h => by cases h) (fun k n h => by cases h)⟩
            exact run_eq_nil' hu _ _
  unfold bin2K at h
  split at h
  · exact go trivial (binK_sound t hx hy h)
  · exact go trivial (binK_sound t hx hy h)
  · split at h
    · cases hx with
      | agg vs hl hh => cases hy with
        | agg us hl' hh' => exact aggEqK_sound hΓ t p q ⟨hl, hh⟩ ⟨hl', hh'⟩ h
    · exact h.elim
  · split at h
    · obtain ⟨h1, h2⟩ := eqcase (.inl rfl) (by simpa using h)
      exact go h1 h2
    · obtain ⟨h1, h2⟩ := eqcase (.inr rfl) (by simpa using h)
      exact go h1 h2
    · exact h.elim
end
section
variable {A : Env}

theorem minK_sound {P : Program} {E : Env} {w : World} {mx : Bool} {k : IntKind} {c : SV → Prop} : ∀ {l : List SV} {vs : List Value} {m : Int}, VRs E w l vs → minK mx k m l c →
    PureRun P E w (vs.foldlM (if mx then Builtin.max2 else Builtin.min2) (.int k m)) c
  | [], vs, m, hv, h => by
    have := hv.1
    have : vs = [] := by cases vs with | nil => rfl | cons => simp at this
    subst this
    exact .mk' (x := .int k m) (v := .int k m) (by simp) h (.int k m)
  | x :: r, vs, m, hv, h => by
    cases vs with
    | nil => have := hv.1; simp at this
    | cons v vr =>
      have h0 := hv.2 0 x v rfl rfl
      have hr : VRs E w r vr := ⟨by simpa using hv.1, fun j y u hy hu => hv.2 (j + 1) y u (by simpa using hy) (by simpa using hu)⟩
      cases h0 <;> simp only [minK] at h <;> try exact h.elim
      rename_i k' n
      split at h
      · split at h
        · obtain ⟨z, u, h1, h2, h3⟩ := (minK_sound (P := P) (mx := true) hr h).out
          refine .mk' (x := z) (v := u) ?_ h2 h3
          simp only [if_true] at h1 ⊢
          have : (if n > m then n else m) = max m n := by omega
          simp only [List.foldlM_cons, Builtin.max2, this, Sem.run_bind, Sem.run_pure, Result.andThen_ok, h1]
        · obtain ⟨z, u, h1, h2, h3⟩ := (minK_sound (P := P) (mx := false) hr h).out
          refine .mk' (x := z) (v := u) ?_ h2 h3
          simp only [Bool.false_eq_true, if_false] at h1 ⊢
          have : (if n < m then n else m) = min m n := by omega
          simp only [List.foldlM_cons, Builtin.min2, this, Sem.run_bind, Sem.run_pure, Result.andThen_ok, h1]
      · exact h.elim
theorem builtinK_sound {P : Program} {Γ : Ty} (hΓ : TyOk P Γ) {E : Env} {H : List LObj} {w : World} {b : Builtin} {ts : Array TypeId} {T : TypeId} {args : List SV} {vs : List Value} {consts : Array Bool} {c : SV → List LObj → Prop}
    (hr : Rel E H w) (hv : VRs E w args vs) (h : builtinK Γ b ts.toList T H args c) :
    ∃ e : Sem Value, builtin b ts T consts vs.toArray = (do pure (.value (← e))) ∧ MemRun P E H w e c := by
  unfold builtinK at h
  split at h
  · rename_i t x hts
    have hvs : ∃ v, vs = [v] := by
      have := hv.1
      match vs, this with
      | [v], _ => exact ⟨v, rfl⟩
    obtain ⟨v, rfl⟩ := hvs
    have hts' : ts = #[t] := by
      apply Array.ext'
      simpa using hts
    subst hts'
    exact ⟨_, rfl, (lenK_sound (P := P) (T := T) hΓ hr (hv.2 0 x v rfl rfl) h).mem hr⟩
  · rename_i k m r
    cases vs with
    | nil => have := hv.1; simp at this
    | cons v vr =>
      have h0 := hv.2 0 _ v rfl rfl
      cases h0
      have hr' : VRs E w r vr := ⟨by simpa using hv.1, fun j y u hy hu => hv.2 (j + 1) y u (by simpa using hy) (by simpa using hu)⟩
      have := minK_sound (P := P) (mx := true) hr' h
      exact ⟨_, rfl, PureRun.mem hr (by simpa [Builtin.max_] using this)⟩
  · rename_i k m r
    cases vs with
    | nil => have := hv.1; simp at this
    | cons v vr =>
      have h0 := hv.2 0 _ v rfl rfl
      cases h0
      have hr' : VRs E w r vr := ⟨by simpa using hv.1, fun j y u hy hu => hv.2 (j + 1) y u (by simpa using hy) (by simpa using hu)⟩
      have := minK_sound (P := P) (mx := false) hr' h
      exact ⟨_, rfl, PureRun.mem hr (by simpa [Builtin.min_] using this)⟩
  · have := appendK_sound (P := P) (T := T) hΓ hr hv h
    exact ⟨_, rfl, by simpa using this⟩
  · have := copyK_sound (P := P) (T := T) hΓ hr hv h
    exact ⟨_, rfl, by simpa using this⟩
  · exact h.elim
theorem callFunc_run {P : Program} {f : FuncId} (h : FnOk P f) (args : Array Value) (w : World) : (callFunc f args).run P w = .ok (.enter f args) w := by
  obtain ⟨fn, h1, h2, h3⟩ := h.out
  simp only [callFunc, Sem.run_bind, run_program, Result.andThen_ok, h1, h2, h3, Bool.false_eq_true, if_false, Sem.run_pure]
theorem callee_run {P : Program} {o : Oper} {a : Act} {w : World} {c : Call} (ho : o.op = .call c) {f : FuncId} (x : Operand) (hx : c.callee = .value x) {cvs : List Value} (hev : a.eval x = .func (.func f) #[] cvs.toArray)
    {Q : Exit → Act → World → Prop} {N : Act → World → Prop} (hf : FnOk P f) : o.wp P a w N Q = Calls P f ((c.args.toList.map a.eval) ++ cvs).toArray w fun
      | .returned v, w'' => N (a.put o.dst v) w''
      | .panicked chain, w'' => Q (.panic chain) a w''
      | .outgrown, _ => LetsOut Q := by
  have hargs : (c.args.map a.eval ++ cvs.toArray) = ((c.args.toList.map a.eval) ++ cvs).toArray := by
    apply Array.ext'
    simp
  have hrun : (execOp a.eval o).run P w = .ok (.enter f ((c.args.toList.map a.eval) ++ cvs).toArray) w := by
    unfold execOp
    simp only [ho, resolve, hx, hev, Deferred.ofValue, Sem.run_bind, Sem.run_pure, Result.andThen_ok, invoke]
    rw [← hargs]
    simpa using callFunc_run hf (c.args.map a.eval ++ cvs.toArray) w
  unfold Oper.wp
  rw [hrun]
  rfl
theorem callVC_wp {P : Program} {G : Gl} {n0 : Nat} (hA : A.n = n0) {E : Env} {s : LS} {a : Act} {w : World} {o : Oper} {k : LS → Prop} {Q : Exit → Act → World → Prop} {N : Act → World → Prop}
    (hs : SR G A E s a w) {c : Call} (ho : o.op = .call c) {f : FuncId} (hx : c.callee = .value (.func f))
    (h : CallVC P G n0 f c.args.toList o.dst s k) (hN : ∀ a' w', Then G A E s w k a' w' → N a' w') : o.wp P a w N Q := by
  rcases h.out with ⟨s0, idx, S, hw, hct, hk⟩ | ⟨x, hx1, hf, hk⟩ | ⟨r, hf, hk⟩
  case inr.inr =>
    obtain ⟨v, h1, h2⟩ := hf E w _ (evL_ok hs c.args.toList)
    have harr : c.args.map a.eval = (c.args.toList.map a.eval).toArray := by
      apply Array.ext'
      simp
    have hrun : (execOp a.eval o).run P w = .ok (.value v) w := by
      unfold execOp
      simp only [ho, resolve, hx, Act.eval, Deferred.ofValue, Sem.run_bind, Sem.run_pure, Result.andThen_ok, invoke]
      rw [harr]
      simpa [Act.eval] using h1
    unfold Oper.wp
    rw [hrun]
    exact hN _ _ (LS.put_then hk hs h2 (Step.refl E s.h w))
  case inr.inl =>
    have harr : c.args = #[x] := by
      apply Array.ext'
      simpa using hx1
    have hrun : (execOp a.eval o).run P w = .ok (.value (a.eval x)) w := by
      unfold execOp
      simp only [ho, resolve, hx, Act.eval, Deferred.ofValue, Sem.run_bind, Sem.run_pure, Result.andThen_ok, invoke, harr]
      simpa [Act.eval] using hf (a.eval x) w
    unfold Oper.wp
    rw [hrun]
    exact hN _ _ (LS.put_then hk hs (hs.ev x) (Step.refl E s.h w))
  rw [callee_run (cvs := []) ho (.func f) hx rfl hct.ok]
  obtain ⟨E0, hs0, hst0⟩ := hw A E w a hA hs
  have hargs := evL_ok hs0 c.args.toList
  rw [List.append_nil]
  refine (call_sound hct.meets hs0.rel hs0.gl hargs hk).mono ?_
  rintro e w' ⟨v, r, H', E', rfl, h1, h2, h3, h4, h5⟩
  have hkI : ∀ b, E0.I b → w'.heap[b]? = w.heap[b]? := hs0.rel.keepI (p := InFoot E0 s0.h) (fun _ h => h) h4.keep
  have h6 := LS.put_then (s := s0) h1 (hs0.step h5 h4.Imono hkI h3) h2 h4
  obtain ⟨s', E'', h7, h8, h9⟩ := h6
  exact hN _ _ ⟨s', E'', h7, h8, hst0.trans h9⟩
theorem callClo_wp {P : Program} {G : Gl} {E : Env} {s : LS} {a : Act} {w : World} {o : Oper} {k : LS → Prop} {Q : Exit → Act → World → Prop} {N : Act → World → Prop}
    (hs : SR G A E s a w) {c : Call} (ho : o.op = .call c) {f : FuncId} {cap : List SV} (x : Operand) (hx : c.callee = .value x) {cvs : List Value} (hev : a.eval x = .func (.func f) #[] cvs.toArray) (hcap : VRs E w cap cvs)
    (h : CallClo P G f c.args.toList cap o.dst s k) (hN : ∀ a' w', Then G A E s w k a' w' → N a' w') : o.wp P a w N Q := by
  obtain ⟨idx, S, hct, hk⟩ := h.out
  rw [callee_run ho x hx hev hct.ok]
  have hargs := (evL_ok hs c.args.toList).append hcap
  refine (call_sound hct.meets hs.rel hs.gl hargs hk).mono ?_
  rintro e w' ⟨v, r, H', E', rfl, h1, h2, h3, h4, h5⟩
  have hkI : ∀ b, E.I b → w'.heap[b]? = w.heap[b]? := hs.rel.keepI (p := InFoot E s.h) (fun _ h => h) h4.keep
  exact hN _ _ (LS.put_then (s := s) h1 (hs.step h5 h4.Imono hkI h3) h2 h4)
theorem pureK_sound {P : Program} {Γ : Ty} (hΓ : TyOk P Γ) {G : Gl} {E : Env} {s : LS} {a : Act} {w : World} {o : Oper} {c : SV → Prop}
    (hs : SR G A E s a w) (h : pureK Γ G o s c) : ∃ e : Sem Value, execOp a.eval o = (do pure (.value (← e))) ∧ PureRun P E w e c := by
  unfold pureK at h
  split at h
  case h_1 x hop => exact ⟨pure (a.eval x), by unfold execOp; rw [hop]; rfl, .mk' (x := s.ev G x) (v := a.eval x) rfl h (hs.ev x)⟩
  case h_2 x hop => exact ⟨pure (a.eval x), by unfold execOp; rw [hop]; rfl, .mk' (x := s.ev G x) (v := a.eval x) rfl h (hs.ev x)⟩
  case h_3 b x y hop =>
    split at h
    · rename_i t ht
      have hev := hs.ev b
      rw [ht] at hev
      have hcv : a.eval b = .bool t := by
        generalize hg : a.eval b = u at hev
        cases hev
        rfl
      refine ⟨do pure (if ← asBool (a.eval b) then a.eval x else a.eval y), by unfold execOp; rw [hop]; simp only [bind_assoc, pure_bind], ?_⟩
      rw [hcv]
      cases t with
      | true => exact .mk' (x := s.ev G x) (v := a.eval x) (by simp [asBool]) (h.yes rfl) (hs.ev x)
      | false => exact .mk' (x := s.ev G y) (v := a.eval y) (by simp [asBool]) (h.no rfl) (hs.ev y)
    · exact h.elim
  case h_4 t parts hop =>
    obtain ⟨h1, h2⟩ := ownsK_out hs.rel h
    have hp := partsEv_ok hs parts.toList
    have := buildK_sound (P := P) (t := t) hΓ hp (fun x hx => h2 x.2 (List.mem_map_of_mem hx)) h1
    have he : (parts.map fun (x : Nat × Operand) => (x.1, a.eval x.2)) = (parts.toList.map fun p => (p.1, a.eval p.2)).toArray := by
      apply Array.ext'
      simp
    exact ⟨_, by unfold execOp; rw [hop], ⟨by rw [he]; exact this.out⟩⟩
  case h_5 t x hop => exact ⟨_, by unfold execOp; rw [hop], loadK_sound hΓ hs.rel (hs.ev x) h⟩
  case h_6 x hop =>
    have hx := hs.ev x
    have key : ∀ u, a.eval x = u → VR E w (s.ev G x) u → ∃ e : Sem Value, execOp a.eval o = (do pure (.value (← e))) ∧ PureRun P E w e c := by
      intro u hu hv
      cases hq : s.ev G x <;> rw [hq] at hv h <;> (try simp only [nilK] at h) <;> try exact h.elim
      case ptr i off =>
        cases hv
        exact ⟨pure (a.eval x), by unfold execOp; rw [hop]; simp only [hu]; rfl, .mk' (x := .ptr i off) (v := a.eval x) rfl h (hq ▸ hx)⟩
      case pim cs =>
        cases cs with
        | nil => exact h.elim
        | cons y cs =>
        simp only [nilK] at h
        cases hv
        exact ⟨pure (a.eval x), by unfold execOp; rw [hop]; simp only [hu]; rfl, .mk' (x := .pim (y :: cs)) (v := a.eval x) rfl h (hq ▸ hx)⟩
      case pown i off =>
        cases hv
        exact ⟨pure (a.eval x), by unfold execOp; rw [hop]; simp only [hu]; rfl, .mk' (x := .pown i off) (v := a.eval x) rfl h (hq ▸ hx)⟩
      case func fn cap =>
        cases fn <;> try exact h.elim
        cases hv
        exact ⟨pure (a.eval x), by unfold execOp; rw [hop]; simp only [hu]; rfl, .mk' (x := .func _ cap) (v := a.eval x) rfl h (hq ▸ hx)⟩
    exact key _ rfl hx
  case h_7 op t x y _ hop => exact ⟨_, by unfold execOp; rw [hop], bin2K_sound hΓ t x y (hs.ev x) (hs.ev y) h⟩
  case h_8 op t x hop =>
    refine ⟨_, by unfold execOp; rw [hop], ?_⟩
    have hx := hs.ev x
    revert h hx
    generalize s.ev G x = p
    generalize a.eval x = u
    intro h hx
    unfold unK at h
    split at h
    · cases hx; exact .mk' (x := .int _ _) (by simp [Op.unary, Op.intArith]) h (.int _ _)
    · cases hx; exact .mk' (x := .int _ _) (by simp [Op.unary, Op.intBits, bitNot, bitXor]) h (.int _ _)
    · cases hx; exact .mk' (x := .bool _) (by simp [Op.unary]) h (.bool _)
    · exact h.elim
  case h_9 b d x hop => exact ⟨_, by unfold execOp; rw [hop], convK_sound hΓ hs.rel (hs.ev x) h⟩
  case h_10 t x lo hi hop => exact ⟨_, by unfold execOp; rw [hop]; rfl, cutK_sound hΓ hs.rel (hs.ev x) (optEv_ok hs lo) (optEv_ok hs hi) h⟩
  case h_11 t x f hop => exact ⟨_, by unfold execOp; rw [hop], faddrK_sound hΓ (hs.ev x) h⟩
  case h_12 t x f hop => exact ⟨_, by unfold execOp; rw [hop], fieldK_sound hΓ (hs.ev x) h⟩
  case h_13 t x i hop => exact ⟨_, by unfold execOp; rw [hop], iaddrK_sound hΓ hs.rel (hs.ev x) (hs.ev i) h⟩
  case h_14 t x i hop => exact ⟨_, by unfold execOp; rw [hop], idxK_sound hΓ (hs.ev x) (hs.ev i) h⟩
  case h_15 t x i ok hop => exact ⟨_, by unfold execOp; rw [hop], lookupK_sound hΓ hs.rel (hs.ev x) (hs.ev i) h⟩
  case h_16 x i hop =>
    refine ⟨_, by unfold execOp; rw [hop], ?_⟩
    have hx := hs.ev x
    revert h hx
    generalize s.ev G x = p
    generalize a.eval x = u
    intro h hx
    cases hx <;> simp only [extractK] at h <;> try exact h.elim
    case tuple l vs hl hh =>
      split at h
      · rename_i v hv
        obtain ⟨z, hz, hzv⟩ := VRs.get (l := l) (vs := vs) ⟨hl, hh⟩ hv
        exact .mk' (x := v) (v := z) (by simp [Instr.extract, hz]) h hzv
      · exact h.elim
  case h_17 fn first cap hop =>
    split at h
    · rename_i hf
      have hfirst : first = #[] := by
        apply Array.ext'
        simpa using hf
      subst hfirst
      have hc := evL_ok hs cap.toList
      refine ⟨_, by unfold execOp; rw [hop], .mk' (x := .func fn (evL G s cap.toList)) (v := .func fn #[] (cap.toList.map a.eval).toArray) ?_ h (.func _ hc.1 hc.2)⟩
      have : cap.map a.eval = (cap.toList.map a.eval).toArray := by
        apply Array.ext'
        simp
      simp [Instr.makeFunc, this]
    · exact h.elim
  case h_18 ca hop =>
    have hargs := evL_ok hs ca.args.toList
    have harr : ca.args.map a.eval = (ca.args.toList.map a.eval).toArray := by
      apply Array.ext'
      simp
    have hex : ∀ b, ca.callee = .builtin b → execOp a.eval o = builtin b ca.argTypes o.type (ca.args.map fun | .const _ => true | _ => false) (ca.args.toList.map a.eval).toArray := by
      intro b hb
      unfold execOp
      rw [hop]
      simp only [resolve, hb, pure_bind, invoke, harr]
      rfl
    split at h
    case h_2 i hb hxs =>
      rw [hxs] at hargs
      obtain ⟨v, hv⟩ : ∃ v, ca.args.toList.map a.eval = [v] := by
        have := hargs.1
        match h9 : ca.args.toList.map a.eval, this with
        | [v], _ => exact ⟨v, rfl⟩
      rw [hv] at hargs
      have h0 := hargs.2 0 _ v rfl rfl
      split at h
      case h_2 => exact h.elim
      rename_i e sz n xs wr hi
      obtain ⟨hn, hk⟩ := h
      cases h0
      rename_i hi0
      rcases (hs.rel.obj i _ hi).row with ⟨_, h2⟩ | ⟨b, cap, vs, fz, g1, g2, g3, g4, _⟩
      · omega
      · exact ⟨_, by rw [hex _ hb, hv]; rfl, .mk' (x := .pown i 0) (v := .pointer (some ⟨b, 0, none⟩)) (by rw [g1]; exact Lib.run_unsafeSliceData_row _ _ _ _ _ _ (by omega)) hk (.pown i 0 b n cap hi0 g1)⟩
    · rename_i t x hb hts hxs
      rw [hxs] at hargs
      have hvs : ∃ v, ca.args.toList.map a.eval = [v] := by
        have := hargs.1
        match h9 : ca.args.toList.map a.eval, this with
        | [v], _ => exact ⟨v, rfl⟩
      obtain ⟨v, hv⟩ := hvs
      rw [hv] at hargs
      have hts' : ca.argTypes = #[t] := by
        apply Array.ext'
        simpa using hts
      refine ⟨_, by rw [hex _ hb, hv, hts']; rfl, lenK_sound (P := P) (T := o.type) hΓ hs.rel (hargs.2 0 x v rfl rfl) h⟩
    · rename_i k m r hb hxs
      rw [hxs] at hargs
      cases hvs : ca.args.toList.map a.eval with
      | nil => rw [hvs] at hargs; have := hargs.1; simp at this
      | cons v vr =>
        rw [hvs] at hargs
        have h0 := hargs.2 0 _ v rfl rfl
        cases h0
        have hr' : VRs E w r vr := ⟨by simpa using hargs.1, fun j y u hy hu => hargs.2 (j + 1) y u (by simpa using hy) (by simpa using hu)⟩
        have := minK_sound (P := P) (mx := true) hr' h
        exact ⟨_, by rw [hex _ hb, hvs]; rfl, by simpa [Builtin.max_] using this⟩
    · rename_i k m r hb hxs
      rw [hxs] at hargs
      cases hvs : ca.args.toList.map a.eval with
      | nil => rw [hvs] at hargs; have := hargs.1; simp at this
      | cons v vr =>
        rw [hvs] at hargs
        have h0 := hargs.2 0 _ v rfl rfl
        cases h0
        have hr' : VRs E w r vr := ⟨by simpa using hargs.1, fun j y u hy hu => hargs.2 (j + 1) y u (by simpa using hy) (by simpa using hu)⟩
        have := minK_sound (P := P) (mx := false) hr' h
        exact ⟨_, by rw [hex _ hb, hvs]; rfl, by simpa [Builtin.min_] using this⟩
    · exact h.elim
  case h_19 => exact h.elim
theorem opK_sound {P : Program} {Γ : Ty} (hΓ : TyOk P Γ) {G : Gl} {n0 : Nat} (hA : A.n = n0) {E : Env} {s : LS} {a : Act} {w : World} {o : Oper} {k : LS → Prop} {Q : Exit → Act → World → Prop} {N : Act → World → Prop}
    (hs : SR G A E s a w) (h : opK P Γ G n0 o s k) (hN : ∀ a' w', Then G A E s w k a' w' → N a' w') : o.wp P a w N Q := by
  have pure_ : ∀ (e : Sem Value), execOp a.eval o = (do pure (.value (← e))) → PureRun P E w e (fun v => s.put o.dst v k) → o.wp P a w N Q :=
    fun e he hp => op_value hs he (PureRun.mem (c := fun x H => LS.put ⟨s.t, H⟩ o.dst x k) hs.rel hp) hN
  have conv_ : ∀ {b c : TypeId} {x : Operand} (i off : Nat) (u : Value), o.op = .convert b c x → VR E w (.ptr i off) (a.eval x) → (match s.h[i]? with
      | some (.cells cs e) => Need (PtrConv P b c e cs.length off) (s.put o.dst (.ptr i off) k)
      | _ => False) → o.wp P a w N Q := by
    intro b c x i off _ hop hx h
    split at h
    case h_2 => exact h.elim
    rename_i cs e hi
    obtain ⟨hc, hk⟩ := h
    obtain ⟨vs, h1, h2, _⟩ := hs.rel.cell hi
    have hsz : vs.toArray.size = cs.length := by simpa using h2.1
    refine pure_ _ (by unfold execOp; rw [hop]) (.mk' (x := .ptr i off) (v := a.eval x) ?_ hk hx)
    generalize a.eval x = u at hx
    cases hx
    cases hc with
    | to ha hb ht hj h => exact Lib.run_to_unsafe w _ ha hb ht hj (e := e) (cells := cs.length) (by simp only [World.shape?, h1, hsz]) h
    | back ha hb hu h => exact Lib.run_from_unsafe w _ ha hb hu (e := e) (cells := cs.length) (by simp only [World.shape?, h1, hsz]) h
  unfold opK at h
  split at h
  case h_1 t hop => exact op_value hs (by unfold execOp; rw [hop]) (allocK_sound hΓ hs.rel h) hN
  case h_2 t x hop => exact op_value hs (by unfold execOp; rw [hop]) (boxK_sound hs.rel (hs.ev x) h) hN
  case h_3 t x v hop =>
    obtain ⟨w', H', h1, h2, h3, h4, h5⟩ := storeK_sound (P := P) hΓ hs.rel (hs.ev x) (hs.ev v) h
    have hw : o.wp P a w N Q = N (a.put o.dst undef) w' := by
      unfold Oper.wp execOp
      simp only [hop, Sem.run_bind, h1, Result.andThen_ok, Sem.run_pure]
      rfl
    rw [hw]
    exact hN _ _ (LS.put_then h2 (hs.step (Env.Le.refl E) (fun _ h => h) h5 h3) (.any _) h4)
  case h_4 b c x hop =>
    split at h
    · rename_i ts e _ _ _ l hts htd hl
      have hx := hs.ev x
      rw [hl] at hx
      exact op_value hs (by unfold execOp; rw [hop]) (toBytesK_sound hΓ hs.rel hx hts h) hN
    · rename_i i off hn hl
      have hx := hs.ev x
      rw [hl] at hx
      exact conv_ i off (.pointer none) hop hx h
    · rename_i i off hn hl _
      have hx := hs.ev x
      rw [hl] at hx
      exact conv_ i off (.pointer none) hop hx h
    · exact pure_ _ (by unfold execOp; rw [hop]) (convK_sound hΓ hs.rel (hs.ev x) h)
  case h_5 t n parts hop =>
    have hp := partsEv_ok hs parts.toList
    have he : (parts.map fun (x : Nat × Operand) => (x.1, a.eval x.2)) = (parts.toList.map fun p => (p.1, a.eval p.2)).toArray := by
      apply Array.ext'
      simp
    have hm := bsliceK_sound (P := P) hΓ hs.rel hp h
    exact op_value hs (by unfold execOp; rw [hop]) ⟨by rw [he]; exact hm.out⟩ hN
  case h_6 t l c hop => exact op_value hs (by unfold execOp; rw [hop]) (makeK_sound hΓ hs.rel (hs.ev l) (hs.ev c) h) hN
  case h_7 t m i v hop =>
    obtain ⟨w', H', h1, h2, h3, h4, h5⟩ := mputK_sound (P := P) hΓ hs.rel (hs.ev m) (hs.ev i) (hs.ev v) h
    have hw : o.wp P a w N Q = N (a.put o.dst undef) w' := by
      unfold Oper.wp execOp
      simp only [hop, Sem.run_bind, h1, Result.andThen_ok, Sem.run_pure]
      rfl
    rw [hw]
    exact hN _ _ (LS.put_then h2 (hs.step (Env.Le.refl E) (fun _ h => h) h5 h3) (.any _) h4)
  case h_8 t hop => exact op_value hs (by unfold execOp; rw [hop]; rfl) (mmapK_sound hs.rel h) hN
  case h_9 c hop =>
    split at h
    · rename_i b hb
      have hargs := evL_ok hs c.args.toList
      have harr : c.args.map a.eval = (c.args.toList.map a.eval).toArray := by
        apply Array.ext'
        simp
      split at h
      · split at h
        case h_2 => exact h.elim
        rename_i x hxs
        rw [hxs] at hargs
        obtain ⟨v, hv⟩ : ∃ v, c.args.toList.map a.eval = [v] := by
          have := hargs.1
          match h9 : c.args.toList.map a.eval, this with
          | [v], _ => exact ⟨v, rfl⟩
        rw [hv] at hargs
        refine op_value hs ?_ (sdataK_sound (P := P) (ts := c.argTypes) hΓ hs.rel (hargs.2 0 x v rfl rfl) h) hN
        unfold execOp
        rw [hop]
        simp only [resolve, hb, pure_bind, invoke, harr, hv]
        rfl
      · split at h
        case h_2 => exact h.elim
        rename_i pt it x n hts hxs
        rw [hxs] at hargs
        obtain ⟨v, u, hv⟩ : ∃ v u, c.args.toList.map a.eval = [v, u] := by
          have := hargs.1
          match h9 : c.args.toList.map a.eval, this with
          | [v, u], _ => exact ⟨v, u, rfl⟩
        rw [hv] at hargs
        have hts' : c.argTypes = #[pt, it] := by
          apply Array.ext'
          simpa using hts
        refine op_value hs ?_ (ustrK_sound (P := P) (pt := pt) (it := it) (T := o.type) hΓ hs.rel (hargs.2 0 x v rfl rfl) (hargs.2 1 n u rfl rfl) h) hN
        unfold execOp
        rw [hop]
        simp only [resolve, hb, pure_bind, invoke, harr, hv, hts']
        rfl
      obtain ⟨e, he, hm⟩ := builtinK_sound (P := P) (consts := c.args.map fun | .const _ => true | _ => false) hΓ hs.rel hargs h
      refine op_value hs ?_ hm hN
      have harr : c.args.map a.eval = (c.args.toList.map a.eval).toArray := by
        apply Array.ext'
        simp
      unfold execOp
      rw [hop]
      simp only [resolve, hb, pure_bind, invoke, harr]
      exact he
    · rename_i f hf
      exact callVC_wp hA hs hop hf h hN
    · rename_i x _ hx
      split at h
      · rename_i f cap hcap
        have hv := hs.ev x
        rw [hcap] at hv
        generalize hg : a.eval x = u at hv
        cases hv
        rename_i cvs hl hh
        exact callClo_wp hs hop x hx hg ⟨hl, hh⟩ h hN
      · exact h.elim
    · exact h.elim
  case h_10 =>
    obtain ⟨e, he, hp⟩ := pureK_sound (P := P) hΓ hs h
    exact pure_ e he hp
end
section

theorem dress_put (ds : List Deferred) (a : Act) (d : Option Tmp) (v : Value) : (dress ds a).put d v = dress ds (a.put d v) := by
  cases d <;> rfl
theorem dress_nil (a : Act) : dress [] a = a := by
  cases a
  simp [dress]
theorem callsIn_ro {ro : Option Nat} {n : Nat} {P : Program} {f : FuncId} {args : Array Value} {w : World} {R : Ending → World → Prop} (h : Calls P f args w R) : CallsIn (wideR ro) n P f args w R :=
  show CallsIn Fence.wide n P f args w R from callsIn_wide.2 h
theorem rowsIn_ro {ro : Option Nat} {n : Nat} {P : Program} {r : String} {args : Array Value} {w : World} {R : Value → World → Prop} (h : Rows P r args w R) : RowsIn (wideR ro) n P r args w R := fun c cs _ => by
  obtain ⟨v, w', h1, h2⟩ := h c cs
  exact ⟨v, w', h1, (stepsIn_wide (P := P)).2 h2⟩
def liftN (ds : List Deferred) (N : Act → World → Prop) : Act → World → Prop := fun a' w' => ∃ a0, a' = dress ds a0 ∧ N a0 w'
theorem upon_lift {P : Program} {ro : Option Nat} {ds : List Deferred} {o : Oper} {a : Act} {N : Act → World → Prop} {Q : Exit → Act → World → Prop} (hQ : ¬ LetsOut Q) {r : Result Next} (h : o.upon P a N Q r) :
    o.uponIn (wideR ro) 0 P (dress ds a) (liftN ds N) (liftQ ds Q) r := by
  cases r with
  | ok x w' =>
    cases x with
    | value v => exact ⟨_, dress_put ds a o.dst v, h⟩
    | skip => exact ⟨_, dress_put ds a o.dst undef, h⟩
    | «defer» d => exact ⟨_, dress_put ds { a with defers := d :: a.defers } o.dst undef, h⟩
    | enter f args =>
      refine ⟨fun hd => (by cases hd), callsIn_ro (Calls.mono h ?_)⟩
      rintro (v | ch | _) w'' h'
      · exact ⟨_, dress_put ds a o.dst v, h'⟩
      · exact ⟨_, rfl, h'⟩
      · exact absurd h' hQ
    | row r args => exact ⟨fun hd => (by cases hd), rowsIn_ro (Rows.mono h fun v w'' h' => ⟨_, dress_put ds a o.dst v, h'⟩)⟩
    | _ => exact h.elim
  | halt x w' =>
    cases x with
    | panic v => exact ⟨_, rfl, h⟩
    | _ => exact h.elim
theorem oper_lift {P : Program} {ro : Option Nat} {ds : List Deferred} {o : Oper} {a : Act} {w : World} {N : Act → World → Prop} {Q : Exit → Act → World → Prop} (hQ : ¬ LetsOut Q) (hc : ro = none ∨ calmO o = true) (h : o.wp P a w N Q) :
    o.wpIn (wideR ro) 0 P (dress ds a) w (liftN ds N) (liftQ ds Q) := by
  refine ⟨fun _ _ => trivial, ?_⟩
  have he : o.semAt (wideR ro).round (dress ds a).eval = execOp a.eval o := by
    show o.semAt ro a.eval = _
    rcases hc with rfl | hc
    · exact Oper.semAt_none _ _
    · refine Oper.semAt_eq _ _ _ fun c hop => ?_
      unfold calmO at hc
      rw [hop] at hc
      cases hc
  rw [he]
  exact upon_lift hQ h
theorem wpList_lift {P : Program} {ro : Option Nat} {ds : List Deferred} {ops : Array Oper} {Q : Exit → Act → World → Prop} (hQ : ¬ LetsOut Q) :
    ∀ (l : List Oper) {a : Act} {w : World}, (ro = none ∨ l.all calmO = true) → wpList P ops Q l a w → wpListIn (wideR ro) 0 P ops (liftQ ds Q) l (dress ds a) w
  | [], a, w, _, h => ⟨a, rfl, h⟩
  | o :: r, a, w, hc, h => by
    have hc1 : ro = none ∨ calmO o = true := hc.imp_right fun h => by simp only [List.all_cons, Bool.and_eq_true] at h; exact h.1
    have hc2 : ro = none ∨ r.all calmO = true := hc.imp_right fun h => by simp only [List.all_cons, Bool.and_eq_true] at h; exact h.2
    unfold wpList at h
    unfold wpListIn
    by_cases hw : Region.wanted o (yielded ops a.tmps) = true
    · rw [if_pos hw] at h
      rw [if_pos (show Region.wanted o (yielded ops (dress ds a).tmps) = true from hw)]
      rcases h with h | h
      · exact Oper.wpIn_mono (fun a' w' ⟨a0, e, h0⟩ => e ▸ wpList_lift hQ r hc2 h0) (oper_lift hQ hc1 h)
      · exact absurd h.2 hQ
    · rw [if_neg hw] at h
      rw [if_neg (show ¬ Region.wanted o (yielded ops (dress ds a).tmps) = true from hw)]
      refine ⟨fun _ _ => trivial, ?_⟩
      rw [dress_put]
      exact wpList_lift hQ r hc2 h
theorem wpAny_lift {P : Program} {ro : Option Nat} {ds : List Deferred} {md : Region.Mode} {ops : Array Oper} {Q : Exit → Act → World → Prop} (hQ : ¬ LetsOut Q) (hc : ro = none ∨ ops.all calmO = true) :
    ∀ (fuel : Nat) {listed : Array Bool} {a : Act} {w : World}, wpAny P md ops Q fuel listed a w → wpAnyIn (wideR ro) 0 P md ops (liftQ ds Q) fuel listed (dress ds a) w
  | 0, listed, a, w, h => ⟨h.1, a, rfl, h.2⟩
  | fuel + 1, listed, a, w, h => by
    refine ⟨fun hr => ⟨a, rfl, h.1 hr⟩, fun i hi => ?_⟩
    have h := h.2 i hi
    unfold wpOp at h
    unfold wpOpIn
    cases ho : ops[i]? with
    | none =>
      simp only [ho] at h ⊢
      exact wpAny_lift hQ hc fuel h
    | some o =>
      simp only [ho] at h ⊢
      by_cases hw : Region.wanted o (yielded ops a.tmps) = true
      · rw [if_pos hw] at h
        rw [if_pos (show Region.wanted o (yielded ops (dress ds a).tmps) = true from hw)]
        rcases h with h | h
        · refine Oper.wpIn_mono (fun a' w' ⟨a0, e, h0⟩ => e ▸ wpAny_lift hQ hc fuel h0) (oper_lift hQ (hc.imp_right fun hc => ?_) h)
          rw [Array.all_eq_true] at hc
          obtain ⟨hlt, he⟩ := Array.getElem?_eq_some_iff.1 ho
          exact he ▸ hc i hlt
        · exact absurd h.2 hQ
      · rw [if_neg hw] at h
        rw [if_neg (show ¬ Region.wanted o (yielded ops (dress ds a).tmps) = true from hw)]
        refine ⟨fun _ _ => trivial, ?_⟩
        rw [dress_put]
        exact wpAny_lift hQ hc fuel h
def onlyN (K : Act → World → Prop) : Exit → Act → World → Prop := fun e a w => e = .normal ∧ K a w
theorem onlyN_out (K : Act → World → Prop) : ¬ LetsOut (onlyN K) := fun ⟨_, _, h⟩ => by cases h.1
theorem liftQ_only {ds : List Deferred} {K : Act → World → Prop} {Q : Exit → Act → World → Prop} (h : ∀ a w, K a w → Q .normal a w) (e : Exit) (a : Act) (w : World) : liftQ ds (onlyN K) e a w → liftQ ds Q e a w := fun ⟨a0, e0, e1, h0⟩ => ⟨a0, e0, e1 ▸ h _ _ h0⟩
end
section
variable {A : Env}

def opsK (P : Program) (Γ : Ty) (G : Gl) (N : Nat) (all : List Oper) : List Oper → LS → (LS → Prop) → Prop
  | [], s, k => k s
  | o :: r, s, k => match o.guard with
    | none => opK P Γ G N o s fun s' => opsK P Γ G N all r s' k
    | some (j, want) => match all[j]? with
      | some oj => match oj.dst with
        | some d => match s.t[d]? with
          | some (.bool b) => match want with
            | true => Both b (setK s.t d (.bool true) fun t => opK P Γ G N o ⟨t, s.h⟩ fun s' => opsK P Γ G N all r s' k) (setK s.t d (.bool false) fun t => LS.put ⟨t, s.h⟩ o.dst (.tuple []) fun s' => opsK P Γ G N all r s' k)
            | false => Both b (setK s.t d (.bool true) fun t => LS.put ⟨t, s.h⟩ o.dst (.tuple []) fun s' => opsK P Γ G N all r s' k) (setK s.t d (.bool false) fun t => opK P Γ G N o ⟨t, s.h⟩ fun s' => opsK P Γ G N all r s' k)
          | some (.tuple []) => s.put o.dst (.tuple []) fun s' => opsK P Γ G N all r s' k
          | _ => False
        | none => False
      | none => False
theorem Then.bind {G : Gl} {E : Env} {s : LS} {w : World} {k k' : LS → Prop} {a1 : Act} {w1 : World} {a2 : Act} {w2 : World} {s1 : LS} {E1 : Env}
    (hst : Step E s.h w E1 s1.h w1) (h : Then G A E1 s1 w1 k a2 w2) : Then G A E s w k a2 w2 := by
  obtain ⟨s2, E2, h1, h2, h3⟩ := h
  exact ⟨s2, E2, h1, h2, hst.trans h3⟩
theorem undef_ok (E : Env) (w : World) : VR E w (.tuple []) undef := VR.tuple [] rfl fun j x v hx => by simp at hx
theorem VRs.same {E : Env} {w : World} {l : List SV} {vs : List Value} (h : VRs E w l vs) {d : Nat} {v : Value} {x : SV} (hd : vs[d]? = some v) (hx : VR E w x v) : VRs E w (l.set d x) vs := by
  have h1 := h.set_ d hx
  have : vs.set d v = vs := by
    apply List.ext_getElem?
    intro j
    rw [List.getElem?_set]
    split
    · rename_i he
      subst he
      split
      · exact hd.symm
      · rename_i hlt
        rw [List.getElem?_eq_none (by omega)]
    · rfl
  rwa [this] at h1
theorem opsK_sound {P : Program} {Γ : Ty} (hΓ : TyOk P Γ) {G : Gl} {n0 : Nat} (hA : A.n = n0) {ops : Array Oper} {Q : Exit → Act → World → Prop} :
    ∀ (l : List Oper) {E : Env} {s : LS} {a : Act} {w : World} {k : LS → Prop}, SR G A E s a w → opsK P Γ G n0 ops.toList l s k → (∀ a' w', Then G A E s w k a' w' → Q .normal a' w') → wpList P ops Q l a w
  | [], E, s, a, w, k, hs, h, hQ => hQ a w ⟨s, E, h, hs, Step.refl E s.h w⟩
  | o :: r, E, s, a, w, k, hs, h, hQ => by
    have go : ∀ {t : List SV}, VRs E w t a.tmps.toList → Region.wanted o (yielded ops a.tmps) = true → (opK P Γ G n0 o ⟨t, s.h⟩ fun s' => opsK P Γ G n0 ops.toList r s' k) → wpList P ops Q (o :: r) a w := by
      intro t ht hw h
      have hs' : SR G A E ⟨t, s.h⟩ a w := ⟨hs.anc, ht, hs.rel, hs.gl, hs.nod⟩
      unfold wpList
      rw [if_pos hw]
      refine .inl (opK_sound hΓ hA hs' h ?_)
      rintro a' w' ⟨s1, E1, h1, h2, h3⟩
      exact opsK_sound hΓ hA r h2 h1 fun a2 w2 ht => hQ a2 w2 (Then.bind (k' := k) (a1 := a') h3 ht)
    have skip : ∀ {t : List SV}, VRs E w t a.tmps.toList → Region.wanted o (yielded ops a.tmps) = false → (LS.put ⟨t, s.h⟩ o.dst (.tuple []) fun s' => opsK P Γ G n0 ops.toList r s' k) → wpList P ops Q (o :: r) a w := by
      intro t ht hw h
      have hs' : SR G A E ⟨t, s.h⟩ a w := ⟨hs.anc, ht, hs.rel, hs.gl, hs.nod⟩
      unfold wpList
      rw [hw]
      simp only [Bool.false_eq_true, if_false]
      obtain ⟨s1, E1, h1, h2, h3⟩ := LS.put_then (s := ⟨t, s.h⟩) h hs' (undef_ok E w) (Step.refl E s.h w)
      exact opsK_sound hΓ hA r h2 h1 fun a2 w2 ht => hQ a2 w2 (Then.bind (k' := k) (a1 := a) h3 ht)
    unfold opsK at h
    split at h
    · rename_i hg
      exact go hs.vals (by simp [Region.wanted, hg]) h
    · rename_i j want hg
      split at h
      · rename_i oj hoj
        split at h
        · rename_i d hd
          have hoj' : ops[j]? = some oj := by rw [← hoj]; simp
          have hy : ∀ v, a.tmps[d]? = some v → yielded ops a.tmps j = (match v with | .bool b => some b | _ => none) := by
            intro v hv
            unfold yielded
            simp only [hoj', Option.bind_some, hd, hv]
            cases v <;> rfl
          split at h
          · rename_i b hb
            obtain ⟨v, hv1, hv2⟩ := hs.vals.get hb
            cases hv2
            have hy' := hy (.bool b) (by rw [← hv1]; simp)
            split at h
            · cases b with
              | true =>
                have h := h.yes rfl
                rw [setK_eq] at h
                exact go (hs.vals.same hv1 (.bool true)) (by simp [Region.wanted, hg, hy']) h
              | false =>
                have h := h.no rfl
                rw [setK_eq] at h
                exact skip (hs.vals.same hv1 (.bool false)) (by simp [Region.wanted, hg, hy']) h
            · cases b with
              | true =>
                have h := h.yes rfl
                rw [setK_eq] at h
                exact skip (hs.vals.same hv1 (.bool true)) (by simp [Region.wanted, hg, hy']) h
              | false =>
                have h := h.no rfl
                rw [setK_eq] at h
                exact go (hs.vals.same hv1 (.bool false)) (by simp [Region.wanted, hg, hy']) h
          · rename_i hb
            obtain ⟨v, hv1, hv2⟩ := hs.vals.get hb
            cases hv2
            have hy' := hy (.tuple _) (by rw [← hv1]; simp)
            exact skip hs.vals (by simp [Region.wanted, hg, hy']) h
          · exact h.elim
        · exact h.elim
      · exact h.elim
def stillsK (Γ : Ty) (G : Gl) (all : List Oper) : List Oper → LS → (LS → Prop) → Prop
  | [], s, k => k s
  | o :: r, s, k => match o.guard with
    | none => pureK Γ G o s fun v => s.put o.dst v fun s' => stillsK Γ G all r s' k
    | some (j, want) => match all[j]? with
      | some oj => match oj.dst with
        | some d => match s.t[d]? with
          | some (.bool b) => match want with
            | true => Both b (setK s.t d (.bool true) fun t => pureK Γ G o ⟨t, s.h⟩ fun v => LS.put ⟨t, s.h⟩ o.dst v fun s' => stillsK Γ G all r s' k) (setK s.t d (.bool false) fun t => LS.put ⟨t, s.h⟩ o.dst (.tuple []) fun s' => stillsK Γ G all r s' k)
            | false => Both b (setK s.t d (.bool true) fun t => LS.put ⟨t, s.h⟩ o.dst (.tuple []) fun s' => stillsK Γ G all r s' k) (setK s.t d (.bool false) fun t => pureK Γ G o ⟨t, s.h⟩ fun v => LS.put ⟨t, s.h⟩ o.dst v fun s' => stillsK Γ G all r s' k)
          | some (.tuple []) => s.put o.dst (.tuple []) fun s' => stillsK Γ G all r s' k
          | _ => False
        | none => False
      | none => False
theorem put_still {G : Gl} {E : Env} {s : LS} {a : Act} {w : World} {d : Option Tmp} {x : SV} {v : Value} {k : LS → Prop}
    (hk : s.put d x k) (hs : SR G A E s a w) (hx : VR E w x v) : ∃ s', k s' ∧ SR G A E s' (a.put d v) w ∧ s'.h = s.h := by
  cases d with
  | none => exact ⟨s, hk, hs, rfl⟩
  | some d =>
    simp only [LS.put, forceK_eq, setK_eq] at hk
    refine ⟨_, hk, ⟨hs.anc, ?_, hs.rel, hs.gl, hs.nod⟩, rfl⟩
    show VRs E w (s.t.set d x) (a.tmps.setIfInBounds d v).toList
    rw [Array.toList_setIfInBounds]
    exact hs.vals.set_ d hx
theorem stillsK_sound {P : Program} {Γ : Ty} (hΓ : TyOk P Γ) {G : Gl} {ops : Array Oper} {E : Env} {w : World} {Q : Act → Prop} :
    ∀ (l : List Oper) {s : LS} {a : Act} {k : LS → Prop}, SR G A E s a w → stillsK Γ G ops.toList l s k → (∀ s' a', k s' → SR G A E s' a' w → s'.h = s.h → Q a') → wpStill P ops w Q l a
  | [], s, a, k, hs, h, hQ => hQ s a h hs rfl
  | o :: r, s, a, k, hs, h, hQ => by
    have go : ∀ {t : List SV}, VRs E w t a.tmps.toList → Region.wanted o (yielded ops a.tmps) = true → (pureK Γ G o ⟨t, s.h⟩ fun v => LS.put ⟨t, s.h⟩ o.dst v fun s' => stillsK Γ G ops.toList r s' k) → wpStill P ops w Q (o :: r) a := by
      intro t ht hw h
      have hs' : SR G A E ⟨t, s.h⟩ a w := ⟨hs.anc, ht, hs.rel, hs.gl, hs.nod⟩
      unfold wpStill
      rw [if_pos hw]
      obtain ⟨e, he, hp⟩ := pureK_sound (P := P) hΓ hs' h
      obtain ⟨x, v, h1, h2, h3⟩ := hp.out
      unfold Oper.still
      rw [he]
      simp only [Sem.run_bind, h1, Result.andThen_ok, Sem.run_pure, Oper.stillUpon]
      refine ⟨trivial, ?_⟩
      obtain ⟨s1, h4, h5, h6⟩ := put_still h2 hs' h3
      exact stillsK_sound hΓ r h5 h4 fun s' a' hk hs' hh => hQ s' a' hk hs' (hh.trans h6)
    have skip : ∀ {t : List SV}, VRs E w t a.tmps.toList → Region.wanted o (yielded ops a.tmps) = false → (LS.put ⟨t, s.h⟩ o.dst (.tuple []) fun s' => stillsK Γ G ops.toList r s' k) → wpStill P ops w Q (o :: r) a := by
      intro t ht hw h
      have hs' : SR G A E ⟨t, s.h⟩ a w := ⟨hs.anc, ht, hs.rel, hs.gl, hs.nod⟩
      unfold wpStill
      rw [hw]
      simp only [Bool.false_eq_true, if_false]
      obtain ⟨s1, h4, h5, h6⟩ := put_still h hs' (undef_ok E w)
      exact stillsK_sound hΓ r h5 h4 fun s' a' hk hs' hh => hQ s' a' hk hs' (hh.trans h6)
    unfold stillsK at h
    split at h
    · rename_i hg
      exact go hs.vals (by simp [Region.wanted, hg]) h
    · rename_i j want hg
      split at h
      · rename_i oj hoj
        split at h
        · rename_i d hd
          have hoj' : ops[j]? = some oj := by rw [← hoj]; simp
          have hy : ∀ v, a.tmps[d]? = some v → yielded ops a.tmps j = (match v with | .bool b => some b | _ => none) := by
            intro v hv
            unfold yielded
            simp only [hoj', Option.bind_some, hd, hv]
            cases v <;> rfl
          split at h
          · rename_i b hb
            obtain ⟨v, hv1, hv2⟩ := hs.vals.get hb
            cases hv2
            have hy' := hy (.bool b) (by rw [← hv1]; simp)
            split at h
            · cases b with
              | true =>
                have h := h.yes rfl
                rw [setK_eq] at h
                exact go (hs.vals.same hv1 (.bool true)) (by simp [Region.wanted, hg, hy']) h
              | false =>
                have h := h.no rfl
                rw [setK_eq] at h
                exact skip (hs.vals.same hv1 (.bool false)) (by simp [Region.wanted, hg, hy']) h
            · cases b with
              | true =>
                have h := h.yes rfl
                rw [setK_eq] at h
                exact skip (hs.vals.same hv1 (.bool true)) (by simp [Region.wanted, hg, hy']) h
              | false =>
                have h := h.no rfl
                rw [setK_eq] at h
                exact go (hs.vals.same hv1 (.bool false)) (by simp [Region.wanted, hg, hy']) h
          · rename_i hb
            obtain ⟨v, hv1, hv2⟩ := hs.vals.get hb
            cases hv2
            have hy' := hy (.tuple _) (by rw [← hv1]; simp)
            exact skip hs.vals (by simp [Region.wanted, hg, hy']) h
          · exact h.elim
        · exact h.elim
      · exact h.elim
def exThen (next : LS → Prop) (K : Exit → LS → Prop) (e : Exit) (s : LS) : Prop :=
  match e with
  | .normal => next s
  | e => K e s
def exBlock (id : Nat) (K : Exit → LS → Prop) (e : Exit) (s : LS) : Prop :=
  match e with
  | .exit id' => match Nat.beq id' id with
    | true => K .normal s
    | false => K (.exit id') s
  | e => K e s
def exScope (K : Exit → LS → Prop) (e : Exit) (s : LS) : Prop :=
  match e with
  | .goto _ => False
  | e => K e s
structure LoopVC (P : Program) (G : Gl) (N : Nat) (c : Code) (s : LS) (K : Exit → LS → Prop) : Prop where
  out : Wp P G N (.loop c) s K
structure OtherVC (P : Program) (G : Gl) (N : Nat) (c : Code) (s : LS) (K : Exit → LS → Prop) : Prop where
  out : Wp P G N c s K
structure DrawVC (P : Program) (Γ : Ty) (G : Gl) (N : Nat) (id : Nat) (ops : Array Oper) (s : LS) (K : Exit → LS → Prop) : Prop where
  out : Wp P G N (.region id ops true) s K
def sx (P : Program) (Γ : Ty) (G : Gl) (N : Nat) : Code → LS → (Exit → LS → Prop) → Prop
  | .skip, s, K => K .normal s
  | .label _, s, K => K .normal s
  | .region _ ops false, s, K => opsK P Γ G N ops.toList ops.toList s (K .normal)
  | .region id ops true, s, K => DrawVC P Γ G N id ops s K
  | .seq a b, s, K => sx P Γ G N a s (exThen (fun s' => sx P Γ G N b s' K) K)
  | .cond c a b, s, K => match s.ev G c with
    | .bool t => Both t (sx P Γ G N a s K) (sx P Γ G N b s K)
    | _ => False
  | .block id c, s, K => sx P Γ G N c s (exBlock id K)
  | .scope c, s, K => sx P Γ G N c s (exScope K)
  | .loop c, s, K => LoopVC P G N c s K
  | .exit id, s, K => K (.exit id) s
  | .ret, s, K => K .ret s
  | c, s, K => OtherVC P G N c s K
theorem WpX.mono {P : Program} {G : Gl} {N : Nat} {X : Cx} {c : Code} {s : LS} {K K' : Exit → LS → Prop} (h : WpX P G N X c s K) (hk : ∀ e s, K e s → K' e s) : WpX P G N X c s K' := fun A E w a hA hs hJ =>
  wpIn_mono (h A E w a hA hs hJ) fun e a' w' ⟨a0, e0, s1, E1, h1, h2, h3⟩ => ⟨a0, e0, s1, E1, hk e s1 h1, h2, h3⟩
theorem WpX.weak {P : Program} {G : Gl} {N : Nat} {X : Cx} {c : Code} {s s' : LS} {K : Exit → LS → Prop} (hw : Weak G N s s') (h : WpX P G N X c s' K) : WpX P G N X c s K := fun A E w a hA hs hJ => by
  obtain ⟨E1, h1, h2⟩ := hw A E w a hA hs
  exact wpIn_mono (h A E1 w a hA h1 (X.keep _ _ _ _ _ _ _ hJ h2)) fun e a' w' ⟨a0, e0, ht⟩ => ⟨a0, e0, Then.bind (k' := K e) (a1 := a) h2 ht⟩
theorem Wp.mono {P : Program} {G : Gl} {N : Nat} {c : Code} {s : LS} {K K' : Exit → LS → Prop} (h : Wp P G N c s K) (hk : ∀ e s, K e s → K' e s) : Wp P G N c s K' := fun X hX => (h X hX).mono hk
theorem Wp.weak {P : Program} {G : Gl} {N : Nat} {c : Code} {s s' : LS} {K : Exit → LS → Prop} (hw : Weak G N s s') (h : Wp P G N c s' K) : Wp P G N c s K := fun X hX => (h X hX).weak hw
theorem WpX.seq {P : Program} {G : Gl} {N : Nat} {X : Cx} {x y : Code} {s : LS} {K : Exit → LS → Prop} (h : WpX P G N X x s (exThen (fun s' => WpX P G N X y s' K) K)) : WpX P G N X (.seq x y) s K := fun A E w a hA hs hJ => by
  refine wpIn_seq (wpIn_mono (h A E w a hA hs hJ) ?_)
  rintro e a' w' ⟨a0, e0, s1, E1, h1, h2, h3⟩
  cases e with
  | normal =>
    subst e0
    exact wpIn_mono (h1 A E1 w' a0 hA h2 (X.keep _ _ _ _ _ _ _ hJ h3)) fun e a2 w2 ⟨a3, e3, ht⟩ => ⟨a3, e3, Then.bind (k' := K e) (a1 := a0) h3 ht⟩
  | exit id => exact ⟨a0, e0, s1, E1, h1, h2, h3⟩
  | goto l => exact ⟨a0, e0, s1, E1, h1, h2, h3⟩
  | ret => exact ⟨a0, e0, s1, E1, h1, h2, h3⟩
  | panic ch => exact ⟨a0, e0, s1, E1, h1, h2, h3⟩
  | outgrown => exact ⟨a0, e0, s1, E1, h1, h2, h3⟩
theorem WpX.cond {P : Program} {G : Gl} {N : Nat} {X : Cx} {c : Operand} {x y : Code} {s : LS} {K : Exit → LS → Prop} {t : Bool} (ht : s.ev G c = .bool t) (h : Both t (WpX P G N X x s K) (WpX P G N X y s K)) : WpX P G N X (.cond c x y) s K := fun A E w a hA hs hJ => by
  have hev := hs.ev c
  rw [ht] at hev
  have hcv : (dress X.ds a).eval c = .bool t := by
    show a.eval c = .bool t
    generalize hg : a.eval c = u at hev
    cases hev
    rfl
  cases t with
  | true => exact wpIn_cond hcv (h.yes rfl A E w a hA hs hJ)
  | false => exact wpIn_cond hcv (h.no rfl A E w a hA hs hJ)
theorem WpX.block {P : Program} {G : Gl} {N : Nat} {X : Cx} {id : Nat} {c : Code} {s : LS} {K : Exit → LS → Prop} (h : WpX P G N X c s (exBlock id K)) : WpX P G N X (.block id c) s K := fun A E w a hA hs hJ => by
  refine wpIn_block (wpIn_mono (h A E w a hA hs hJ) ?_)
  rintro e a' w' ⟨a0, e0, s1, E1, h1, h2, h3⟩
  cases e with
  | normal => exact ⟨a0, e0, s1, E1, h1, h2, h3⟩
  | exit id' =>
    simp only [exBlock] at h1
    simp only [Exit.inBlock]
    split at h1
    · rename_i hb
      rw [if_pos (Nat.eq_of_beq_eq_true hb)]
      exact ⟨a0, e0, s1, E1, h1, h2, h3⟩
    · rename_i hb
      rw [if_neg (Nat.ne_of_beq_eq_false hb)]
      exact ⟨a0, e0, s1, E1, h1, h2, h3⟩
  | goto l => exact ⟨a0, e0, s1, E1, h1, h2, h3⟩
  | ret => exact ⟨a0, e0, s1, E1, h1, h2, h3⟩
  | panic ch => exact ⟨a0, e0, s1, E1, h1, h2, h3⟩
  | outgrown => exact ⟨a0, e0, s1, E1, h1, h2, h3⟩
theorem stepR_scope {P : Program} {b : Frame} {a : Act} {k : List Item} {cs : List Frame} {w : World} {c : Code} : step P (lone (b.atR a (.code (.scope c) :: k)) cs w) = .next (lone (b.atR a (.code c :: .inScope c :: k)) cs w) :=
  step_lone_go (by simp [stepG, stepG.exec, Frame.atR])
theorem stepR_inScope {P : Program} {b : Frame} {a : Act} {k : List Item} {cs : List Frame} {w : World} {c : Code} : step P (lone (b.atR a (.inScope c :: k)) cs w) = .next (lone (b.atR a k) cs w) :=
  step_lone_go (by simp [stepG, stepG.exec, Frame.atR])
theorem wpIn_scope {F : Fence} {n : Nat} {P : Program} {Q : Exit → Act → World → Prop} {a : Act} {w : World} {c : Code} (h : c.wpIn F n P (Exit.noGoto Q) a w) : (Code.scope c).wpIn F n P Q a w := by
  intro b k cs hro hb hr
  have h0 : (lone (b.atR a (.code (.scope c) :: k)) cs w).fenced P F := fenced_calm hb hr rfl
  obtain ⟨e, a₁, w₁, hq, harr⟩ := h b (.inScope c :: k) cs hro hb hr
  cases e with
  | normal => exact ⟨.normal, a₁, w₁, hq, .head h0 stepR_scope (StepsIn.trans harr (.one (fenced_calm hb hr rfl) stepR_inScope))⟩
  | exit id =>
    have hx : exitTo id (.inScope c :: k) = exitTo id k := by simp [exitTo]
    exact ⟨.exit id, a₁, w₁, hq, fun k' hk => .head h0 stepR_scope (harr.1 k' (by rw [hx]; exact hk)),
      fun hr' hk => let ⟨k₁, h1, h2⟩ := harr.2 hr' (by rw [hx]; exact hk); ⟨k₁, h1, .head h0 stepR_scope h2⟩⟩
  | goto l => exact hq.elim
  | ret => exact ⟨_, a₁, w₁, hq, .of_steps (.one h0 stepR_scope) harr⟩
  | panic ch => exact ⟨_, a₁, w₁, hq, .of_steps (.one h0 stepR_scope) harr⟩
  | outgrown => exact ⟨_, a₁, w₁, hq, .of_steps (.one h0 stepR_scope) harr⟩
theorem WpX.scope {P : Program} {G : Gl} {N : Nat} {X : Cx} {c : Code} {s : LS} {K : Exit → LS → Prop} (h : WpX P G N X c s (exScope K)) : WpX P G N X (.scope c) s K := fun A E w a hA hs hJ => by
  refine wpIn_scope (wpIn_mono (h A E w a hA hs hJ) ?_)
  rintro e a' w' ⟨a0, e0, s1, E1, h1, h2, h3⟩
  cases e with
  | normal => exact ⟨a0, e0, s1, E1, h1, h2, h3⟩
  | exit id => exact ⟨a0, e0, s1, E1, h1, h2, h3⟩
  | goto l => exact h1.elim
  | ret => exact ⟨a0, e0, s1, E1, h1, h2, h3⟩
  | panic ch => exact ⟨a0, e0, s1, E1, h1, h2, h3⟩
  | outgrown => exact ⟨a0, e0, s1, E1, h1, h2, h3⟩
theorem WpX.region {P : Program} {Γ : Ty} (hΓ : TyOk P Γ) {G : Gl} {N : Nat} {X : Cx} {id : Nat} {ops : Array Oper} {s : LS} {K : Exit → LS → Prop} (hc : X.ro = none ∨ ops.all calmO = true) (h : opsK P Γ G N ops.toList ops.toList s (K .normal)) :
    WpX P G N X (.region id ops false) s K := fun A E w a hA hs hJ =>
  wpIn_mono (wpIn_region_list (wpList_lift (Q := onlyN fun a' w' => Then G A E s w (K .normal) a' w') (onlyN_out _) ops.toList (hc.imp_right fun h => by rwa [Array.all_toList]) (opsK_sound hΓ hA ops.toList hs h fun a' w' ht => ⟨rfl, ht⟩))) (liftQ_only fun a w h => h)
theorem calm_and {ro : Option Nat} {x y : Bool} (h : ro = none ∨ (x && y) = true) : (ro = none ∨ x = true) ∧ (ro = none ∨ y = true) := by
  rcases h with h | h
  · exact ⟨.inl h, .inl h⟩
  · rw [Bool.and_eq_true] at h
    exact ⟨.inr h.1, .inr h.2⟩
theorem sx_sound {P : Program} {Γ : Ty} (hΓ : TyOk P Γ) {G : Gl} {N : Nat} : ∀ (c : Code) {s : LS} {K : Exit → LS → Prop}, sx P Γ G N c s K → Wp P G N c s K
  | .skip, s, K, h => fun X _ A E w a hA hs _ => wpIn_skip ⟨a, rfl, s, E, h, hs, Step.refl E s.h w⟩
  | .label l, s, K, h => fun X _ A E w a hA hs _ => wpIn_label ⟨a, rfl, s, E, h, hs, Step.refl E s.h w⟩
  | .region id ops false, s, K, h => fun X hX => WpX.region hΓ hX h
  | .region id ops true, s, K, h => h.out
  | .seq x y, s, K, h => fun X hX => WpX.seq ((sx_sound hΓ x h X (calm_and hX).1).mono fun e s' h' => by
      cases e with
      | normal => exact sx_sound hΓ y h' X (calm_and hX).2
      | _ => exact h')
  | .cond c x y, s, K, h => fun X hX => by
    unfold sx at h
    split at h
    · rename_i t ht
      exact WpX.cond ht ⟨fun e => sx_sound hΓ x (h.yes e) X (calm_and hX).1, fun e => sx_sound hΓ y (h.no e) X (calm_and hX).2⟩
    · exact h.elim
  | .block id c, s, K, h => fun X hX => WpX.block (sx_sound hΓ c h X hX)
  | .loop c, s, K, h => h.out
  | .exit id, s, K, h => fun X _ A E w a hA hs _ => wpIn_exit ⟨a, rfl, s, E, h, hs, Step.refl E s.h w⟩
  | .ret, s, K, h => fun X _ A E w a hA hs _ => wpIn_ret ⟨a, rfl, s, E, h, hs, Step.refl E s.h w⟩
  | .rangeFunc _ _ _ _, s, K, h => h.out
  | .scope c, s, K, h => fun X hX => WpX.scope (sx_sound hΓ c h X hX)
  | .goto _, s, K, h => h.out
  | .refuse _, s, K, h => h.out
theorem wpAny_tail {P : Program} {Q : Exit → Act → World → Prop} {a : Act} {w : World} {l : List Oper} (n : Nat) (hB : Region.lexTailB .any l.toArray n = true)
    (h : wpStill P l.toArray w (fun a' => wpList P l.toArray Q (l.drop n) a' w) (l.take n) a) : wpAny P .any l.toArray Q l.toArray.size (Array.replicate l.toArray.size false) a w := by
  simp only [Region.lexTailB, Bool.and_eq_true, decide_eq_true_eq] at hB
  obtain ⟨⟨⟨⟨c1, c2⟩, c3⟩, c4⟩, c5⟩ := hB
  have e1 : (l.take n).length = n := by simp at c2 ⊢; omega
  have e2 : (l.drop n).length = l.toArray.size - n := by simp
  have inv : HeadInv .any l.toArray n (Array.replicate l.toArray.size false) :=
    ⟨by simp, fun j oj _ hl => (by rw [getD_replicate_false] at hl; cases hl), fun t _ ht => getD_in (by simpa using ht) (getD_replicate_false _ _)⟩
  have hd := wpAnyL_lex (md := .any) (g := l.toArray.size - n) c1 c3 c4 c2 (l.take n) 0 _ a (fun j hj => by
    rw [e1] at hj
    simp [hj]) (by simpa using e1) inv (by rw [e1]; exact c5) h
  have := wpAny_of_head (Q' := Q) (g := l.toArray.size - n) (fun listed a' hL => by
    have := wpAny_of_seq (md := .any) (Q' := Q) (l.drop n) n listed a' w (fun j => by simp [List.getElem?_drop]) (by rw [e2]; exact hL.1) hL.2
    rwa [e2] at this) _ _ _ hd
  rw [e1, show n + (l.toArray.size - n) = l.toArray.size by simp at c2 ⊢; omega] at this
  exact this
theorem DrawVC.tail {P : Program} {Γ : Ty} (hΓ : TyOk P Γ) {G : Gl} {N : Nat} {id : Nat} {ops : Array Oper} {s : LS} {K : Exit → LS → Prop} (n : Nat) (hm : P.follows .mixedOrders = true)
    (hB : Region.lexTailB .any ops n = true) (h : stillsK Γ G ops.toList (ops.toList.take n) s fun s' => opsK P Γ G N ops.toList (ops.toList.drop n) s' (K .normal)) : DrawVC P Γ G N id ops s K := by
  refine ⟨fun X hX A E w a hA hs hJ => ?_⟩
  obtain ⟨l⟩ := ops
  have hs' : SR G A E s a { w with drawn := w.drawn + 1 } := ⟨hs.anc, VRs.kept (w := w) (w' := { w with drawn := w.drawn + 1 }) (Env.Le.refl E) (fun _ h => h) (fun _ _ => rfl) hs.vals, ?_, hs.gl.kept (w := w) (w' := { w with drawn := w.drawn + 1 }) (fun _ h => h) (fun _ _ => rfl), hs.nod⟩
  · refine wpIn_mono (wpIn_region_any hm (wpAny_lift (Q := onlyN fun a' w' => Then G A E s w (K .normal) a' w') (onlyN_out _) hX _ (wpAny_tail n hB ?_))) (liftQ_only fun a w h => h)
    refine stillsK_sound (G := G) (s := s) hΓ _ hs' h ?_
    intro s1 a1 h1 h2 h3
    refine opsK_sound hΓ hA _ h2 h1 fun a2 w2 ht => ?_
    obtain ⟨s2, E2, h4, h5, h6⟩ := ht
    rw [h3] at h6
    exact ⟨rfl, s2, E2, h4, h5, ⟨h6.size, h6.keep, h6.os, h6.tape, h6.output, h6.foot', h6.Imono, h6.Inew⟩⟩
  · exact ⟨hs.rel.len, fun i o hi => ObjR.kept (w := w) (w' := { w with drawn := w.drawn + 1 }) (Env.Le.refl E) (fun _ h => h) (fun _ _ => rfl) (hs.rel.lt hi) (fun _ _ => rfl) (hs.rel.obj i o hi), hs.rel.sep, hs.rel.imm, hs.rel.ltI⟩
theorem WpX.loop {P : Program} {G : Gl} {N : Nat} {X : Cx} {c : Code} {s : LS} {K : Exit → LS → Prop} {α : Type} (st : α → LS) (I : α → Prop) (mu : α → Nat) (x0 : α) (h0 : I x0) (hw : Weak G N s (st x0))
    (hround : ∀ x, I x → WpX P G N X c (st x) (exThen (fun s' => ∃ y, I y ∧ mu y < mu x ∧ Weak G N s' (st y)) K)) : WpX P G N X (.loop c) s K := by
  intro A E w a hA hs hJ
  obtain ⟨E0, hs0, hst0⟩ := hw A E w a hA hs
  have hJ0 := X.keep _ _ _ _ _ _ _ hJ hst0
  refine wpIn_mono (?_ : (Code.loop c).wpIn (wideR X.ro) 0 P (liftQ X.ds fun e a' w' => Then G A E0 (st x0) w (K e) a' w') (dress X.ds a) w) fun e a' w' ⟨a0, e0, ht⟩ => ⟨a0, e0, Then.bind (k' := K e) (a1 := a) hst0 ht⟩
  intro b k cs hro hb hr
  have key : ∀ n x E1 a1 w1, mu x = n → I x → SR G A E1 (st x) a1 w1 → X.J A E1 (st x).h w1 →
      ∃ e a' w', liftQ X.ds (fun e a' w' => Then G A E1 (st x) w1 (K e) a' w') e a' w' ∧ ArrivesIn (Machine.fenced P (wideR X.ro)) P (lone (b.atR (dress X.ds a1) (.code c :: .inLoop c :: k)) cs w1) b k cs e a' w' := by
    intro n
    induction n using Nat.strongRecOn with
    | _ n ih =>
      intro x E1 a1 w1 hn hI hs1 hJ1
      obtain ⟨e, a2, w2, ⟨a3, e3, s2, E2, h1, h2, h3⟩, harr⟩ := hround x hI A E1 w1 a1 hA hs1 hJ1 b (.inLoop c :: k) cs hro hb hr
      cases e with
      | normal =>
        obtain ⟨y, hy1, hy2, hy3⟩ := h1
        obtain ⟨E3, h4, h5⟩ := hy3 A E2 w2 a3 hA h2
        obtain ⟨e', a4, w3, ⟨a5, e5, hq3⟩, harr3⟩ := ih (mu y) (hn ▸ hy2) y E3 a3 w2 rfl hy1 h4 (X.keep _ _ _ _ _ _ _ (X.keep _ _ _ _ _ _ _ hJ1 h3) h5)
        subst e3
        exact ⟨e', a4, w3, ⟨a5, e5, Then.bind (k' := K e') (a1 := a3) (h3.trans h5) hq3⟩, .of_steps (StepsIn.trans harr (.one (fenced_calm hb hr rfl) stepR_inLoop)) harr3⟩
      | exit id => exact ⟨_, a2, w2, ⟨a3, e3, s2, E2, h1, h2, h3⟩, .pass (x := .inLoop c) rfl (fun _ _ => .inl (by simp)) harr⟩
      | goto l => exact ⟨_, a2, w2, ⟨a3, e3, s2, E2, h1, h2, h3⟩, .pass (x := .inLoop c) rfl (fun _ _ => .inl (by simp)) harr⟩
      | ret => exact ⟨_, a2, w2, ⟨a3, e3, s2, E2, h1, h2, h3⟩, .pass (x := .inLoop c) rfl (fun _ _ => .inl (by simp)) harr⟩
      | panic ch => exact ⟨_, a2, w2, ⟨a3, e3, s2, E2, h1, h2, h3⟩, .pass (x := .inLoop c) rfl (fun _ _ => .inl (by simp)) harr⟩
      | outgrown => exact ⟨_, a2, w2, ⟨a3, e3, s2, E2, h1, h2, h3⟩, .pass (x := .inLoop c) rfl (fun _ _ => .inl (by simp)) harr⟩
  obtain ⟨e, a', w', hq, harr⟩ := key _ x0 E0 a w rfl h0 hs0 hJ0
  exact ⟨e, a', w', hq, .of_steps (.one (fenced_calm hb hr rfl) stepR_loop) harr⟩
theorem loop_rule {P : Program} {G : Gl} {N : Nat} {c : Code} {s : LS} {K : Exit → LS → Prop} {α : Type} (st : α → LS) (I : α → Prop) (mu : α → Nat) (x0 : α) (h0 : I x0) (hw : Weak G N s (st x0))
    (hround : ∀ x, I x → Wp P G N c (st x) (exThen (fun s' => ∃ y, I y ∧ mu y < mu x ∧ Weak G N s' (st y)) K)) : LoopVC P G N c s K :=
  ⟨fun X hX => WpX.loop st I mu x0 h0 hw fun x hI => hround x hI X hX⟩
def resL (Γ : Ty) (s : LS) : List ResultVar → (List SV → Prop) → Prop
  | [], c => c []
  | .tmp t :: r, c => resL Γ s r fun l => c (s.t.getD t .any :: l)
  | .cell a t :: r, c => loadK Γ s.h t (s.t.getD a .any) fun v => resL Γ s r fun l => c (v :: l)
def resK (Γ : Ty) (rs : List ResultVar) (s : LS) (c : SV → Prop) : Prop :=
  resL Γ s rs fun l => match l with
    | [x] => c x
    | l => c (.tuple l)
def WeakV (G : Gl) (N : Nat) (r : SV) (H : List LObj) (r' : SV) (H' : List LObj) : Prop :=
  ∀ (A E : Env) (w : World) (v : Value), A.n = N → A.Le E → VR E w r v → Rel E H w → GlOk E w G → ∃ E', A.Le E' ∧ VR E' w r' v ∧ Rel E' H' w ∧ GlOk E' w G ∧ Step E H w E' H' w
theorem WeakV.refl (G : Gl) (N : Nat) (r : SV) (H : List LObj) : WeakV G N r H r H := fun A E w v _ h1 h2 h3 h4 => ⟨E, h1, h2, h3, h4, Step.refl E H w⟩
theorem WeakV.trans {G : Gl} {N : Nat} {r r' r'' : SV} {H H' H'' : List LObj} (h : WeakV G N r H r' H') (k : WeakV G N r' H' r'' H'') : WeakV G N r H r'' H'' := fun A E w v hA h1 h2 h3 h4 => by
  obtain ⟨E1, a1, a2, a3, a4, a5⟩ := h A E w v hA h1 h2 h3 h4
  obtain ⟨E2, b1, b2, b3, b4, b5⟩ := k A E1 w v hA a1 a2 a3 a4
  exact ⟨E2, b1, b2, b3, b4, a5.trans b5⟩
def EndVC (Γ : Ty) (G : Gl) (N : Nat) (rs : List ResultVar) (s : LS) (Q : SV → List LObj → Prop) : Prop :=
  resK Γ rs s fun r => ∃ r' H', WeakV G N r s.h r' H' ∧ Q r' H'
def retK (Γ : Ty) (G : Gl) (N : Nat) (rs : List ResultVar) (Q : SV → List LObj → Prop) (e : Exit) (s : LS) : Prop :=
  match e with
  | .normal => EndVC Γ G N rs s Q
  | .ret => EndVC Γ G N rs s Q
  | _ => False
theorem resL_sound {P : Program} {Γ : Ty} (hΓ : TyOk P Γ) {G : Gl} {E : Env} {s : LS} {a : Act} {w : World} (hs : SR G A E s a w) : ∀ (rs : List ResultVar) {c : List SV → Prop}, resL Γ s rs c →
    ∃ l vs, (rs.mapM (fun | .tmp t => pure (a.tmps.getD t undef) | .cell x t => do loadVar t (← asAddr (a.tmps.getD x undef))) : Sem (List Value)).run P w = .ok vs w ∧ c l ∧ VRs E w l vs
  | [], c, h => ⟨[], [], by simp, h, rfl, fun j x v hx => by simp at hx⟩
  | .tmp t :: r, c, h => by
    obtain ⟨l, vs, h1, h2, h3⟩ := resL_sound hΓ hs r h
    refine ⟨_, a.tmps.getD t undef :: vs, ?_, h2, by simpa using h3.1, fun j x v hx hv => ?_⟩
    · simp only [List.mapM_cons, Sem.run_bind, Sem.run_pure, Result.andThen_ok, h1]
    · cases j with
      | zero => cases hx; cases hv; exact hs.ev (G := G) (.tmp t)
      | succ j => exact h3.2 j x v (by simpa using hx) (by simpa using hv)
  | .cell x t :: r, c, h => by
    have hx := hs.ev (.tmp x)
    obtain ⟨y, v, h1, h2, h3⟩ := (loadK_sound (P := P) hΓ hs.rel hx h).out
    obtain ⟨l, vs, h4, h5, h6⟩ := resL_sound hΓ hs r h2
    refine ⟨_, v :: vs, ?_, h5, by simpa using h6.1, fun j z u hz hu => ?_⟩
    · have hld : (do loadVar t (← asAddr (a.tmps.getD x undef)) : Sem Value).run P w = .ok v w := by
        have : a.eval (.tmp x) = a.tmps.getD x undef := rfl
        rw [this] at h1
        generalize a.tmps.getD x undef = u at h1 ⊢
        cases u <;> simp [Instr.loadAt, Instr.sureAddr] at h1
        rename_i q
        cases q <;> simp at h1
        simpa [asAddr] using h1
      simp only [List.mapM_cons, Sem.run_bind] at hld ⊢
      rw [hld]
      simp only [Result.andThen_ok, h4, Sem.run_pure]
    · cases j with
      | zero => cases hz; cases hu; exact h3
      | succ j => exact h6.2 j z u (by simpa using hz) (by simpa using hu)
theorem meets_of {P : Program} {Γ : Ty} (hΓ : TyOk P Γ) {G : Gl} {f : FuncId} {fn : Func} {body : Code} (hf : P.funcs[f]? = some fn) (hb : fn.body = some body) {S : Spec}
    (h : ∀ args H Q, S args H Q → Wp P G H.length body ⟨args ++ List.replicate (fn.ntmps - args.length) (.tuple []), H⟩ (retK Γ G H.length fn.results.toList Q)) : Meets P G f S := by
  intro args H Q hS E w vs hv hr hg
  refine callsIn_wide.1 (callsIn_of_wp (n := 0) hf hb trivial ?_)
  have hl : vs.toArray.size = args.length := by simpa using hv.1
  have hs0 : SR G E E ⟨args ++ List.replicate (fn.ntmps - args.length) (.tuple []), H⟩ { tmps := vs.toArray ++ Array.replicate (fn.ntmps - vs.toArray.size) undef, defers := [] } w := by
    refine ⟨Env.Le.refl E, ?_, hr, hg, rfl⟩
    rw [hl]
    simp only [Array.toList_append, Array.toList_replicate]
    refine hv.append ⟨by simp, fun j x v hx hv' => ?_⟩
    rw [List.getElem?_replicate] at hx hv'
    split at hx
    · rename_i hj
      rw [if_pos hj] at hv'
      cases hx; cases hv'
      exact undef_ok E w
    · cases hx
  have hh := h args H Q hS Cx.plain (.inl rfl) E E w _ hr.len.symm hs0 trivial
  rw [show Cx.plain.ds = [] from rfl, dress_nil] at hh
  refine wpIn_mono (hh : Code.wpIn Fence.wide 0 P body _ _ _) ?_
  have fin : ∀ s' E' a' w', EndVC Γ G H.length fn.results.toList s' Q → SR G E E' s' a' w' → Step E H w E' s'.h w' →
      a'.defers = [] ∧ ∃ v, (results fn a'.tmps).run P w' = .ok v w' ∧ ∃ v' r H' E'', (Ending.returned v = .returned v') ∧ Q r H' ∧ VR E'' w' r v' ∧ Rel E'' H' w' ∧ Step E H w E'' H' w' ∧ E.Le E'' := by
    intro s' E' a' w' hend hs' hst
    refine ⟨hs'.nod, ?_⟩
    unfold EndVC resK at hend
    obtain ⟨l, vs', h1, h2, h3⟩ := resL_sound hΓ hs' fn.results.toList hend
    have hrun : (results fn a'.tmps).run P w' = .ok (if h : vs'.toArray.size = 1 then vs'.toArray[0] else .tuple vs'.toArray) w' := by
      unfold results
      rw [Array.mapM_eq_mapM_toList]
      simp only [Sem.run_bind, Sem.run_map]
      erw [h1]
      rfl
    have key : ∀ r, VR E' w' r (if h : vs'.toArray.size = 1 then vs'.toArray[0] else .tuple vs'.toArray) → (∃ r' H', WeakV G H.length r s'.h r' H' ∧ Q r' H') →
        ∃ v, (results fn a'.tmps).run P w' = .ok v w' ∧ ∃ v' r H' E'', (Ending.returned v = .returned v') ∧ Q r H' ∧ VR E'' w' r v' ∧ Rel E'' H' w' ∧ Step E H w E'' H' w' ∧ E.Le E'' := by
      rintro r hvr ⟨r', H', hw, hq⟩
      obtain ⟨E2, b1, b2, b3, b4, b5⟩ := hw E E' w' _ hr.len.symm hs'.anc hvr hs'.rel hs'.gl
      exact ⟨_, hrun, _, r', H', E2, rfl, hq, b2, b3, hst.trans b5, b1⟩
    split at h2
    · rename_i x
      have hvs' : ∃ v, vs' = [v] := by
        have := h3.1
        match vs', this with
        | [v], _ => exact ⟨v, rfl⟩
      obtain ⟨v, rfl⟩ := hvs'
      exact key x (h3.2 0 x v rfl rfl) h2
    · rename_i l' hne
      refine key _ ?_ h2
      rw [dif_neg ?_]
      · exact VR.tuple vs' h3.1 h3.2
      · have := h3.1
        simp
        intro h1'
        rw [h1'] at this
        obtain ⟨x, hx⟩ := List.length_eq_one_iff.1 this.symm
        exact hne x hx
  rintro e a' w' ⟨a0, e0, s', E', h1, h2, h3⟩
  rw [dress_nil] at e0
  subst e0
  cases e with
  | normal => exact fin s' E' a' w' h1 h2 h3
  | ret => exact fin s' E' a' w' h1 h2 h3
  | exit id => exact h1.elim
  | goto l => exact h1.elim
  | panic ch => exact h1.elim
  | outgrown => exact h1.elim
end
section
variable {A : Env}

def optOf (i o : Nat) : SV → Prop
  | .nil => True
  | .ptr j p => i = j ∧ o = p
  | .opt j p => i = j ∧ o = p
  | _ => False
theorem optOf_out {E : Env} {w : World} {i o : Nat} {x : SV} {v : Value} (h : optOf i o x) (hv : VR E w x v) : VR E w (.opt i o) v := by
  cases hv <;> simp only [optOf] at h
  case nil => exact .optN i o
  case ptr j p hi => obtain ⟨rfl, rfl⟩ := h; exact .optS _ _ hi
  case optN j p => exact .optN i o
  case optS j p hi => obtain ⟨rfl, rfl⟩ := h; exact .optS _ _ hi
def leT : List SV → List SV → Prop
  | [], [] => True
  | x :: r, y :: r' => match y with
    | .any => leT r r'
    | .opt i o => optOf i o x ∧ leT r r'
    | y => x = y ∧ leT r r'
  | _, _ => False
structure CellsLe (c c' : List SV) : Prop where
  out : leT c c' ∨ c = c'
theorem CellsLe.eq {c c' : List SV} (h : c = c') : CellsLe c c' := ⟨.inr h⟩
theorem CellsLe.pt {c c' : List SV} (h : leT c c') : CellsLe c c' := ⟨.inl h⟩
def leH : List LObj → List LObj → Prop
  | [], [] => True
  | x :: r, y :: r' => match x, y with
    | .cells c e, .cells c' e' => CellsLe c c' ∧ e = e' ∧ leH r r'
    | _, .gone => leH r r'
    | x, y => x = y ∧ leH r r'
  | _, _ => False
theorem leT_out {E : Env} {w : World} : ∀ {l l' : List SV} {vs : List Value}, leT l l' → VRs E w l vs → VRs E w l' vs
  | [], [], vs, _, h => h
  | x :: r, y :: r', vs, hl, h => by
    cases vs with
    | nil => have := h.1; simp at this
    | cons v vr =>
      have hr : VRs E w r vr := ⟨by simpa using h.1, fun j y u hy hu => h.2 (j + 1) y u (by simpa using hy) (by simpa using hu)⟩
      have both : VR E w y v → VRs E w r' vr → VRs E w (y :: r') (v :: vr) := fun h0 h1 => ⟨by simpa using h1.1, fun j z u hz hu => by
        cases j with
        | zero => cases hz; cases hu; exact h0
        | succ j => exact h1.2 j z u (by simpa using hz) (by simpa using hu)⟩
      unfold leT at hl
      split at hl
      · exact both (.any v) (leT_out hl hr)
      · exact both (optOf_out hl.1 (h.2 0 _ v rfl rfl)) (leT_out hl.2 hr)
      · obtain ⟨rfl, hl⟩ := hl
        exact both (h.2 0 _ v rfl rfl) (leT_out hl hr)
  | [], _ :: _, vs, hl, h => hl.elim
  | _ :: _, [], vs, hl, h => hl.elim
theorem CellsLe.vrs {E : Env} {w : World} {c c' : List SV} {vs : List Value} (h : CellsLe c c') (hv : VRs E w c vs) : VRs E w c' vs := by
  rcases h.out with h | h
  · exact leT_out h hv
  · exact h ▸ hv
theorem leH_cons {x y : LObj} {r r' : List LObj} (h : leH (x :: r) (y :: r')) : leH r r' ∧ ((∃ c e c' e', x = .cells c e ∧ y = .cells c' e' ∧ CellsLe c c' ∧ e = e') ∨ y = .gone ∨ x = y) := by
  unfold leH at h
  split at h
  · exact ⟨h.2.2, .inl ⟨_, _, _, _, rfl, rfl, h.1, h.2.1⟩⟩
  · exact ⟨h, .inr (.inl rfl)⟩
  · exact ⟨h.2, .inr (.inr h.1)⟩
theorem leH_length : ∀ {l l' : List LObj}, leH l l' → l.length = l'.length
  | [], [], _ => rfl
  | x :: r, y :: r', h => by simp [leH_length (leH_cons h).1]
  | [], _ :: _, h => h.elim
  | _ :: _, [], h => h.elim
theorem leH_get {E : Env} {w : World} : ∀ {l l' : List LObj} {i : Nat} {o' : LObj}, leH l l' → l'[i]? = some o' → ∃ o, l[i]? = some o ∧ ∀ j, (ObjR E w j o → ObjR E w j o') ∧ (∀ b, foot E j o' = some b → foot E j o = some b)
  | [], [], i, o', _, h => by simp at h
  | x :: r, y :: r', i + 1, o', hl, h => by
    simpa using leH_get (l := r) (l' := r') (leH_cons hl).1 (by simpa using h)
  | x :: r, y :: r', 0, o', hl, h => by
    cases h
    refine ⟨x, rfl, fun j => ?_⟩
    rcases (leH_cons hl).2 with ⟨c, e, c', e', rfl, rfl, h2, rfl⟩ | rfl | rfl
    · exact ⟨fun ⟨vs, h3, h4⟩ => ⟨vs, h3, h2.vrs h4⟩, fun b hb => hb⟩
    · exact ⟨fun _ => trivial, fun b hb => by cases hb⟩
    · exact ⟨fun h => h, fun b hb => hb⟩
  | [], _ :: _, i, o', hl, h => hl.elim
  | _ :: _, [], i, o', hl, h => hl.elim
theorem Rel.le {E : Env} {H H' : List LObj} {w : World} (hr : Rel E H w) (hl : leH H H') : Rel E H' w ∧ ∀ b, InFoot E H' b → InFoot E H b := by
  have hin : ∀ b, InFoot E H' b → InFoot E H b := by
    rintro b ⟨i, o', hi, hf⟩
    obtain ⟨o, h1, h2⟩ := leH_get (E := E) (w := w) hl hi
    exact ⟨i, o, h1, (h2 i).2 b hf⟩
  refine ⟨⟨by rw [← leH_length hl]; exact hr.len, fun i o' hi => ?_, fun i j o o' b hne hi hj hf => ?_, fun b hb => hr.imm b (hin b hb), hr.ltI⟩, hin⟩
  · obtain ⟨o, h1, h2⟩ := leH_get (E := E) (w := w) hl hi
    exact (h2 i).1 (hr.obj i o h1)
  · obtain ⟨o1, h1, h2⟩ := leH_get (E := E) (w := w) hl hi
    obtain ⟨o2, h3, h4⟩ := leH_get (E := E) (w := w) hl hj
    exact fun hf' => hr.sep i j o1 o2 b hne h1 h3 ((h2 i).2 b hf) ((h4 j).2 b hf')
def front : Nat → Nat → List Nat → Bool
  | 0, _, _ => true
  | n + 1, k, a :: r => match Nat.beq a k with
    | true => front n (k + 1) r
    | false => false
  | _ + 1, _, [] => false
theorem front_out : ∀ {n k : Nat} {l : List Nat}, front n k l = true → ∀ i, i < n → l[i]? = some (k + i)
  | 0, k, l, _, i, hi => by omega
  | n + 1, k, [], h, i, hi => by simp [front] at h
  | n + 1, k, a :: r, h, i, hi => by
    rw [front] at h
    split at h
    · rename_i hb
      cases i with
      | zero => rw [Nat.eq_of_beq_eq_true hb]; rfl
      | succ i =>
        have := front_out h i (by omega)
        rw [List.getElem?_cons_succ, this]
        congr 1
        omega
    · cases h
theorem Rel.sel {E : Env} {H : List LObj} {w : World} (hr : Rel E H w) {idx : List Nat} (hnd : nodupB idx = true) (hlt : allLt H.length idx = true) :
    let E0 : Env := ⟨idx.length, fun k => E.b (idx.getD k 0), fun k => E.v (idx.getD k 0), E.I⟩
    E.Named E0 (fun i => pos idx i 0) ∧ Rel E0 (sub H idx (fun i => pos idx i 0) idx) w ∧ (∀ b, InFoot E0 (sub H idx (fun i => pos idx i 0) idx) b → InFoot E H b) := by
  have hnd := nodupB_out hnd
  have hlt := allLt_out hlt
  have hlt' : ∀ (k : Nat) i, idx[k]? = some i → i < E.n := fun k i hk => by rw [← hr.len]; exact hlt i (List.mem_of_getElem? hk)
  intro E0
  have hgetD : ∀ (k i : Nat), idx[k]? = some i → idx.getD k 0 = i := fun k i hk => by rw [List.getD_eq_getElem?_getD, hk]; rfl
  have nam : E.Named E0 (fun i => pos idx i 0) := by
    have hp : ∀ i j, pos idx i 0 = some j → idx[j]? = some i := fun i j hj => by simpa using (pos_out hj).2
    exact ⟨fun i j _ hj => lt_of_get (hp i j hj), fun i j _ hj => congrArg E.b (hgetD j i (hp i j hj)), fun i j _ hj => congrArg E.v (hgetD j i (hp i j hj)), fun _ h => h⟩
  have hposof : ∀ (k i : Nat), idx[k]? = some i → pos idx i 0 = some k := by
    intro k i hk
    cases hq : pos idx i 0 with
    | none => exact absurd rfl (pos_none hq i (List.mem_of_getElem? hk))
    | some j =>
      have h1 := (pos_out hq).2
      rw [Nat.sub_zero] at h1
      exact congrArg some (hnd j k i h1 hk)
  have hsub : ∀ (k : Nat) o, (sub H idx (fun i => pos idx i 0) idx)[k]? = some o → ∃ i, idx[k]? = some i ∧ ((∃ o', H[i]? = some o' ∧ o = o'.ren (fun i => pos idx i 0))) := by
    intro k o hk
    obtain ⟨i, h1, h2⟩ := sub_get hk
    refine ⟨i, h1, ?_⟩
    have hil := hlt i (List.mem_of_getElem? h1)
    rw [List.getElem?_eq_getElem hil] at h2
    exact ⟨H[i], List.getElem?_eq_getElem hil, h2⟩
  have hin0 : ∀ b, InFoot E0 (sub H idx (fun i => pos idx i 0) idx) b → InFoot E H b := by
    rintro b ⟨k, o, hk, hf⟩
    obtain ⟨i, h1, o', h2, rfl⟩ := hsub k o hk
    exact ⟨i, o', h2, by rw [← foot_ren nam (hlt' k i h1) (hposof k i h1)]; exact hf⟩
  refine ⟨nam, ⟨sub_length _ _ _ _, ?_, ?_, fun b hb => hr.imm b (hin0 b hb), hr.ltI⟩, hin0⟩
  · intro k o hk
    obtain ⟨i, h1, o', h2, rfl⟩ := hsub k o hk
    exact ObjR.ren nam (hlt' k i h1) (hposof k i h1) (hr.obj i o' h2)
  · intro k k' o o' b hne hk hk' hf hf'
    obtain ⟨i, h1, o1, h2, rfl⟩ := hsub k o hk
    obtain ⟨i', h1', o1', h2', rfl⟩ := hsub k' o' hk'
    rw [foot_ren nam (hlt' k i h1) (hposof k i h1)] at hf
    rw [foot_ren nam (hlt' k' i' h1') (hposof k' i' h1')] at hf'
    refine hr.sep i i' o1 o1' b ?_ h2 h2' hf hf'
    rintro rfl
    exact hne (hnd k k' i h1 h1')
theorem anc_sel {E : Env} {n0 : Nat} (hA : A.n = n0) (ha : A.Le E) {idx : List Nat} (hf : front n0 0 idx = true) :
    A.Le ⟨idx.length, fun k => E.b (idx.getD k 0), fun k => E.v (idx.getD k 0), E.I⟩ := by
  have h := front_out hf
  have hD : ∀ i, i < n0 → idx.getD i 0 = i := fun i hi => by rw [List.getD_eq_getElem?_getD, h i hi]; simp
  refine ⟨?_, fun i hi => ?_, fun i hi => ?_⟩
  · rcases Nat.eq_zero_or_pos n0 with h0 | h0
    · rw [hA, h0]; exact Nat.zero_le _
    · have := lt_of_get (h (n0 - 1) (by omega))
      show A.n ≤ idx.length
      omega
  · show E.b (idx.getD i 0) = A.b i
    rw [hD i (by omega)]
    exact ha.b i hi
  · show E.v (idx.getD i 0) = A.v i
    rw [hD i (by omega)]
    exact ha.v i hi
theorem Weak.to {G : Gl} {N : Nat} {s s' : LS} (idx : List Nat) (h1 : front N 0 idx = true) (h2 : nodupB idx = true) (h3 : allLt s.h.length idx = true)
    (h4 : leT (SV.renL (fun i => pos idx i 0) s.t) s'.t) (h5 : leH (sub s.h idx (fun i => pos idx i 0) idx) s'.h) : Weak G N s s' := by
  intro A E w a hA hs
  obtain ⟨nam, hr, hin⟩ := hs.rel.sel h2 h3
  obtain ⟨hr', hin'⟩ := hr.le h5
  refine ⟨_, ⟨anc_sel hA hs.anc h1, leT_out h4 (hs.vals.ren nam), hr', ⟨hs.gl.ok⟩, hs.nod⟩, ⟨Nat.le_refl _, fun _ _ _ => rfl, rfl, rfl, rfl, fun b hb => .inr (hin b (hin' b hb)), fun b h => h, fun b h => .inl h⟩⟩
theorem Weak.le {G : Gl} {N : Nat} {s s' : LS} (h4 : leT s.t s'.t) (h5 : leH s.h s'.h) : Weak G N s s' := by
  intro A E w a hA hs
  obtain ⟨hr', hin'⟩ := hs.rel.le h5
  exact ⟨E, ⟨hs.anc, leT_out h4 hs.vals, hr', hs.gl, hs.nod⟩, ⟨Nat.le_refl _, fun _ _ _ => rfl, rfl, rfl, rfl, fun b hb => .inr (hin' b hb), fun b h => h, fun b h => .inl h⟩⟩
theorem WeakV.to {G : Gl} {N : Nat} {r r' : SV} {H H' : List LObj} (idx : List Nat) (h1 : front N 0 idx = true) (h2 : nodupB idx = true) (h3 : allLt H.length idx = true)
    (h4 : r.ren (fun i => pos idx i 0) = r') (h5 : leH (sub H idx (fun i => pos idx i 0) idx) H') : WeakV G N r H r' H' := by
  intro A E w v hA ha hv hr hg
  obtain ⟨nam, hr0, hin⟩ := hr.sel h2 h3
  obtain ⟨hr', hin'⟩ := hr0.le h5
  exact ⟨_, anc_sel hA ha h1, h4 ▸ hv.ren nam, hr', ⟨hg.ok⟩, ⟨Nat.le_refl _, fun _ _ _ => rfl, rfl, rfl, rfl, fun b hb => .inr (hin b (hin' b hb)), fun b h => h, fun b h => .inl h⟩⟩
theorem Weak.ownNil {G : Gl} {N : Nat} {s : LS} (i k e sz : Nat) {c : List SV} {et : TypeId} (hi : s.h[i]? = some (.cells c et)) (hk : c[k]? = some .nilsl) :
    Weak G N s ⟨s.t, (s.h ++ [LObj.own e sz 0 [] true]).set i (.cells (c.set k (.own s.h.length)) et)⟩ := by
  intro A E w a hA hs
  obtain ⟨r1, r2, r3⟩ := Rel.push (w' := w) hs.rel none 0 (.slice none 0 0) (.own e sz 0 [] true) ⟨Nat.le_refl _, rfl, rfl, rfl⟩ (fun b _ _ => rfl) (fun b hb => by simp [foot, Env.add_v, Value.blk] at hb) (fun hkI => by
    show OwnR _ _ ((E.add 0 (.slice none 0 0)).v E.n) _ _ _ _ _
    rw [Env.add_v]
    exact ⟨by simp, .inl ⟨rfl, rfl⟩⟩)
  have hlt : i < s.h.length := lt_of_get hi
  have hi2 : (s.h ++ [LObj.own e sz 0 [] true])[i]? = some (.cells c et) := by rw [List.getElem?_append_left hlt]; exact hi
  obtain ⟨q1, q2, q3⟩ := Rel.turn (w' := w) (o' := .cells (c.set k (.own s.h.length)) et) r1 hi2 ⟨Nat.le_refl _, rfl, rfl, rfl⟩ (fun b _ _ => rfl) (fun b h => h) (fun hkI => by
    obtain ⟨vs, h1, h2⟩ := r1.obj i _ hi2
    refine ⟨vs, h1, ?_⟩
    obtain ⟨v, hv1, hv2⟩ := h2.get hk
    cases hv2
    refine h2.same hv1 ?_
    have := VR.own (E := E.add 0 (.slice none 0 0)) (w := w) E.n (Nat.lt_succ_self _)
    rw [Env.add_v] at this
    rw [hs.rel.len]
    exact this)
  exact ⟨E.add 0 (.slice none 0 0), ⟨hs.anc.trans (E.le_add _ _), hs.vals.kept (E.le_add _ _) (fun _ h => h) (fun _ _ => rfl), q1, ⟨hs.gl.ok⟩, hs.nod⟩, r2.trans q2⟩
theorem Rel.cell1 {E : Env} {H : List LObj} {w : World} (hr : Rel E H w) (i k : Nat) {c : List SV} {et : TypeId} {x y : SV} (hi : H[i]? = some (.cells c et)) (hk : c[k]? = some x) (hxy : ∀ v, VR E w x v → VR E w y v) :
    Rel E (H.set i (.cells (c.set k y) et)) w ∧ Step E H w E (H.set i (.cells (c.set k y) et)) w := by
  obtain ⟨q1, q2, q3⟩ := Rel.turn (w' := w) (o' := .cells (c.set k y) et) hr hi ⟨Nat.le_refl _, rfl, rfl, rfl⟩ (fun b _ _ => rfl) (fun b h => h) (fun hkI => by
    obtain ⟨vs, h1, h2⟩ := hr.obj i _ hi
    refine ⟨vs, h1, ?_⟩
    obtain ⟨v, hv1, hv2⟩ := h2.get hk
    exact h2.same hv1 (hxy v hv2))
  exact ⟨q1, q2⟩
theorem Weak.optNil {G : Gl} {N : Nat} {s : LS} (i k j off : Nat) {c : List SV} {et : TypeId} (hi : s.h[i]? = some (.cells c et)) (hk : c[k]? = some .nil) :
    Weak G N s ⟨s.t, s.h.set i (.cells (c.set k (.opt j off)) et)⟩ := by
  intro A E w a hA hs
  obtain ⟨q1, q2⟩ := hs.rel.cell1 i k (y := .opt j off) hi hk (fun v hv => by cases hv; exact .optN j off)
  exact ⟨E, ⟨hs.anc, hs.vals, q1, hs.gl, hs.nod⟩, q2⟩
theorem Weak.wr {G : Gl} {N : Nat} {s : LS} (i e : Nat) {x : SV} {et : TypeId} (hi : s.h[i]? = some (.cells [x, .nil, .nilsl] et)) :
    Weak G N s ⟨s.t, (s.h ++ [LObj.own e 1 0 [] true]).set i (.cells [x, .opt i 1, .own s.h.length] et)⟩ := by
  have hlt : i < (s.h ++ [LObj.own e 1 0 [] true]).length := by
    have := lt_of_get hi
    rw [List.length_append]
    omega
  have h1 := Weak.ownNil (G := G) (N := N) i 2 e 1 hi rfl
  have h2 := Weak.optNil (G := G) (N := N) (s := ⟨s.t, (s.h ++ [LObj.own e 1 0 [] true]).set i (.cells [x, .nil, .own s.h.length] et)⟩) i 1 i 1 (c := [x, .nil, .own s.h.length]) (et := et) (by
    show ((s.h ++ [LObj.own e 1 0 [] true]).set i _)[i]? = _
    rw [List.getElem?_set_self hlt]) rfl
  have h3 := h1.trans h2
  simp only [List.set_set] at h3
  exact h3
theorem Wp.opt {P : Program} {G : Gl} {N : Nat} {c0 : Code} {s : LS} {K : Exit → LS → Prop} (i k j off : Nat) {c : List SV} {et : TypeId} (hi : s.h[i]? = some (.cells c et)) (hk : c[k]? = some (.opt j off))
    (h1 : Wp P G N c0 ⟨s.t, s.h.set i (.cells (c.set k .nil) et)⟩ K) (h2 : Wp P G N c0 ⟨s.t, s.h.set i (.cells (c.set k (.ptr j off)) et)⟩ K) : Wp P G N c0 s K := fun X hX A E w a hA hs hJ => by
  obtain ⟨vs, g1, g2⟩ := hs.rel.obj i _ hi
  obtain ⟨v, hv1, hv2⟩ := g2.get hk
  cases hv2 with
  | optN =>
    obtain ⟨q1, q2⟩ : Rel E (s.h.set i (.cells (c.set k .nil) et)) w ∧ Step E s.h w E (s.h.set i (.cells (c.set k .nil) et)) w := by
      obtain ⟨q1, q2, q3⟩ := Rel.turn (w' := w) (o' := .cells (c.set k .nil) et) hs.rel hi ⟨Nat.le_refl _, rfl, rfl, rfl⟩ (fun b _ _ => rfl) (fun b h => h) (fun hkI => ⟨vs, g1, g2.same hv1 .nil⟩)
      exact ⟨q1, q2⟩
    exact wpIn_mono (h1 X hX A E w a hA ⟨hs.anc, hs.vals, q1, hs.gl, hs.nod⟩ (X.keep _ _ _ _ _ _ _ hJ q2)) fun e a' w' ⟨a0, e0, ht⟩ => ⟨a0, e0, Then.bind (k' := K e) (a1 := a) q2 ht⟩
  | optS _ _ hj =>
    obtain ⟨q1, q2⟩ : Rel E (s.h.set i (.cells (c.set k (.ptr j off)) et)) w ∧ Step E s.h w E (s.h.set i (.cells (c.set k (.ptr j off)) et)) w := by
      obtain ⟨q1, q2, q3⟩ := Rel.turn (w' := w) (o' := .cells (c.set k (.ptr j off)) et) hs.rel hi ⟨Nat.le_refl _, rfl, rfl, rfl⟩ (fun b _ _ => rfl) (fun b h => h) (fun hkI => ⟨vs, g1, g2.same hv1 (.ptr j off hj)⟩)
      exact ⟨q1, q2⟩
    exact wpIn_mono (h2 X hX A E w a hA ⟨hs.anc, hs.vals, q1, hs.gl, hs.nod⟩ (X.keep _ _ _ _ _ _ _ hJ q2)) fun e a' w' ⟨a0, e0, ht⟩ => ⟨a0, e0, Then.bind (k' := K e) (a1 := a) q2 ht⟩
theorem Rel.pub {E : Env} {H : List LObj} {w : World} (hr : Rel E H w) {i e s n : Nat} {xs : List CV} {wr : Bool} (hi : H[i]? = some (.own e s n xs wr)) :
    let E' : Env := ⟨E.n, E.b, E.v, fun b => E.I b ∨ Value.blk (E.v i) = some b⟩
    E.Le E' ∧ Rel E' (H.set i .gone) w ∧ Step E H w E' (H.set i .gone) w ∧ VR E' w (.sl s n xs false) (E.v i) := by
  intro E'
  have le : E.Le E' := ⟨Nat.le_refl _, fun _ _ => rfl, fun _ _ => rfl⟩
  have hI : ∀ b, E.I b → E'.I b := fun b h => .inl h
  have ho := hr.obj i _ hi
  have getl : ∀ (j : Nat) o1, (H.set i .gone)[j]? = some o1 → (j ≠ i ∧ H[j]? = some o1) ∨ (j = i ∧ o1 = .gone) := by
    intro j o1 hj
    rw [List.getElem?_set] at hj
    split at hj
    · rename_i he
      split at hj
      · cases hj; exact .inr ⟨he.symm, rfl⟩
      · cases hj
    · rename_i hne
      exact .inl ⟨fun e => hne e.symm, hj⟩
  have hin : ∀ b, InFoot E' (H.set i .gone) b → ∃ (j : Nat) (o : LObj), j ≠ i ∧ H[j]? = some o ∧ foot E j o = some b := by
    rintro b ⟨j, o1, hj, hf⟩
    rcases getl j o1 hj with ⟨hne, h⟩ | ⟨rfl, rfl⟩
    · exact ⟨j, o1, hne, h, by rw [← foot_le le (hr.lt h)]; exact hf⟩
    · cases hf
  refine ⟨le, ⟨by simpa using hr.len, ?_, ?_, ?_, ?_⟩, ⟨Nat.le_refl _, fun _ _ _ => rfl, rfl, rfl, rfl, ?_, hI, ?_⟩, ?_⟩
  · intro j o1 hj
    rcases getl j o1 hj with ⟨hne, h⟩ | ⟨rfl, rfl⟩
    · exact ObjR.kept le hI (fun _ _ => rfl) (hr.lt h) (fun _ _ => rfl) (hr.obj j o1 h)
    · trivial
  · intro j k o1 o2 b hne hj hk hf hf'
    rcases getl j o1 hj with ⟨_, h1⟩ | ⟨rfl, rfl⟩
    · rcases getl k o2 hk with ⟨_, h2⟩ | ⟨rfl, rfl⟩
      · rw [foot_le le (hr.lt h1)] at hf
        rw [foot_le le (hr.lt h2)] at hf'
        exact hr.sep j k o1 o2 b hne h1 h2 hf hf'
      · cases hf'
    · cases hf
  · intro b hb hIb
    obtain ⟨j, o, hne, hj, hf⟩ := hin b hb
    rcases hIb with h | h
    · exact hr.imm b ⟨j, o, hj, hf⟩ h
    · exact hr.sep j i o _ b hne hj hi hf h
  · intro b hIb
    rcases hIb with h | h
    · exact hr.ltI b h
    · exact hr.foot_lt ⟨i, _, hi, h⟩
  · intro b hb
    obtain ⟨j, o, _, hj, hf⟩ := hin b hb
    exact .inr ⟨j, o, hj, hf⟩
  · intro b hb
    rcases hb with h | h
    · exact .inl h
    · exact .inr (.inr ⟨i, _, hi, h⟩)
  · rcases ho.row with ⟨e1, e0⟩ | ⟨b, cap, vs, fz, e1, e2, e3, e4, e5, e6, e7⟩
    · subst e0
      have : xs = [] := List.length_eq_zero_iff.1 (by rw [ho.len]; omega)
      subst this
      rw [e1]
      exact .sl (.sl0 s false)
    · rw [e1]
      have hle : n * s ≤ cap * s := Nat.mul_le_mul_right s e4
      refine .sl (.sl ⟨b, 0, none⟩ cap (vs.toList.take (n * s)) ho.len ?_ e4 (by intro h; cases h) (fun _ => .inr (by rw [e1]; rfl)) (fun j v hj => ?_) (fun j x v hx hj => ?_))
      · rw [List.length_take, ho.len, Array.length_toList, e3]
        exact Nat.min_eq_left hle
      · rw [add_plain, Nat.zero_add]
        rw [List.getElem?_take] at hj
        split at hj
        · simp only [World.cell?, e2]
          simpa using hj
        · cases hj
      · rw [List.getElem?_take] at hj
        split at hj
        · exact (e7 j x v hx (by simpa using hj)).kept hI (fun _ _ => rfl)
        · cases hj
def pubV (i s n : Nat) (xs : List CV) (x : SV) : SV :=
  match x with
  | .own j => match Nat.beq j i with
    | true => .sl s n xs false
    | false => .own j
  | x => x
def pubL (i s n : Nat) (xs : List CV) : List SV → List SV
  | [] => []
  | x :: r => pubV i s n xs x :: pubL i s n xs r
theorem pubL_eq (i s n : Nat) (xs : List CV) : ∀ l, pubL i s n xs l = l.map (pubV i s n xs)
  | [] => rfl
  | x :: r => by rw [pubL, pubL_eq i s n xs r]; rfl
theorem pubL_sound {E : Env} {w : World} {i s n : Nat} {xs : List CV} (h : VR E w (.sl s n xs false) (E.v i)) {l : List SV} {vs : List Value} (hv : VRs E w l vs) : VRs E w (pubL i s n xs l) vs := by
  rw [pubL_eq]
  refine ⟨by simpa using hv.1, fun j x v hx hj => ?_⟩
  rw [List.getElem?_map, Option.map_eq_some_iff] at hx
  obtain ⟨y, hy, rfl⟩ := hx
  have h0 := hv.2 j y v hy hj
  unfold pubV
  split
  · rename_i q
    split
    · rename_i hb
      have := Nat.eq_of_beq_eq_true hb
      subst this
      cases h0
      exact h
    · exact h0
  · exact h0
theorem Weak.pubT {G : Gl} {N : Nat} {s : LS} (i : Nat) {e sz n : Nat} {xs : List CV} {wr : Bool} (hi : s.h[i]? = some (.own e sz n xs wr)) :
    Weak G N s ⟨pubL i sz n xs s.t, s.h.set i .gone⟩ := by
  intro A E w a hA hs
  obtain ⟨le, h1, h2, h3⟩ := hs.rel.pub hi
  exact ⟨_, ⟨hs.anc.trans le, pubL_sound h3 (hs.vals.kept le (fun _ h => .inl h) (fun _ _ => rfl)), h1, hs.gl.kept (fun _ h => .inl h) (fun _ _ => rfl), hs.nod⟩, h2⟩
theorem Weak.pub {G : Gl} {N : Nat} {s : LS} (i j : Nat) {e sz n : Nat} {xs : List CV} {wr : Bool} {c : List SV} {et : TypeId} (hj : s.h[j]? = some (.cells c et)) (hi : s.h[i]? = some (.own e sz n xs wr)) :
    Weak G N s ⟨pubL i sz n xs s.t, (s.h.set i .gone).set j (.cells (pubL i sz n xs c) et)⟩ := by
  intro A E w a hA hs
  have hne : i ≠ j := by
    rintro rfl
    rw [hi] at hj
    cases hj
  obtain ⟨le, h1, h2, h3⟩ := hs.rel.pub hi
  have hj2 : (s.h.set i .gone)[j]? = some (.cells c et) := by rw [List.getElem?_set_ne hne]; exact hj
  obtain ⟨q1, q2, q3⟩ := Rel.turn (w' := w) (o' := .cells (pubL i sz n xs c) et) h1 hj2 ⟨Nat.le_refl _, rfl, rfl, rfl⟩ (fun b _ _ => rfl) (fun b h => h) (fun hkI => by
    obtain ⟨vs, g1, g2⟩ := h1.obj j _ hj2
    exact ⟨vs, g1, pubL_sound h3 g2⟩)
  exact ⟨_, ⟨hs.anc.trans le, pubL_sound h3 (hs.vals.kept le (fun _ h => .inl h) (fun _ _ => rfl)), q1, hs.gl.kept (fun _ h => .inl h) (fun _ _ => rfl), hs.nod⟩, h2.trans q2⟩
theorem WeakV.drop {G : Gl} {r r' : SV} {H : List LObj} (h4 : r.ren (fun _ => none) = r') : WeakV G 0 r H r' [] := by
  intro A E w v hA ha hv hr hg
  obtain ⟨nam, hr0, hin⟩ := hr.sel (idx := []) rfl rfl
  exact ⟨_, anc_sel hA ha rfl, h4 ▸ hv.ren nam, hr0, ⟨hg.ok⟩, ⟨Nat.le_refl _, fun _ _ _ => rfl, rfl, rfl, rfl, fun b hb => .inr (hin b hb), fun b h => h, fun b h => .inl h⟩⟩
theorem WeakV.of {G : Gl} {N : Nat} {r r' : SV} {H H' : List LObj} (h : Weak G N ⟨[r], H⟩ ⟨[r'], H'⟩) : WeakV G N r H r' H' := fun A E w v hA ha hv hr hg => by
  obtain ⟨E', h1, h2⟩ := h A E w { tmps := #[v], defers := [] } hA ⟨ha, ⟨rfl, fun j x u hx hu => by
    cases j with
    | zero => cases hx; cases hu; exact hv
    | succ j => simp at hx⟩, hr, hg, rfl⟩
  exact ⟨E', h1.anc, h1.vals.2 0 r' v rfl rfl, h1.rel, h1.gl, h2⟩
end
section

theorem wrap_i64 {n : Int} (h1 : -9223372036854775808 ≤ n) (h2 : n ≤ 9223372036854775807) : IntKind.i64.wrap n = n := by
  simp only [IntKind.wrap, IntKind.bits, IntKind.signed]
  simp
  omega
theorem wrap_u64 {n : Int} (h1 : 0 ≤ n) (h2 : n < 18446744073709551616) : IntKind.u64.wrap n = n := by
  simp only [IntKind.wrap, IntKind.bits, IntKind.signed]
  simp
  omega
theorem wrap_u64_mod (n : Int) : IntKind.u64.wrap n = n % 18446744073709551616 := by
  simp only [IntKind.wrap, IntKind.bits, IntKind.signed]
  simp
theorem wrap_u32_mod (n : Int) : IntKind.u32.wrap n = n % 4294967296 := by
  simp only [IntKind.wrap, IntKind.bits, IntKind.signed]
  simp
theorem wrap_u8_mod (n : Int) : IntKind.u8.wrap n = n % 256 := by
  simp only [IntKind.wrap, IntKind.bits, IntKind.signed]
  simp
theorem Both.of_true {b : Bool} {p q : Prop} (h : b = true) (hp : p) : Both b p q := ⟨fun _ => hp, (fun hn => by rw [h] at hn; cases hn)⟩
theorem Both.of_false {b : Bool} {p q : Prop} (h : b = false) (hq : q) : Both b p q := ⟨(fun hn => by rw [h] at hn; cases hn), fun _ => hq⟩
theorem Both.cases {b : Bool} {p q : Prop} (h1 : b = true → p) (h2 : b = false → q) : Both b p q := ⟨h1, h2⟩
def u32 (r : BitVec 32) : Int := (r.toNat : Int)
def u8 (r : BitVec 8) : Int := (r.toNat : Int)
def u64 (r : BitVec 64) : Int := (r.toNat : Int)
theorem ofInt_u32 (r : BitVec 32) : BitVec.ofInt 32 (u32 r) = r := by unfold u32; simp
theorem wrap_u32 (r : BitVec 32) : IntKind.u32.wrap (r.toNat : Int) = u32 r := by
  rw [wrap_u32_mod]; unfold u32; have := r.isLt; omega
theorem xor_u32 (a b : BitVec 32) : bitXor .u32 (u32 a) (u32 b) = u32 (a ^^^ b) := by
  show IntKind.u32.wrap (((BitVec.ofInt 32 (u32 a) ^^^ BitVec.ofInt 32 (u32 b)).toNat : Nat) : Int) = _
  rw [ofInt_u32, ofInt_u32, wrap_u32]
theorem and_u32 (a b : BitVec 32) : bitAnd .u32 (u32 a) (u32 b) = u32 (a &&& b) := by
  show IntKind.u32.wrap (((BitVec.ofInt 32 (u32 a) &&& BitVec.ofInt 32 (u32 b)).toNat : Nat) : Int) = _
  rw [ofInt_u32, ofInt_u32, wrap_u32]
theorem or_u32 (a b : BitVec 32) : bitOr .u32 (u32 a) (u32 b) = u32 (a ||| b) := by
  show IntKind.u32.wrap (((BitVec.ofInt 32 (u32 a) ||| BitVec.ofInt 32 (u32 b)).toNat : Nat) : Int) = _
  rw [ofInt_u32, ofInt_u32, wrap_u32]
theorem not_u32 (a : BitVec 32) : bitNot .u32 (u32 a) = u32 (~~~ a) := by
  have h : (if IntKind.u32.signed = true then (-1 : Int) else IntKind.u32.max) = u32 (BitVec.allOnes 32) := by decide
  unfold bitNot
  rw [h, xor_u32, BitVec.allOnes_xor]
theorem shr_u32 (a : BitVec 32) (n : Nat) (h : n ≤ 32) : shrI .u32 (u32 a) (n : Int) = u32 (a >>> n) := by
  unfold shrI u32
  rw [BitVec.toNat_ushiftRight, Nat.shiftRight_eq_div_pow]
  have : min (n : Int).toNat IntKind.u32.bits = n := by simp [IntKind.bits]; omega
  rw [this, Int.fdiv_eq_ediv_of_nonneg _ (by exact Int.pow_nonneg (by decide))]
  simp
theorem add_u32 (a b : BitVec 32) : IntKind.u32.wrap (u32 a + u32 b) = u32 (a + b) := by
  rw [wrap_u32_mod]; unfold u32; rw [BitVec.toNat_add]; omega
theorem sub_u32 (a b : BitVec 32) : IntKind.u32.wrap (u32 a - u32 b) = u32 (a - b) := by
  rw [wrap_u32_mod]; unfold u32; rw [BitVec.toNat_sub]; have := a.isLt; have := b.isLt; omega
theorem u8_of_u32 (a : BitVec 32) : IntKind.u8.wrap (u32 a) = u8 (a.setWidth 8) := by
  rw [wrap_u8_mod]; unfold u32 u8; rw [BitVec.toNat_setWidth]; omega
end
section
variable {A : Env}

structure Out (v x : SV) (H H' : List LObj) : Prop where
  v : v = x
  h : H = H'
theorem Out.same {v : SV} {H : List LObj} : Out v v H H := ⟨rfl, rfl⟩
def pickK : List SV → Nat → (SV → Prop) → Prop
  | [], _, _ => False
  | y :: _, 0, k => k y
  | _ :: r, n + 1, k => pickK r n k
theorem pickK_out : ∀ {l : List SV} {n : Nat} {k : SV → Prop}, pickK l n k → ∃ y, l[n]? = some y ∧ k y
  | y :: _, 0, k, h => ⟨y, rfl, h⟩
  | _ :: r, n + 1, k, h => by
    obtain ⟨y, h1, h2⟩ := pickK_out (l := r) h
    exact ⟨y, by simpa using h1, h2⟩
  | [], _, _, h => h.elim
def isPut (d : Nat) (x : SV) (H : List LObj) (s : LS) : Prop := pickK s.t d fun v => Out v x s.h H
def hasN : List Nat → Nat → Bool
  | [], _ => false
  | a :: r, i => match Nat.beq a i with
    | true => true
    | false => hasN r i
def seeT (rd : List Nat) : Nat → List SV → List SV
  | _, [] => []
  | i, x :: r => (match hasN rd i with
    | true => x
    | false => .any) :: seeT rd (i + 1) r
theorem seeT_length (rd : List Nat) : ∀ (i : Nat) (l : List SV), (seeT rd i l).length = l.length
  | _, [] => rfl
  | i, x :: r => by simp [seeT, seeT_length rd (i + 1) r]
theorem seeT_get (rd : List Nat) : ∀ (i : Nat) (l : List SV) (j : Nat), (seeT rd i l)[j]? = (l[j]?).map fun x => match hasN rd (i + j) with
    | true => x
    | false => .any
  | i, [], j => by simp [seeT]
  | i, x :: r, 0 => by simp [seeT]
  | i, x :: r, j + 1 => by
    rw [seeT, List.getElem?_cons_succ, List.getElem?_cons_succ, seeT_get rd (i + 1) r j]
    have : i + 1 + j = i + (j + 1) := by omega
    rw [this]
def rdO : Operand → List Nat
  | .tmp t => [t]
  | _ => []
def rdL : List Operand → List Nat
  | [] => []
  | x :: r => rdO x ++ rdL r
def rdP : List (Nat × Operand) → List Nat
  | [] => []
  | x :: r => rdO x.2 ++ rdP r
def rdM : Option Operand → List Nat
  | none => []
  | some x => rdO x
def rdOp : Op → List Nat
  | .move x => rdO x
  | .assign x => rdO x
  | .pick b x y => rdO b ++ (rdO x ++ rdO y)
  | .box _ x => rdO x
  | .store _ x v => rdO x ++ rdO v
  | .build _ p => rdP p.toList
  | .buildSlice _ _ p => rdP p.toList
  | .load _ x => rdO x
  | .nilCheck x => rdO x
  | .binOp _ _ x y _ => rdO x ++ rdO y
  | .unOp _ _ x => rdO x
  | .convert _ _ x => rdO x
  | .makeFunc _ f c => rdL f.toList ++ rdL c.toList
  | .makeSlice _ l c => rdO l ++ rdO c
  | .slice _ x lo hi _ => rdO x ++ (rdM lo ++ rdM hi)
  | .fieldAddr _ x _ => rdO x
  | .field _ x _ => rdO x
  | .indexAddr _ x i => rdO x ++ rdO i
  | .lookup _ x i _ => rdO x ++ rdO i
  | .mapUpdate _ m i v => rdO m ++ (rdO i ++ rdO v)
  | .index _ x i => rdO x ++ rdO i
  | .extract x _ => rdO x
  | .call c => (match c.callee with
    | .value f => rdO f
    | _ => []) ++ rdL c.args.toList
  | _ => []
def rdG (all : List Oper) (o : Oper) : List Nat :=
  match o.guard with
  | none => []
  | some (j, _) => match all[j]? with
    | none => []
    | some oj => match oj.dst with
      | none => []
      | some d => [d]
def reads (all : List Oper) (o : Oper) : List Nat := rdG all o ++ rdOp o.op
structure QStep (p q : SV → Prop) : Prop where
  out : ∃ x, p x ∧ q x
theorem QStep.go {p q : SV → Prop} {x : SV} (h1 : p x) (h2 : q x) : QStep p q := ⟨⟨x, h1, h2⟩⟩
def qOpK (P : Program) (Γ : Ty) (G : Gl) (N : Nat) (all : List Oper) (o : Oper) (t : List SV) (H : List LObj) (d : Nat) (next : List SV → Prop) : Prop :=
  QStep (fun x => opK P Γ G N o ⟨seeT (reads all o) 0 t, H⟩ (isPut d x H)) fun x => setK t d x next
def qSkip (t : List SV) (d : Nat) (next : List SV → Prop) : Prop := setK t d (.tuple []) next
def guardK (all : List Oper) (o : Oper) (t : List SV) (yes no : List SV → Prop) : Prop :=
  match o.guard with
  | none => yes t
  | some (j, want) => match all[j]? with
    | some oj => match oj.dst with
      | some g => match t[g]? with
        | some (.bool b) => match want with
          | true => Both b (setK t g (.bool true) yes) (setK t g (.bool false) no)
          | false => Both b (setK t g (.bool true) no) (setK t g (.bool false) yes)
        | some (.tuple []) => no t
        | _ => False
      | none => False
    | none => False
def drawK (P : Program) (Γ : Ty) (G : Gl) (N : Nat) (all : List Oper) (H : List LObj) (k : LS → Prop) : List Oper → List SV → Prop
  | [], t => k ⟨t, H⟩
  | o :: r, t => match o.dst with
    | none => False
    | some d => guardK all o t (fun t => qOpK P Γ G N all o t H d (drawK P Γ G N all H k r)) (fun t => qSkip t d (drawK P Γ G N all H k r))
def Gd (all : List Oper) (o : Oper) (t : List SV) (b : Bool) : Prop :=
  (o.guard = none ∧ b = true) ∨ ∃ j want oj g, o.guard = some (j, want) ∧ all[j]? = some oj ∧ oj.dst = some g ∧ ((∃ c, t[g]? = some (.bool c) ∧ b = (c == want)) ∨ (t[g]? = some (.tuple []) ∧ b = false))
theorem Gd.wanted {ops : Array Oper} {o : Oper} {t : List SV} {b : Bool} (h : Gd ops.toList o t b) {E : Env} {w : World} {a : Act} {t' : List SV} (hv : VRs E w t' a.tmps.toList)
    (hs : ∀ r ∈ rdG ops.toList o, t'[r]? = t[r]?) : Region.wanted o (yielded ops a.tmps) = b := by
  rcases h with ⟨hg, rfl⟩ | ⟨j, want, oj, g, hg, hoj, hd, h⟩
  · simp [Region.wanted, hg]
  · have hr : t'[g]? = t[g]? := hs g (by unfold rdG; rw [hg]; simp only [hoj, hd]; simp)
    have hoj' : ops[j]? = some oj := by rw [← hoj]; simp
    have hy : ∀ v, a.tmps[g]? = some v → yielded ops a.tmps j = (match v with | .bool b => some b | _ => none) := by
      intro v hv
      unfold yielded
      simp only [hoj', Option.bind_some, hd, hv]
      cases v <;> rfl
    rcases h with ⟨c, hc, rfl⟩ | ⟨hc, rfl⟩
    · rw [← hr] at hc
      obtain ⟨v, hv1, hv2⟩ := hv.get hc
      cases hv2
      have hy' := hy (.bool c) (by rw [← hv1]; simp)
      simp [Region.wanted, hg, hy']
    · rw [← hr] at hc
      obtain ⟨v, hv1, hv2⟩ := hv.get hc
      cases hv2
      have hy' := hy (.tuple _) (by rw [← hv1]; simp)
      simp [Region.wanted, hg, hy']
def StepOk (P : Program) (Γ : Ty) (G : Gl) (N : Nat) (all : List Oper) (o : Oper) (t : List SV) (H : List LObj) (x : SV) : Prop :=
  ∃ d, o.dst = some d ∧ ((Gd all o t true ∧ opK P Γ G N o ⟨seeT (reads all o) 0 t, H⟩ (isPut d x H)) ∨ (Gd all o t false ∧ x = .tuple []))
def curF : List SV → List Nat → List SV → List Bool → List SV
  | t, d :: ds, x :: xs, b :: bs => curF (if b then t.set d x else t) ds xs bs
  | t, _, _, _ => t
def dsts : List Oper → List Nat
  | [] => []
  | o :: r => (o.dst.getD 0) :: dsts r
theorem dsts_eq : ∀ l : List Oper, dsts l = l.map fun o => o.dst.getD 0
  | [] => rfl
  | o :: r => by rw [dsts, dsts_eq r, List.map_cons]
theorem dsts_get {l : List Oper} {i : Nat} {o : Oper} (h : l[i]? = some o) : (dsts l)[i]? = some (o.dst.getD 0) := by
  rw [dsts_eq, List.getElem?_map, h, Option.map_some]
theorem dsts_length : ∀ l : List Oper, (dsts l).length = l.length
  | [] => rfl
  | o :: r => by simp [dsts, dsts_length r]
theorem set_self {t : List SV} {g : Nat} {x : SV} (h : t[g]? = some x) : t.set g x = t := by
  apply List.ext_getElem?
  intro j
  rw [List.getElem?_set]
  split
  · rename_i he
    subst he
    rw [if_pos (lt_of_get h), h]
  · rfl
theorem guardK_out {all : List Oper} {o : Oper} {t : List SV} {yes no : List SV → Prop} (h : guardK all o t yes no) : (Gd all o t true ∧ yes t) ∨ (Gd all o t false ∧ no t) := by
  unfold guardK at h
  split at h
  · rename_i hg
    exact .inl ⟨.inl ⟨hg, rfl⟩, h⟩
  · rename_i j want hg
    split at h
    · rename_i oj hoj
      split at h
      · rename_i g hgd
        split at h
        · rename_i b hb
          split at h
          · cases b with
            | true =>
              have h2 := h.yes rfl
              rw [setK_eq, set_self hb] at h2
              exact .inl ⟨.inr ⟨j, true, oj, g, hg, hoj, hgd, .inl ⟨true, hb, rfl⟩⟩, h2⟩
            | false =>
              have h2 := h.no rfl
              rw [setK_eq, set_self hb] at h2
              exact .inr ⟨.inr ⟨j, true, oj, g, hg, hoj, hgd, .inl ⟨false, hb, rfl⟩⟩, h2⟩
          · cases b with
            | true =>
              have h2 := h.yes rfl
              rw [setK_eq, set_self hb] at h2
              exact .inr ⟨.inr ⟨j, false, oj, g, hg, hoj, hgd, .inl ⟨true, hb, rfl⟩⟩, h2⟩
            | false =>
              have h2 := h.no rfl
              rw [setK_eq, set_self hb] at h2
              exact .inl ⟨.inr ⟨j, false, oj, g, hg, hoj, hgd, .inl ⟨false, hb, rfl⟩⟩, h2⟩
        · rename_i hb
          exact .inr ⟨.inr ⟨j, want, oj, g, hg, hoj, hgd, .inr ⟨hb, rfl⟩⟩, h⟩
        · exact h.elim
      · exact h.elim
    · exact h.elim
theorem drawK_cons {P : Program} {Γ : Ty} {G : Gl} {N : Nat} {all : List Oper} {o : Oper} {r : List Oper} {t : List SV} {H : List LObj} {k : LS → Prop} (h : drawK P Γ G N all H k (o :: r) t) :
    ∃ d x, o.dst = some d ∧ drawK P Γ G N all H k r (t.set d x) ∧ StepOk P Γ G N all o t H x := by
  rw [drawK] at h
  split at h
  · exact h.elim
  · rename_i d hd
    rcases guardK_out h with ⟨hg, h⟩ | ⟨hg, h⟩
    · obtain ⟨x, h1, h2⟩ := QStep.out h
      rw [setK_eq] at h2
      exact ⟨d, x, hd, h2, d, hd, .inl ⟨hg, h1⟩⟩
    · unfold qSkip at h
      rw [setK_eq] at h
      exact ⟨d, _, hd, h, d, hd, .inr ⟨hg, rfl⟩⟩
theorem drawK_out {P : Program} {Γ : Ty} {G : Gl} {N : Nat} {all : List Oper} {k : LS → Prop} {H : List LObj} : ∀ {l : List Oper} {t : List SV}, drawK P Γ G N all H k l t →
    ∃ xs : List SV, xs.length = l.length ∧ k ⟨curF t (dsts l) xs (List.replicate l.length true), H⟩ ∧ ∀ (m : Nat) o x, l[m]? = some o → xs[m]? = some x → StepOk P Γ G N all o (curF t (dsts (l.take m)) (xs.take m) (List.replicate m true)) H x := by
  intro l
  induction l with
  | nil => intro t h; exact ⟨[], rfl, h, fun m o x hm => by simp at hm⟩
  | cons o r ih =>
    intro t h
    obtain ⟨d, x, hd, hk, hs⟩ := drawK_cons h
    obtain ⟨xs, h1, h2, h3⟩ := ih hk
    refine ⟨x :: xs, by rw [List.length_cons, List.length_cons, h1], ?_, fun m o' y hm hy => ?_⟩
    · rw [List.length_cons, List.replicate_succ, dsts, curF, if_pos rfl, hd]
      exact h2
    · cases m with
      | zero => cases hm; cases hy; exact hs
      | succ m =>
        rw [List.getElem?_cons_succ] at hm hy
        have := h3 m o' y hm hy
        rw [List.take_succ_cons, List.take_succ_cons, List.replicate_succ, dsts, curF, if_pos rfl, hd]
        exact this
theorem curF_miss : ∀ {t : List SV} {ds : List Nat} {xs : List SV} {bs : List Bool} {i : Nat}, (∀ d ∈ ds, d ≠ i) → (curF t ds xs bs)[i]? = t[i]?
  | t, [], xs, bs, i, h => by simp [curF]
  | t, d :: ds, [], bs, i, h => by simp [curF]
  | t, d :: ds, x :: xs, [], i, h => by simp [curF]
  | t, d :: ds, x :: xs, b :: bs, i, h => by
    rw [curF, curF_miss fun d' hd' => h d' (List.mem_cons_of_mem _ hd')]
    have hne := h d (List.mem_cons_self ..)
    cases b
    · rfl
    · simp [List.getElem?_set_ne hne]
theorem curF_length : ∀ {t : List SV} {ds : List Nat} {xs : List SV} {bs : List Bool}, (curF t ds xs bs).length = t.length
  | t, [], xs, bs => by simp [curF]
  | t, d :: ds, [], bs => by simp [curF]
  | t, d :: ds, x :: xs, [] => by simp [curF]
  | t, d :: ds, x :: xs, b :: bs => by
    rw [curF, curF_length]
    cases b <;> simp
theorem curF_hit : ∀ {t : List SV} {ds : List Nat} {xs : List SV} {bs : List Bool} {m d : Nat} {x : SV} {b : Bool}, ds.Nodup → ds[m]? = some d → xs[m]? = some x → bs[m]? = some b →
    (curF t ds xs bs)[d]? = (if b then t.set d x else t)[d]?
  | t, e :: ds, y :: xs, c :: bs, 0, d, x, b, hn, hd, hx, hb => by
    cases hd; cases hx; cases hb
    rw [curF, curF_miss]
    intro d' hd' he
    subst he
    exact (List.nodup_cons.1 hn).1 hd'
  | t, e :: ds, y :: xs, c :: bs, m + 1, d, x, b, hn, hd, hx, hb => by
    rw [curF, curF_hit (m := m) (x := x) (b := b) (List.nodup_cons.1 hn).2 (by simpa using hd) (by simpa using hx) (by simpa using hb)]
    have hne : e ≠ d := by
      rintro rfl
      exact (List.nodup_cons.1 hn).1 (List.mem_of_getElem? (by simpa using hd))
    cases b <;> cases c <;> simp [List.getElem?_set, hne]
  | t, [], _, _, m, d, x, b, _, hd, _, _ => by simp at hd
  | t, _ :: _, [], _, m, d, x, b, _, _, hx, _ => by simp at hx
  | t, _ :: _, _ :: _, [], m, d, x, b, _, _, _, hb => by simp at hb
theorem curF_set : ∀ {t : List SV} {ds : List Nat} {xs : List SV} {bs : List Bool} {m d : Nat} {x : SV}, ds.Nodup → ds[m]? = some d → xs[m]? = some x → bs[m]? = some false →
    curF t ds xs (bs.set m true) = (curF t ds xs bs).set d x := by
  intro t ds xs bs m d x hn hd hx hb
  have hlt : m < bs.length := lt_of_get hb
  apply List.ext_getElem?
  intro i
  rw [List.getElem?_set, curF_length]
  by_cases hi : i ∈ ds
  · obtain ⟨k, hk⟩ := List.getElem?_of_mem hi
    by_cases hkm : k = m
    · subst hkm
      rw [hd] at hk
      cases hk
      rw [curF_hit (b := true) hn hd hx (by rw [List.getElem?_set_self hlt])]
      simp [List.getElem?_set]
    · have hne : d ≠ i := by
        rintro rfl
        have := (List.getElem?_inj (lt_of_get hd) hn).1 (hd.trans hk.symm)
        exact hkm this.symm
      rw [if_neg hne]
      cases hxk : xs[k]? with
      | none =>
        have key : ∀ {t : List SV} {ds : List Nat} {xs : List SV} {bs bs' : List Bool} {k i : Nat}, ds.Nodup → ds[k]? = some i → xs[k]? = none → (curF t ds xs bs)[i]? = t[i]? := by
          intro t ds
          induction ds generalizing t with
          | nil => intro xs bs bs' k i _ h; simp at h
          | cons e ds ih =>
            intro xs bs bs' k i hn hk hx
            cases xs with
            | nil => simp [curF]
            | cons y xs =>
              cases bs with
              | nil => simp [curF]
              | cons c bs =>
                cases k with
                | zero => simp at hx
                | succ k =>
                  rw [curF, ih (bs' := []) (List.nodup_cons.1 hn).2 (by simpa using hk) (by simpa using hx)]
                  have hne : e ≠ i := by
                    rintro rfl
                    exact (List.nodup_cons.1 hn).1 (List.mem_of_getElem? (by simpa using hk))
                  cases c <;> simp [List.getElem?_set_ne hne]
        rw [key (bs' := []) hn hk hxk, key (bs' := []) hn hk hxk]
      | some y =>
        cases hbk : bs[k]? with
        | none =>
          have h1 : ∀ {t : List SV} {ds : List Nat} {xs : List SV} {bs : List Bool} {k i : Nat}, ds.Nodup → ds[k]? = some i → bs[k]? = none → (curF t ds xs bs)[i]? = t[i]? := by
            intro t ds
            induction ds generalizing t with
            | nil => intro xs bs k i _ h; simp at h
            | cons e ds ih =>
              intro xs bs k i hn hk hx
              cases xs with
              | nil => simp [curF]
              | cons y xs =>
                cases bs with
                | nil => simp [curF]
                | cons c bs =>
                  cases k with
                  | zero => simp at hx
                  | succ k =>
                    rw [curF, ih (List.nodup_cons.1 hn).2 (by simpa using hk) (by simpa using hx)]
                    have hne : e ≠ i := by
                      rintro rfl
                      exact (List.nodup_cons.1 hn).1 (List.mem_of_getElem? (by simpa using hk))
                    cases c <;> simp [List.getElem?_set_ne hne]
          rw [h1 hn hk (by rw [List.getElem?_set_ne (Ne.symm hkm)]; exact hbk), h1 hn hk hbk]
        | some b =>
          rw [curF_hit (b := b) hn hk hxk (by rw [List.getElem?_set_ne (Ne.symm hkm)]; exact hbk), curF_hit (b := b) hn hk hxk hbk]
  · have hi' : ∀ d ∈ ds, d ≠ i := fun d hd h => hi (h ▸ hd)
    rw [curF_miss hi', curF_miss hi']
    have hne : d ≠ i := hi' d (List.mem_of_getElem? hd)
    rw [if_neg hne]
theorem hasN_mem : ∀ {l : List Nat} {i : Nat}, i ∈ l → hasN l i = true
  | a :: r, i, h => by
    rw [hasN]
    split
    · rfl
    · rename_i hb
      rcases List.mem_cons.1 h with rfl | h
      · simp at hb
      · exact hasN_mem h
theorem hasN_not : ∀ {l : List Nat} {i : Nat}, hasN l i = true → i ∈ l
  | [], i, h => by simp [hasN] at h
  | a :: r, i, h => by
    rw [hasN] at h
    split at h
    · rename_i hb
      rw [Nat.eq_of_beq_eq_true hb]
      exact List.mem_cons_self ..
    · exact List.mem_cons_of_mem _ (hasN_not h)
def distB : List Nat → Bool
  | [] => true
  | d :: ds => !hasN ds d && distB ds
theorem distB_out : ∀ {l : List Nat}, distB l = true → l.Nodup
  | [], _ => List.nodup_nil
  | d :: ds, h => by
    rw [distB, Bool.and_eq_true] at h
    refine List.nodup_cons.2 ⟨fun hm => ?_, distB_out h.2⟩
    have := hasN_mem hm
    simp [this] at h
def depsB (rd : List Nat) (es : List Edge) (i : Nat) : List Oper → Nat → Bool
  | [], _ => true
  | o :: l, m => (!hasN rd (o.dst.getD 0) || ((Nat.blt m i && es.any fun e => Nat.beq e.on m && Region.binds .any e) || (Nat.blt i m && o.after.toList.any fun e => Nat.beq e.on i && Region.binds .any e))) && depsB rd es i l (m + 1)
theorem depsB_out {rd : List Nat} {es : List Edge} {i : Nat} : ∀ {l : List Oper} {m : Nat}, depsB rd es i l m = true → ∀ (j : Nat) o, l[j]? = some o → o.dst.getD 0 ∈ rd →
    (m + j < i ∧ ∃ e ∈ es, e.on = m + j ∧ Region.binds .any e = true) ∨ (i < m + j ∧ ∃ e ∈ o.after, e.on = i ∧ Region.binds .any e = true)
  | [], m, h, j, o, hj, hd => by simp at hj
  | o' :: l, m, h, j, o, hj, hd => by
    rw [depsB, Bool.and_eq_true] at h
    cases j with
    | zero =>
      rw [List.getElem?_cons_zero, Option.some.injEq] at hj
      subst hj
      have h1 := h.1
      rw [hasN_mem hd] at h1
      simp only [Bool.not_true, Bool.false_or, Bool.or_eq_true, Bool.and_eq_true, List.any_eq_true] at h1
      rcases h1 with ⟨h2, e, he, h3, h4⟩ | ⟨h2, e, he, h3, h4⟩
      · exact .inl ⟨by simpa [Nat.blt_eq] using h2, e, he, Nat.eq_of_beq_eq_true h3, h4⟩
      · exact .inr ⟨by simpa [Nat.blt_eq] using h2, e, by simpa using he, Nat.eq_of_beq_eq_true h3, h4⟩
    | succ j =>
      have := depsB_out h.2 j o (by simpa using hj) hd
      rw [show m + (j + 1) = m + 1 + j by omega]
      exact this
def okFrom (all : List Oper) : Nat → List Oper → Bool
  | _, [] => true
  | i, o :: r => (o.after.toList.all (fun e => !Region.binds .any e || Nat.blt e.on i) && depsB (reads all o) o.after.toList i all 0) && okFrom all (i + 1) r
theorem okFrom_out {all : List Oper} : ∀ {l : List Oper} {i : Nat}, okFrom all i l = true → ∀ (j : Nat) o, l[j]? = some o →
    (∀ e ∈ o.after, Region.binds .any e = true → e.on < i + j) ∧ ∀ (m : Nat) om, all[m]? = some om → om.dst.getD 0 ∈ reads all o →
      (m < i + j ∧ ∃ e ∈ o.after, e.on = m ∧ Region.binds .any e = true) ∨ (i + j < m ∧ ∃ e ∈ om.after, e.on = i + j ∧ Region.binds .any e = true)
  | [], i, h, j, o, hj => by simp at hj
  | o' :: r, i, h, j, o, hj => by
    rw [okFrom, Bool.and_eq_true, Bool.and_eq_true] at h
    cases j with
    | zero =>
      rw [List.getElem?_cons_zero, Option.some.injEq] at hj
      subst hj
      refine ⟨fun e he hb => ?_, fun m om hm hd => ?_⟩
      · have := List.all_eq_true.1 h.1.1 e (by simpa using he)
        rw [hb] at this
        simpa [Nat.blt_eq] using this
      · have := depsB_out h.1.2 m om hm hd
        rw [Nat.zero_add] at this
        rcases this with ⟨h1, e, h2, h3, h4⟩ | this
        · exact .inl ⟨h1, e, by simpa using h2, h3, h4⟩
        · exact .inr this
    | succ j =>
      have := okFrom_out h.2 j o (by simpa using hj)
      rw [show i + (j + 1) = i + 1 + j by omega]
      exact this
def okB (ops : Array Oper) : Bool := distB (dsts ops.toList) && okFrom ops.toList 0 ops.toList
theorem wp_put {P : Program} {o : Oper} {a : Act} {w : World} {K : Act → World → Prop} {Q : Exit → Act → World → Prop} (h : o.wp P a w K Q) : o.wp P a w (fun a' w' => K a' w' ∧ ∃ v, a'.tmps = (a.put o.dst v).tmps) Q := by
  unfold Oper.wp at *
  generalize (execOp a.eval o).run P w = r at *
  cases r with
  | ok n w' =>
    cases n <;> simp only [Oper.upon] at h ⊢ <;>
      first
        | exact ⟨h, _, rfl⟩
        | exact Calls.mono h (fun e w'' he => by cases e <;> first | exact ⟨he, _, rfl⟩ | exact he)
        | exact Rows.mono h (fun _ _ he => ⟨he, _, rfl⟩)
        | exact ⟨h, undef, by cases o.dst <;> rfl⟩
        | exact h
  | halt x w' => cases x <;> simp only [Oper.upon] at h ⊢ <;> exact h
theorem firstF {t : List SV} {l : List Oper} {xs : List SV} {m : Nat} (hl : xs.length = l.length) (hn : (dsts l).Nodup) (hm : m ≤ l.length) {r : Nat} {bs : List Bool} (hb : bs.length = l.length)
    (h : ∀ (j : Nat), (dsts l)[j]? = some r → (j < m ∧ bs[j]? = some true) ∨ (m ≤ j ∧ bs[j]? = some false)) : (curF t (dsts l) xs bs)[r]? = (curF t (dsts (l.take m)) (xs.take m) (List.replicate m true))[r]? := by
  have hd : dsts (l.take m) = (dsts l).take m := by rw [dsts_eq, dsts_eq, List.map_take]
  rw [hd]
  by_cases hr : r ∈ dsts l
  · obtain ⟨j, hj⟩ := List.getElem?_of_mem hr
    have hjl : j < l.length := by have := lt_of_get hj; rwa [dsts_length] at this
    rcases h j hj with ⟨h1, h2⟩ | ⟨h1, h2⟩
    case inr =>
      rw [curF_hit hn hj (List.getElem?_eq_getElem (by omega : j < xs.length)) h2, curF_miss]
      · rfl
      · intro d hd he
        subst he
        obtain ⟨q, hq⟩ := List.getElem?_of_mem hd
        have hqm : q < m := by
          have := lt_of_get hq
          rw [List.length_take] at this
          omega
        rw [List.getElem?_take, if_pos hqm] at hq
        have := (List.getElem?_inj (lt_of_get hq) hn).1 (hq.trans hj.symm)
        omega
    have hx : xs[j]? = some xs[j] := List.getElem?_eq_getElem (by omega)
    rw [curF_hit hn hj hx h2, curF_hit (m := j) (x := xs[j]) (b := true) (hn.sublist (List.take_sublist _ _)) (by rw [List.getElem?_take, if_pos h1]; exact hj) (by rw [List.getElem?_take, if_pos h1]; exact hx) (by rw [List.getElem?_replicate, if_pos h1])]
  · rw [curF_miss fun d hd h => hr (by rw [← h]; exact hd), curF_miss fun d hd h => hr (by rw [← h]; exact List.mem_of_mem_take hd)]
theorem any_order {P : Program} {Γ : Ty} (hΓ : TyOk P Γ) {G : Gl} {ops : Array Oper} {t0 : List SV} {H : List LObj} {xs : List SV} {Q : Exit → Act → World → Prop} {E0 : Env} {w0 : World}
    (hok : okB ops = true) (hl : xs.length = ops.toList.length) (hst : ∀ (m : Nat) o x, ops.toList[m]? = some o → xs[m]? = some x → StepOk P Γ G H.length ops.toList o (curF t0 (dsts (ops.toList.take m)) (xs.take m) (List.replicate m true)) H x)
    (hQ : ∀ E a w, SR G A E ⟨curF t0 (dsts ops.toList) xs (List.replicate ops.toList.length true), H⟩ a w → Step E0 H w0 E H w → Q .normal a w) :
    ∀ (fuel : Nat) (listed : Array Bool) (E : Env) (a : Act) (w : World), listed.size = ops.size → listed.toList.count false = fuel → (∀ (j : Nat) oj, ops[j]? = some oj → listed.getD j false = true → ∀ e ∈ oj.after, Region.binds .any e = true → listed.getD e.on false = true) → SR G A E ⟨curF t0 (dsts ops.toList) xs listed.toList, H⟩ a w → Step E0 H w0 E H w →
      wpAny P .any ops Q fuel listed a w := by
  obtain ⟨hdist, hfrom⟩ := (Bool.and_eq_true _ _).mp hok
  have hn := distB_out hdist
  have hfr := okFrom_out hfrom
  have hall : ∀ (listed : Array Bool), listed.size = ops.size → listed.toList.count false = 0 → listed.toList = List.replicate ops.toList.length true := by
    intro listed h1 h2
    rw [List.count_eq_zero] at h2
    rw [List.eq_replicate_iff]
    refine ⟨by simpa using h1, fun b hb => ?_⟩
    cases b with
    | true => rfl
    | false => exact absurd hb h2
  have hnone : ∀ (listed : Array Bool), listed.size = ops.size → Region.ready .any ops listed = [] → ∀ (m i : Nat), i < m → i < ops.size → listed.getD i false = true := by
    intro listed h1 h2 m
    induction m with
    | zero => intro i hi; omega
    | succ m ih =>
      intro i hi hio
      cases hb : listed.getD i false with
      | true => rfl
      | false =>
        exfalso
        have hr : i ∈ Region.ready .any ops listed := by
          refine mem_ready.2 ⟨?_, ops[i], Array.getElem?_eq_getElem hio, fun e he hbd => ?_⟩
          · have hlt : i < listed.size := by omega
            simp [hlt] at hb ⊢
            exact hb
          · have h3 := (hfr i ops[i] (by simp [hio])).1 e he hbd
            exact ih e.on (by omega) (by omega)
        rw [h2] at hr
        cases hr
  have hready : ∀ (listed : Array Bool), listed.size = ops.size → Region.ready .any ops listed = [] → listed.toList.count false = 0 := by
    intro listed h1 h2
    rw [List.count_eq_zero]
    intro hm
    obtain ⟨i, hi⟩ := List.getElem?_of_mem hm
    have hlt : i < listed.size := by simpa using lt_of_get hi
    have := hnone listed h1 h2 (i + 1) i (by omega) (by omega)
    simp [hlt] at this hi
    rw [hi] at this
    cases this
  intro fuel
  induction fuel with
  | zero =>
    intro listed E a w h1 h2 hcl hs hstep
    refine ⟨?_, ?_⟩
    · cases hr : Region.ready .any ops listed with
      | nil => rfl
      | cons i r =>
        exfalso
        have hm : i ∈ Region.ready .any ops listed := by rw [hr]; exact List.mem_cons_self ..
        obtain ⟨h3, o, ho, _⟩ := mem_ready.1 hm
        have hlt : i < ops.size := (Array.getElem?_eq_some_iff.1 ho).1
        have hlt' : i < listed.size := by omega
        have h4 := hall listed h1 h2
        have h5 : listed.toList[i]? = some true := by rw [h4, List.getElem?_replicate, if_pos (by simpa using hlt)]
        simp [hlt'] at h3 h5
        rw [h5] at h3
        cases h3
    · rw [hall listed h1 h2] at hs
      exact hQ E a w hs hstep
  | succ fuel ih =>
    intro listed E a w h1 h2 hcl hs hstep
    refine ⟨fun hr => absurd (hready listed h1 hr) (by omega), fun i hi => ?_⟩
    obtain ⟨h3, o, ho, hafter⟩ := mem_ready.1 hi
    have hlt : i < ops.size := (Array.getElem?_eq_some_iff.1 ho).1
    have hltl : i < listed.size := by omega
    have hol : ops.toList[i]? = some o := by rw [← ho]; simp
    obtain ⟨x, hxi⟩ : ∃ x, xs[i]? = some x := ⟨_, List.getElem?_eq_getElem (by rw [hl]; simpa using hlt)⟩
    have hbi : listed.toList[i]? = some false := by
      simp [hltl] at h3
      simp [hltl, h3]
    obtain ⟨d, hd, hstepok⟩ := hst i o x hol hxi
    have hdi : (dsts ops.toList)[i]? = some d := by rw [dsts_get hol, hd]; rfl
    have hcount : (listed.setIfInBounds i true).toList.count false = fuel := by
      rw [Array.toList_setIfInBounds, List.count_set (by simpa using hltl)]
      have : listed.toList[i] = false := by
        have := List.getElem?_eq_getElem (l := listed.toList) (i := i) (by simpa using hltl)
        rw [this] at hbi
        simpa using hbi
      rw [this, h2]
      simp
    have hsize : (listed.setIfInBounds i true).size = ops.size := by simpa using h1
    have hcl2 : ∀ (j : Nat) oj, ops[j]? = some oj → (listed.setIfInBounds i true).getD j false = true → ∀ e ∈ oj.after, Region.binds .any e = true → (listed.setIfInBounds i true).getD e.on false = true := by
      intro j oj hoj hlj e he hb
      by_cases hij : i = j
      · subst hij
        rw [ho] at hoj
        cases hoj
        exact getD_set_true (hafter e he hb)
      · rw [getD_set_ne false hij] at hlj
        exact getD_set_true (hcl j oj hoj hlj e he hb)
    have hread : ∀ r ∈ reads ops.toList o, (curF t0 (dsts ops.toList) xs listed.toList)[r]? = (curF t0 (dsts (ops.toList.take i)) (xs.take i) (List.replicate i true))[r]? := by
      intro r hr
      refine firstF hl hn (by simpa using Nat.le_of_lt hlt) (by simpa using h1) fun j hj => ?_
      have hjl0 : j < ops.toList.length := by have := lt_of_get hj; rwa [dsts_length] at this
      obtain ⟨oj, hoj⟩ : ∃ oj, ops.toList[j]? = some oj := ⟨_, List.getElem?_eq_getElem hjl0⟩
      have hdj : oj.dst.getD 0 = r := by
        rw [dsts_get hoj] at hj
        exact Option.some.inj hj
      rcases (hfr i o hol).2 j oj hoj (by rw [hdj]; exact hr) with ⟨h4, e, h5, h6, h7⟩ | ⟨h4, e, h5, h6, h7⟩
      case inr =>
        refine .inr ⟨by omega, ?_⟩
        have hjl : j < listed.size := by rw [h1]; simpa using hjl0
        cases hb : listed.getD j false with
        | false =>
          simp [hjl] at hb
          simp [hjl, hb]
        | true =>
          exfalso
          have h9 := hcl j oj (by rw [← hoj]; simp) hb e h5 h7
          rw [h6, Nat.zero_add] at h9
          simp [hltl] at h3 h9
          rw [h3] at h9
          cases h9
      have h8 := hafter e h5 h7
      rw [h6] at h8
      have hjl : j < listed.size := by omega
      simp [hjl] at h8
      exact .inl ⟨by omega, by simp [hjl, h8]⟩
    have hnext : ∀ E' w' v a', a'.tmps = (a.put o.dst v).tmps → a'.defers = [] → VR E' w' x v → E.Le E' → (∀ b, E.I b → E'.I b) → (∀ b, E.I b → w'.heap[b]? = w.heap[b]?) → Rel E' H w' → GlOk E' w' G → Step E H w E' H w' →
        wpAny P .any ops Q fuel (listed.setIfInBounds i true) a' w' := by
      intro E' w' v a' hat had hv hle hI hk hrel hgl hst'
      refine ih _ E' _ w' hsize hcount hcl2 ⟨hs.anc.trans hle, ?_, hrel, hgl, ?_⟩ (hstep.trans hst')
      · rw [Array.toList_setIfInBounds, curF_set hn hdi hxi hbi, hat, hd]
        show VRs E' w' _ (a.tmps.setIfInBounds d v).toList
        rw [Array.toList_setIfInBounds]
        exact (hs.vals.kept hle hI hk).set_ d hv
      · exact had
    unfold wpOp
    simp only [ho]
    rcases hstepok with ⟨hg, hop⟩ | ⟨hg, hx⟩
    · rw [if_pos (hg.wanted hs.vals fun r hr => hread r (List.mem_append_left _ hr))]
      have hsm : SR G E E ⟨seeT (reads ops.toList o) 0 (curF t0 (dsts (ops.toList.take i)) (xs.take i) (List.replicate i true)), H⟩ a w := by
        refine ⟨Env.Le.refl E, ⟨?_, fun j x v hx hv => ?_⟩, hs.rel, hs.gl, hs.nod⟩
        · rw [seeT_length, curF_length, hs.vals.1, curF_length]
        · rw [seeT_get, Nat.zero_add] at hx
          cases hh : hasN (reads ops.toList o) j with
          | true =>
            rw [hh, ← hread j (hasN_not hh)] at hx
            simp only [Option.map_id'] at hx
            exact hs.vals.2 j x v hx hv
          | false =>
            rw [hh] at hx
            cases hc : (curF t0 (dsts (ops.toList.take i)) (xs.take i) (List.replicate i true))[j]? with
            | none => rw [hc] at hx; cases hx
            | some y => rw [hc] at hx; cases hx; exact .any v
      refine .inl (Oper.wp_mono ?_ (wp_put (opK_sound (N := fun a' w' => Then G E E ⟨seeT (reads ops.toList o) 0 (curF t0 (dsts (ops.toList.take i)) (xs.take i) (List.replicate i true)), H⟩ w (isPut d x H) a' w') hΓ hs.rel.len.symm hsm hop fun a' w' h => h)))
      rintro a' w' ⟨⟨s', E', h4, h5, h6⟩, v, hat⟩
      obtain ⟨y, h7, h8, h9⟩ := pickK_out h4
      rw [h8] at h7
      rw [h9] at h6
      have hrel := h5.rel
      rw [h9] at hrel
      have hv : VR E' w' x v := by
        obtain ⟨u, h10, h11⟩ := h5.vals.get h7
        rw [hat, hd] at h10
        have hdl : d < a.tmps.size := by
          have := lt_of_get h10
          simpa [Act.put] using this
        have : u = v := by
          have h12 : (a.put (some d) v).tmps.toList[d]? = some v := by
            show (a.tmps.setIfInBounds d v).toList[d]? = some v
            rw [Array.toList_setIfInBounds, List.getElem?_set_self (by simpa using hdl)]
          rw [h12] at h10
          exact (Option.some.inj h10).symm
        exact this ▸ h11
      exact hnext E' w' v a' hat h5.nod hv h5.anc h6.Imono (hs.rel.keepI (p := InFoot E H) (fun _ h => h) h6.keep) hrel h5.gl h6
    · rw [hg.wanted hs.vals fun r hr => hread r (List.mem_append_left _ hr)]
      simp only [Bool.false_eq_true, if_false]
      exact hnext E w undef _ rfl (by rw [hd]; exact hs.nod) (by rw [hx]; exact undef_ok E w) (Env.Le.refl E) (fun _ h => h) (fun _ _ => rfl) hs.rel hs.gl (Step.refl E H w)
theorem DrawVC.all {P : Program} {Γ : Ty} (hΓ : TyOk P Γ) {G : Gl} {N : Nat} {id : Nat} {ops : Array Oper} {s : LS} {K : Exit → LS → Prop} (hm : P.follows .mixedOrders = true)
    (hB : okB ops = true) (h : drawK P Γ G s.h.length ops.toList s.h (K .normal) ops.toList s.t) : DrawVC P Γ G N id ops s K := by
  refine ⟨fun X hX A E w a hA hs hJ => ?_⟩
  obtain ⟨xs, h1, h2, h3⟩ := drawK_out h
  have hst : Step E s.h w E s.h { w with drawn := w.drawn + 1 } := ⟨Nat.le_refl _, fun _ _ _ => rfl, rfl, rfl, rfl, fun b h => .inr h, fun b h => h, fun b h => .inl h⟩
  have hc0 : ∀ (t : List SV) (ds : List Nat) (xs : List SV) (n : Nat), curF t ds xs (List.replicate n false) = t := by
    intro t ds
    induction ds generalizing t with
    | nil => intro xs n; simp [curF]
    | cons d ds ih =>
      intro xs n
      cases xs with
      | nil => simp [curF]
      | cons x xs =>
        cases n with
        | zero => simp [curF]
        | succ n => rw [List.replicate_succ, curF]; exact ih t xs n
  refine wpIn_mono (wpIn_region_any hm (wpAny_lift (Q := onlyN fun a' w' => Then G A E s w (K .normal) a' w') (onlyN_out _) hX _ (any_order (A := A) (E0 := E) (w0 := w) (t0 := s.t) (H := s.h) (xs := xs) hΓ hB h1 h3 (fun E' a' w' hs' hst' => ⟨rfl, _, E', h2, hs', hst'⟩) ops.size _ E a _ (by simp) (by simp) (fun j oj hoj hlj => by
    exfalso
    simp only [Array.getD_eq_getD_getElem?, Array.getElem?_replicate] at hlj
    split at hlj <;> cases hlj) ?_ hst))) (liftQ_only fun a w h => h)
  rw [Array.toList_replicate, hc0]
  exact ⟨hs.anc, VRs.kept (w := w) (w' := { w with drawn := w.drawn + 1 }) (Env.Le.refl E) (fun _ h => h) (fun _ _ => rfl) hs.vals,
    ⟨hs.rel.len, fun i o hi => ObjR.kept (w := w) (w' := { w with drawn := w.drawn + 1 }) (Env.Le.refl E) (fun _ h => h) (fun _ _ => rfl) (hs.rel.lt hi) (fun _ _ => rfl) (hs.rel.obj i o hi), hs.rel.sep, hs.rel.imm, hs.rel.ltI⟩,
    hs.gl.kept (w := w) (w' := { w with drawn := w.drawn + 1 }) (fun _ h => h) (fun _ _ => rfl), hs.nod⟩
end
section
variable {A : Env}

mutual
def SV.nms : SV → List Nat → List Nat
  | .ptr i _, r => i :: r
  | .slice i _ _ _, r => i :: r
  | .own i, r => i :: r
  | .pown i _, r => i :: r
  | .sub i _ _ _, r => i :: r
  | .opt i _, r => i :: r
  | .mp i, r => i :: r
  | .agg l, r => SV.nmsL l r
  | .tuple l, r => SV.nmsL l r
  | .func _ l, r => SV.nmsL l r
  | .int _ _, r => r
  | .bool _, r => r
  | .str _, r => r
  | .nil, r => r
  | .nilsl, r => r
  | .sl _ _ _ _, r => r
  | .pim _, r => r
  | .nilfunc, r => r
  | .any, r => r
def SV.nmsL : List SV → List Nat → List Nat
  | [], r => r
  | x :: l, r => x.nms (SV.nmsL l r)
end
theorem litK_out : ∀ {l : List Nat} {i : Nat} {k : Nat → Prop}, litK l i k → k i
  | [], _, _, h => h
  | c :: r, i, k, h => by
    rw [litK] at h
    split at h
    · rename_i hb
      rw [← Nat.eq_of_beq_eq_true hb]
      exact h
    · exact litK_out h
def reachK (H : List LObj) : Nat → List Nat → List Nat → (List Nat → Prop) → Prop
  | 0, _, acc, k => k acc
  | _ + 1, [], acc, k => k acc
  | n + 1, i :: r, acc, k => match hasN acc i with
    | true => reachK H n r acc k
    | false => litK lits i fun i => match H[i]? with
      | some (.cells c _) => reachK H n (SV.nmsL c r) (acc ++ [i]) k
      | _ => reachK H n r (acc ++ [i]) k
theorem reachK_out {H : List LObj} : ∀ {n : Nat} {todo acc : List Nat} {k : List Nat → Prop}, reachK H n todo acc k → ∃ idx, k idx
  | 0, _, acc, _, h => ⟨acc, h⟩
  | _ + 1, [], acc, _, h => ⟨acc, h⟩
  | n + 1, i :: r, acc, k, h => by
    rw [reachK] at h
    split at h
    · exact reachK_out h
    · have h := litK_out h
      split at h
      · exact reachK_out h
      · exact reachK_out h
theorem CallVC.auto {P : Program} {G : Gl} {N : Nat} {f : FuncId} {args : List Operand} {dst : Option Tmp} {s : LS} {k : LS → Prop} {S : Spec} (hc : Contract P G f S)
    (h : reachK s.h 60 (SV.nmsL (evL G s args) []) [] fun idx => callK S idx (evL G s args) s.h fun r H' => LS.put ⟨s.t, H'⟩ dst r k) : CallVC P G N f args dst s k := by
  obtain ⟨idx, h⟩ := reachK_out h
  exact .of idx hc h
theorem CallVC.autoW {P : Program} {G : Gl} {N : Nat} {f : FuncId} {args : List Operand} {dst : Option Tmp} {s : LS} {k : LS → Prop} (s0 : LS) (hw : Weak G N s s0) {S : Spec} (hc : Contract P G f S)
    (h : reachK s0.h 60 (SV.nmsL (evL G s0 args) []) [] fun idx => callK S idx (evL G s0 args) s0.h fun r H' => LS.put ⟨s0.t, H'⟩ dst r k) : CallVC P G N f args dst s k := by
  obtain ⟨idx, h⟩ := reachK_out h
  exact .weak s0 hw idx hc h
theorem CallClo.auto {P : Program} {G : Gl} {f : FuncId} {args : List Operand} {cap : List SV} {dst : Option Tmp} {s : LS} {k : LS → Prop} {S : Spec} (hc : Contract P G f S)
    (h : reachK s.h 60 (SV.nmsL (evL G s args ++ cap) []) [] fun idx => callK S idx (evL G s args ++ cap) s.h fun r H' => LS.put ⟨s.t, H'⟩ dst r k) : CallClo P G f args cap dst s k := by
  obtain ⟨idx, h⟩ := reachK_out h
  exact .of idx hc h
def nmsO : List LObj → Nat → List Nat
  | .cells c _ :: r, n + 1 => SV.nmsL c (nmsO r n)
  | _ :: r, n + 1 => nmsO r n
  | _, _ => []
def liveN : List SV → List SV → List Nat → List Nat
  | x :: l, .any :: l', r => liveN l l' r
  | x :: l, _ :: l', r => x.nms (liveN l l' r)
  | _, _, r => r
def okIdx (N : Nat) (H : List LObj) (idx : List Nat) (p : Prop) : Prop :=
  match front N 0 idx, nodupB idx, allLt H.length idx with
  | true, true, true => p
  | _, _, _ => False
theorem okIdx_out {N : Nat} {H : List LObj} {idx : List Nat} {p : Prop} (h : okIdx N H idx p) : front N 0 idx = true ∧ nodupB idx = true ∧ allLt H.length idx = true ∧ p := by
  unfold okIdx at h
  split at h
  · rename_i h1 h2 h3; exact ⟨h1, h2, h3, h⟩
  · exact h.elim
theorem WeakV.auto {G : Gl} {N : Nat} {r r' : SV} {H H' : List LObj}
    (h : reachK H 60 (r.nms (nmsO H N)) (lits.take N) fun idx => okIdx N H idx (r.ren (fun i => pos idx i 0) = r' ∧ leH (sub H idx (fun i => pos idx i 0) idx) H')) : WeakV G N r H r' H' := by
  obtain ⟨idx, h⟩ := reachK_out h
  obtain ⟨h1, h2, h3, h4, h5⟩ := okIdx_out h
  exact .to idx h1 h2 h3 h4 h5
theorem Weak.auto {G : Gl} {N : Nat} {s s' : LS}
    (h : reachK s.h 60 (liveN s.t s'.t (nmsO s.h N)) (lits.take N) fun idx => okIdx N s.h idx (leT (SV.renL (fun i => pos idx i 0) s.t) s'.t ∧ leH (sub s.h idx (fun i => pos idx i 0) idx) s'.h)) : Weak G N s s' := by
  obtain ⟨idx, h⟩ := reachK_out h
  obtain ⟨h1, h2, h3, h4, h5⟩ := okIdx_out h
  exact .to idx h1 h2 h3 h4 h5
end
section
variable {A : Env}

theorem Contract.imp {P : Program} {G : Gl} {f : FuncId} {S S' : Spec} (hc : Contract P G f S) (h : ∀ args H Q, S' args H Q → S args H Q) : Contract P G f S' := ⟨hc.ok, fun args H Q hs => hc.meets args H Q (h args H Q hs)⟩
theorem Below.rel {E : Env} {H : List LObj} {w w' : World} (hr : Rel E H w) (hb : Below w.heap.size w w') : Rel E H w' ∧ Step E H w E H w' := by
  have hkI : ∀ b, E.I b → w'.heap[b]? = w.heap[b]? := fun b h => hb.block b (hr.ltI b h)
  refine ⟨⟨hr.len, fun i o hi => ?_, hr.sep, hr.imm, fun b h => Nat.lt_of_lt_of_le (hr.ltI b h) hb.size⟩, hb.size, fun b h _ => hb.block b h, hb.os, hb.tape, hb.output, fun b h => .inr h, fun _ h => h, fun _ h => .inl h⟩
  exact ObjR.kept (.refl E) (fun _ h => h) hkI (hr.lt hi) (fun b hf => hb.block b (hr.foot_lt ⟨i, o, hi, hf⟩)) (hr.obj i o hi)
theorem meets_calls {P : Program} {G : Gl} {f : FuncId} {S : Spec} (h : ∀ args H Q, S args H Q → ∀ (E : Env) (w : World) (vs : List Value), VRs E w args vs → Rel E H w →
    ∃ (v : Value) (r : SV), Calls P f vs.toArray w (fun e w' => e = .returned v ∧ Below w.heap.size w w') ∧ (∀ w' : World, VR E w' r v) ∧ Q r H) : Meets P G f S := by
  intro args H Q hs E w vs hv hr hg
  obtain ⟨v, r, hc, hvr, hq⟩ := h args H Q hs E w vs hv hr
  refine hc.mono ?_
  rintro e w' ⟨rfl, hb⟩
  obtain ⟨h1, h2⟩ := Below.rel hr hb
  exact ⟨v, r, H, E, rfl, hq, hvr w', h1, h2, .refl E⟩
theorem vrs_two {E : Env} {w : World} {x y : SV} {vs : List Value} (h : VRs E w [x, y] vs) : ∃ u v, vs = [u, v] ∧ VR E w x u ∧ VR E w y v := by
  match vs, h.1 with
  | [u, v], _ => exact ⟨u, v, rfl, h.2 0 x u rfl rfl, h.2 1 y v rfl rfl⟩
theorem vrs_one {E : Env} {w : World} {x : SV} {vs : List Value} (h : VRs E w [x] vs) : ∃ u, vs = [u] ∧ VR E w x u := by
  match vs, h.1 with
  | [u], _ => exact ⟨u, rfl, h.2 0 x u rfl rfl⟩
end
section
variable {A : Env}

theorem loadK_any {Γ : Ty} {H : List LObj} {t : TypeId} {x : SV} {c : SV → Prop} (h : loadK Γ [] t x c) : loadK Γ H t x c := by
  cases x <;> simp [loadK] at h ⊢
  all_goals first | exact h | skip
  case pim cs => cases cs <;> simp at h ⊢ <;> exact h
theorem ownsK_any {H : List LObj} {p : Prop} : ∀ {l : List SV}, ownsK [] l p → ownsK H l p
  | [], h => h
  | x :: r, h => by
    rw [ownsK] at h ⊢
    cases x <;> simp [ownK] at h ⊢
    all_goals exact ownsK_any h
theorem convK_any {Γ : Ty} {H : List LObj} {a b : TypeId} {x : SV} {c : SV → Prop} (h : convK Γ [] a b x c) : convK Γ H a b x c := by
  unfold convK at h ⊢
  cases ha : look Γ a <;> simp only [ha] at h ⊢ <;> try exact h
  cases hb : look Γ b <;> simp only [hb] at h ⊢ <;> try exact h
  rename_i ts td
  obtain ⟨d, z, sz, by_⟩ := td
  cases d <;> cases x <;> simp at h ⊢ <;> exact h
theorem iaddrK_any {Γ : Ty} {H : List LObj} {t : TypeId} {x i : SV} {c : SV → Prop} (h : iaddrK Γ [] t x i c) : iaddrK Γ H t x i c := by
  cases x <;> cases i <;> simp only [iaddrK] at h ⊢ <;> try exact h
  all_goals
    first
      | (rename_i cs _ _; cases cs <;> simp only at h ⊢ <;> exact h)
      | (split at h
         · split at h
           · simp at h
           · exact h.elim
         · exact h.elim)
theorem lenK_any {Γ : Ty} {H : List LObj} {t : TypeId} {x : SV} {c : SV → Prop} (h : lenK Γ [] t x c) : lenK Γ H t x c := by
  unfold lenK at h ⊢
  cases ha : look Γ t <;> simp only [ha] at h ⊢ <;> try exact h
  rename_i td
  obtain ⟨d, z, sz, by_⟩ := td
  cases d <;> cases x <;> simp at h ⊢ <;> exact h
theorem cutK_any {Γ : Ty} {H : List LObj} {t : TypeId} {x : SV} {lo hi : Option SV} {c : SV → Prop} (h : cutK Γ [] t x lo hi c) : cutK Γ H t x lo hi c := by
  cases x <;> simp only [cutK] at h ⊢ <;> first
    | exact h
    | (split at h
       · split at h
         · simp at h
         · exact h.elim
       · exact h.elim)
theorem evL_any {G : Gl} {t : List SV} {H H' : List LObj} : ∀ l : List Operand, evL G ⟨t, H⟩ l = evL G ⟨t, H'⟩ l
  | [] => rfl
  | x :: r => by rw [evL, evL, evL_any r]; rfl
theorem lookupK_any {Γ : Ty} {H : List LObj} {t : TypeId} {x i : SV} {ok : Bool} {c : SV → Prop} (h : lookupK Γ [] t x i ok c) : lookupK Γ H t x i ok c := by
  unfold lookupK at h
  split at h
  · simp at h
  · exact h.elim
theorem partsEv_any {G : Gl} {t : List SV} {H H' : List LObj} : ∀ l : List (Nat × Operand), partsEv G ⟨t, H⟩ l = partsEv G ⟨t, H'⟩ l
  | [] => rfl
  | (i, x) :: r => by rw [partsEv, partsEv, partsEv_any r]; rfl
theorem optEv_any {G : Gl} {t : List SV} {H H' : List LObj} (o : Option Operand) : optEv G ⟨t, H⟩ o = optEv G ⟨t, H'⟩ o := by cases o <;> rfl
theorem pureK_any {Γ : Ty} {G : Gl} {o : Oper} {t : List SV} {H : List LObj} {c : SV → Prop} (h : pureK Γ G o ⟨t, []⟩ c) : pureK Γ G o ⟨t, H⟩ c := by
  unfold pureK at h ⊢
  split at h
  case h_4 => rw [partsEv_any (H' := [])]; exact ownsK_any h
  case h_5 => exact loadK_any h
  case h_9 => exact convK_any h
  case h_10 => rw [optEv_any (H' := []), optEv_any (H' := [])]; exact cutK_any h
  case h_13 => exact iaddrK_any h
  case h_15 => exact lookupK_any h
  case h_17 => rw [evL_any (H' := [])]; exact h
  case h_18 =>
    rw [evL_any (H' := [])]
    split at h
    · exact lenK_any h
    · simp at h
    · exact h
    · exact h
    · exact h.elim
  all_goals exact h
def isW (o : Oper) : Bool :=
  match o.op with
  | .call c => match c.callee with
    | .builtin .len => false
    | .builtin .min => false
    | .builtin .max => false
    | _ => true
  | .alloc _ => true
  | .box _ _ => true
  | .store _ _ _ => true
  | .buildSlice _ _ _ => true
  | .makeSlice _ _ _ => true
  | .mapUpdate _ _ _ _ => true
  | .makeMap _ _ => true
  | _ => false
def isWq (qs : List Nat) (m : Nat) (o : Oper) : Bool :=
  match isW o with
  | true => !hasN qs m
  | false => match qs with
    | [] => false
    | qs => hasN qs (1000 + m)
def viaK (via : List Nat) (o : Oper) : Bool := o.after.toList.any fun e => hasN via e.on && Region.binds .any e
theorem viaK_out {via : List Nat} {o : Oper} (h : viaK via o = true) : ∃ e ∈ o.after, e.on ∈ via ∧ Region.binds .any e = true := by
  rw [viaK, List.any_eq_true] at h
  obtain ⟨e, he, h⟩ := h
  rw [Bool.and_eq_true] at h
  exact ⟨e, by simpa using he, hasN_not h.1, h.2⟩
def viaN (m : Nat) (o : Oper) : Option (List Nat) → Option (List Nat)
  | none => none
  | some via => match viaK via o with
    | true => some (m :: via)
    | false => some via
def wChain (qs : List Nat) : List Oper → Nat → Option (List Nat) → Bool
  | [], _, _ => true
  | o :: r, m, last => match isWq qs m o with
    | false => wChain qs r (m + 1) (viaN m o last)
    | true => (match last with
      | none => true
      | some via => viaK via o) && wChain qs r (m + 1) (some [m])
theorem wChain_out {qs : List Nat} {listed : Nat → Bool} : ∀ {l : List Oper} {m : Nat} {last : Option (List Nat)} {L : Prop}, wChain qs l m last = true →
    (∀ (j : Nat) o, l[j]? = some o → listed (m + j) = true → ∀ e ∈ o.after, Region.binds .any e = true → listed e.on = true) →
    (∀ via, last = some via → ∀ q ∈ via, listed q = true → L) →
    ∀ (j : Nat) o, l[j]? = some o → isWq qs (m + j) o = true → listed (m + j) = true →
      (last.isSome = true → L) ∧ ∀ (i : Nat) o', i < j → l[i]? = some o' → isWq qs (m + i) o' = true → listed (m + i) = true
  | [], m, last, L, h, hc, hp, j, o, hj => by simp at hj
  | o0 :: r, m, last, L, h, hc, hp, j, o, hj => by
    intro hw hl
    unfold wChain at h
    have hc' : ∀ (j : Nat) o, r[j]? = some o → listed (m + 1 + j) = true → ∀ e ∈ o.after, Region.binds .any e = true → listed e.on = true := fun j o hj hl => by
      have := hc (j + 1) o (by simpa using hj)
      rw [show m + (j + 1) = m + 1 + j by omega] at this
      exact this hl
    have own : ∀ via, last = some via → viaK via o0 = true → listed m = true → L := by
      intro via hv hk hl0
      obtain ⟨e, he, h1, h2⟩ := viaK_out hk
      exact hp via hv _ h1 (hc 0 o0 rfl (by simpa using hl0) e he h2)
    have hself : ∀ via, some [m] = some via → ∀ q ∈ via, listed q = true → listed m = true := by
      intro via hv q hq hlq
      cases hv
      rw [List.mem_singleton] at hq
      exact hq ▸ hlq
    have hfst : isWq qs m o0 = true → listed m = true → last.isSome = true → L := by
      intro hw0 hl0 hs
      simp only [hw0, Bool.and_eq_true] at h
      cases hla : last with
      | none => rw [hla] at hs; cases hs
      | some via => rw [hla] at h; exact own via hla h.1 hl0
    cases j with
    | zero =>
      cases hj
      exact ⟨hfst (by simpa using hw) (by simpa using hl), fun i o' hi => by omega⟩
    | succ j =>
      rw [List.getElem?_cons_succ] at hj
      rw [show m + (j + 1) = m + 1 + j by omega] at hl hw
      cases hw0 : isWq qs m o0 with
      | false =>
        simp only [hw0] at h
        have hp' : ∀ via, viaN m o0 last = some via → ∀ q ∈ via, listed q = true → L := by
          intro via hv q hq hlq
          cases hla : last with
          | none => rw [hla] at hv; cases hv
          | some v0 =>
            rw [hla, viaN] at hv
            cases hk : viaK v0 o0 with
            | false =>
              rw [hk] at hv
              exact hp v0 hla q (Option.some.inj hv ▸ hq) hlq
            | true =>
              rw [hk] at hv
              rcases List.mem_cons.mp (Option.some.inj hv ▸ hq : q ∈ m :: v0) with rfl | hq
              · exact own v0 hla hk hlq
              · exact hp v0 hla q hq hlq
        obtain ⟨h1, h2⟩ := wChain_out h hc' hp' j o hj hw hl
        refine ⟨fun hs => h1 ?_, fun i o' hi ho' hw' => ?_⟩
        · cases hla : last with
          | none => rw [hla] at hs; cases hs
          | some v0 => rw [viaN]; split <;> rfl
        cases i with
        | zero => cases ho'; rw [Nat.add_zero, hw0] at hw'; cases hw'
        | succ i =>
          rw [show m + (i + 1) = m + 1 + i by omega] at hw' ⊢
          exact h2 i o' (by omega) (by simpa using ho') hw'
      | true =>
        have h' := h
        simp only [hw0, Bool.and_eq_true] at h'
        obtain ⟨h1, h2⟩ := wChain_out (L := listed m = true) h'.2 hc' hself j o hj hw hl
        have hlm : listed m = true := h1 rfl
        refine ⟨hfst hw0 hlm, fun i o' hi ho' hw' => ?_⟩
        cases i with
        | zero => simpa using hlm
        | succ i =>
          rw [show m + (i + 1) = m + 1 + i by omega] at hw' ⊢
          exact h2 i o' (by omega) (by simpa using ho') hw'
structure Out1 (y x : SV) : Prop where
  v : y = x
theorem Out1.same {x : SV} : Out1 x x := ⟨rfl⟩
def dI (m : Nat) (o : Oper) : Nat := o.dst.getD (10000 + m)
def dstsI : Nat → List Oper → List Nat
  | _, [] => []
  | m, o :: r => dI m o :: dstsI (m + 1) r
theorem dstsI_get : ∀ {l : List Oper} {m i : Nat} {o : Oper}, l[i]? = some o → (dstsI m l)[i]? = some (dI (m + i) o)
  | [], m, i, o, h => by simp at h
  | a :: r, m, 0, o, h => by cases h; rfl
  | a :: r, m, i + 1, o, h => by
    rw [dstsI, List.getElem?_cons_succ, dstsI_get (by simpa using h), show m + 1 + i = m + (i + 1) by omega]
theorem dstsI_length : ∀ (m : Nat) (l : List Oper), (dstsI m l).length = l.length
  | _, [] => rfl
  | m, o :: r => by rw [dstsI, List.length_cons, List.length_cons, dstsI_length]
theorem dstsI_take : ∀ (m k : Nat) (l : List Oper), dstsI m (l.take k) = (dstsI m l).take k
  | _, 0, _ => by simp [dstsI]
  | _, _ + 1, [] => by simp [dstsI]
  | m, k + 1, o :: r => by rw [List.take_succ_cons, dstsI, dstsI, List.take_succ_cons, dstsI_take]
def depsI (rd : List Nat) (es : List Edge) (i : Nat) : List Oper → Nat → Bool
  | [], _ => true
  | o :: l, m => (!hasN rd (dI m o) || ((Nat.blt m i && es.any fun e => Nat.beq e.on m && Region.binds .any e) || (Nat.blt i m && o.after.toList.any fun e => Nat.beq e.on i && Region.binds .any e))) && depsI rd es i l (m + 1)
theorem depsI_out {rd : List Nat} {es : List Edge} {i : Nat} : ∀ {l : List Oper} {m : Nat}, depsI rd es i l m = true → ∀ (j : Nat) o, l[j]? = some o → dI (m + j) o ∈ rd →
    (m + j < i ∧ ∃ e ∈ es, e.on = m + j ∧ Region.binds .any e = true) ∨ (i < m + j ∧ ∃ e ∈ o.after, e.on = i ∧ Region.binds .any e = true)
  | [], m, h, j, o, hj, hd => by simp at hj
  | o' :: l, m, h, j, o, hj, hd => by
    rw [depsI, Bool.and_eq_true] at h
    cases j with
    | zero =>
      rw [List.getElem?_cons_zero, Option.some.injEq] at hj
      subst hj
      have h1 := h.1
      rw [hasN_mem (by rw [Nat.add_zero] at hd; exact hd)] at h1
      simp only [Bool.not_true, Bool.false_or, Bool.or_eq_true, Bool.and_eq_true, List.any_eq_true] at h1
      rcases h1 with ⟨h2, e, he, h3, h4⟩ | ⟨h2, e, he, h3, h4⟩
      · exact .inl ⟨by simpa [Nat.blt_eq] using h2, e, he, Nat.eq_of_beq_eq_true h3, h4⟩
      · exact .inr ⟨by simpa [Nat.blt_eq] using h2, e, by simpa using he, Nat.eq_of_beq_eq_true h3, h4⟩
    | succ j =>
      have := depsI_out h.2 j o (by simpa using hj) (by rw [show m + 1 + j = m + (j + 1) by omega]; exact hd)
      rw [show m + (j + 1) = m + 1 + j by omega]
      exact this
def okFromI (all : List Oper) : Nat → List Oper → Bool
  | _, [] => true
  | i, o :: r => (o.after.toList.all (fun e => !Region.binds .any e || Nat.blt e.on i) && depsI (reads all o) o.after.toList i all 0) && okFromI all (i + 1) r
theorem okFromI_out {all : List Oper} : ∀ {l : List Oper} {i : Nat}, okFromI all i l = true → ∀ (j : Nat) o, l[j]? = some o →
    (∀ e ∈ o.after, Region.binds .any e = true → e.on < i + j) ∧ ∀ (m : Nat) om, all[m]? = some om → dI m om ∈ reads all o →
      (m < i + j ∧ ∃ e ∈ o.after, e.on = m ∧ Region.binds .any e = true) ∨ (i + j < m ∧ ∃ e ∈ om.after, e.on = i + j ∧ Region.binds .any e = true)
  | [], i, h, j, o, hj => by simp at hj
  | o' :: r, i, h, j, o, hj => by
    rw [okFromI, Bool.and_eq_true, Bool.and_eq_true] at h
    cases j with
    | zero =>
      rw [List.getElem?_cons_zero, Option.some.injEq] at hj
      subst hj
      refine ⟨fun e he hb => ?_, fun m om hm hd => ?_⟩
      · have := List.all_eq_true.1 h.1.1 e (by simpa using he)
        rw [hb] at this
        simpa [Nat.blt_eq] using this
      · have := depsI_out h.1.2 m om hm (by rw [Nat.zero_add]; exact hd)
        rw [Nat.zero_add] at this
        rcases this with ⟨h1, e, h2, h3, h4⟩ | this
        · exact .inl ⟨h1, e, by simpa using h2, h3, h4⟩
        · exact .inr this
    | succ j =>
      have := okFromI_out h.2 j o (by simpa using hj)
      rw [show i + (j + 1) = i + 1 + j by omega]
      exact this
def okI (ops : Array Oper) : Bool := distB (dstsI 0 ops.toList) && okFromI ops.toList 0 ops.toList
theorem firstI {t : List SV} {ds : List Nat} {xs : List SV} {m : Nat} (hl : xs.length = ds.length) (hn : ds.Nodup) (hm : m ≤ ds.length) {r : Nat} {bs : List Bool} (hb : bs.length = ds.length)
    (h : ∀ (j : Nat), ds[j]? = some r → (j < m ∧ bs[j]? = some true) ∨ (m ≤ j ∧ bs[j]? = some false)) : (curF t ds xs bs)[r]? = (curF t (ds.take m) (xs.take m) (List.replicate m true))[r]? := by
  by_cases hr : r ∈ ds
  · obtain ⟨j, hj⟩ := List.getElem?_of_mem hr
    have hjl : j < ds.length := lt_of_get hj
    rcases h j hj with ⟨h1, h2⟩ | ⟨h1, h2⟩
    case inr =>
      rw [curF_hit hn hj (List.getElem?_eq_getElem (by omega : j < xs.length)) h2, curF_miss]
      · rfl
      · intro d hd he
        subst he
        obtain ⟨q, hq⟩ := List.getElem?_of_mem hd
        have hqm : q < m := by
          have := lt_of_get hq
          rw [List.length_take] at this
          omega
        rw [List.getElem?_take, if_pos hqm] at hq
        have := (List.getElem?_inj (lt_of_get hq) hn).1 (hq.trans hj.symm)
        omega
    have hx : xs[j]? = some xs[j] := List.getElem?_eq_getElem (by omega)
    rw [curF_hit hn hj hx h2, curF_hit (m := j) (x := xs[j]) (b := true) (hn.sublist (List.take_sublist _ _)) (by rw [List.getElem?_take, if_pos h1]; exact hj) (by rw [List.getElem?_take, if_pos h1]; exact hx) (by rw [List.getElem?_replicate, if_pos h1])]
  · rw [curF_miss fun d hd h => hr (by rw [← h]; exact hd), curF_miss fun d hd h => hr (by rw [← h]; exact List.mem_of_mem_take hd)]
def isRd (o : Oper) : Bool :=
  match o.op with
  | .load _ _ => true
  | .call _ => true
  | .indexAddr _ _ _ => true
  | .lookup _ _ _ _ => true
  | .convert _ _ _ => true
  | .build _ _ => true
  | _ => false
def rdAt (G : Gl) (o : Oper) (t : List SV) : Bool :=
  match o.op with
  | .slice _ x _ _ _ => match LS.ev G ⟨t, []⟩ x with
    | .own _ => true
    | _ => false
  | _ => isRd o
def isPutM (d : Option Tmp) (x : SV) (H : List LObj) (s : LS) : Prop :=
  match d with
  | some d => isPut d x H s
  | none => Out .any x s.h H
def stillAt (Γ : Ty) (G : Gl) (all : List Oper) (o : Oper) (t : List SV) (x : SV) (H : List LObj) : Prop := pureK Γ G o ⟨seeT (reads all o) 0 t, H⟩ (fun y => forceK y fun y => Out1 y x)
def quietAt (P : Program) (Γ : Ty) (G : Gl) (all : List Oper) (o : Oper) (d : Nat) (t : List SV) (x : SV) (H : List LObj) : Prop := opK P Γ G H.length o ⟨seeT (reads all o) 0 t, H⟩ (isPut d x H)
def Step3 (P : Program) (Γ : Ty) (G : Gl) (qs : List Nat) (all : List Oper) (m : Nat) (o : Oper) (t : List SV) (H : List LObj) (x : SV) (H' : List LObj) (still : (List LObj → Prop) → Prop) : Prop :=
  (Gd all o t false ∧ x = .tuple [] ∧ H' = H) ∨ (Gd all o t true ∧
    ((isWq qs m o = true ∧ opK P Γ G H.length o ⟨seeT (reads all o) 0 t, H⟩ (isPutM o.dst x H')) ∨ (isWq qs m o = false ∧ H' = H ∧ ∃ d, o.dst = some d ∧ (still (stillAt Γ G all o t x) ∨ still (quietAt P Γ G all o d t x)))))
structure QStepH (p q : SV → List LObj → Prop) : Prop where
  out : ∃ x H', p x H' ∧ q x H'
theorem QStepH.go {p q : SV → List LObj → Prop} {x : SV} {H' : List LObj} (h1 : p x H') (h2 : q x H') : QStepH p q := ⟨⟨x, H', h1, h2⟩⟩
structure QAnd (p q : Prop) : Prop where
  one : p
  two : q
inductive Reach (all : List Oper) : Nat → Nat → Prop
  | one {i : Nat} {o : Oper} {e : Edge} : all[i]? = some o → e ∈ o.after → Region.binds .any e = true → Reach all i e.on
  | step {i n : Nat} {o : Oper} {e : Edge} : all[i]? = some o → e ∈ o.after → Region.binds .any e = true → Reach all e.on n → Reach all i n
theorem Reach.listed {all : List Oper} {listed : Nat → Bool} (hcl : ∀ (j : Nat) oj, all[j]? = some oj → listed j = true → ∀ e ∈ oj.after, Region.binds .any e = true → listed e.on = true) {i n : Nat} (h : Reach all i n) :
    (∀ o, all[i]? = some o → ∀ e ∈ o.after, Region.binds .any e = true → listed e.on = true) → listed n = true := by
  induction h with
  | one ho he hb => intro h; exact h _ ho _ he hb
  | step ho he hb _ ih => intro h; exact ih fun o' ho' => hcl _ o' ho' (h _ ho _ he hb)
abbrev Past := List (Nat × List Nat × List LObj)
def PastOk (all : List Oper) (past : Past) : Prop := ∀ p ∈ past, ∀ q ∈ p.2.1, q = p.1 ∨ Reach all q p.1
def viaP (m : Nat) (o : Oper) (v : List Nat) : List Nat :=
  match viaK v o with
  | true => m :: v
  | false => v
def past1 (m : Nat) (o : Oper) : Past → Past
  | [] => []
  | (n, v, X) :: r => (n, viaP m o v, X) :: past1 m o r
def past1K (m : Nat) (o : Oper) : Past → (Past → Prop) → Prop
  | [], k => k []
  | (n, v, X) :: r, k => match viaK v o with
    | true => past1K m o r fun r' => k ((n, m :: v, X) :: r')
    | false => past1K m o r fun r' => k ((n, v, X) :: r')
theorem past1K_eq (m : Nat) (o : Oper) : ∀ (past : Past) (k : Past → Prop), past1K m o past k = k (past1 m o past)
  | [], _ => rfl
  | (n, v, X) :: r, k => by
    rw [past1K, past1, viaP]
    cases viaK v o <;> exact past1K_eq m o r _
theorem via_reach {all : List Oper} {m n : Nat} {o : Oper} {v : List Nat} (ho : all[m]? = some o) (hv : ∀ q ∈ v, q = n ∨ Reach all q n) (h : viaK v o = true) : Reach all m n := by
  obtain ⟨e, he, hq, hb⟩ := viaK_out h
  rcases hv _ hq with h1 | h1
  · rw [← h1]; exact .one ho he hb
  · exact .step ho he hb h1
theorem past1_mem {m : Nat} {o : Oper} : ∀ {past : Past} {p : Nat × List Nat × List LObj}, p ∈ past → ∃ v, (p.1, v, p.2.2) ∈ past1 m o past
  | (n, v, X) :: r, p, h => by
    cases h with
    | head => exact ⟨_, List.mem_cons_self⟩
    | tail _ h =>
      obtain ⟨v', h'⟩ := past1_mem h
      exact ⟨v', List.mem_cons_of_mem _ h'⟩
theorem PastOk.one {all : List Oper} {m : Nat} {o : Oper} (ho : all[m]? = some o) : ∀ {past : Past}, PastOk all past → PastOk all (past1 m o past)
  | [], _, p, hp => by cases hp
  | (n, v, X) :: r, h, p, hp => by
    have hr : PastOk all r := fun p hp => h p (List.mem_cons_of_mem _ hp)
    cases hp with
    | tail _ hp => exact hr.one ho p hp
    | head =>
      intro q hq
      have hv : ∀ q ∈ v, q = n ∨ Reach all q n := h (n, v, X) List.mem_cons_self
      show q = n ∨ Reach all q n
      have hq : q ∈ viaP m o v := hq
      unfold viaP at hq
      split at hq
      · rename_i hk
        cases hq with
        | head => exact .inr (via_reach ho hv hk)
        | tail _ hq => exact hv q hq
      · exact hv q hq
theorem PastOk.cons {all : List Oper} {m : Nat} {X : List LObj} {past : Past} (h : PastOk all past) : PastOk all ((m, [m], X) :: past) := fun p hp => by
  cases hp with
  | head => intro q hq; exact .inl (by simpa using hq)
  | tail _ hp => exact h p hp
def atAll (f : List LObj → Prop) (o : Oper) : Past → Prop → Prop
  | [], p => p
  | (_, v, H) :: r, p => match viaK v o with
    | true => atAll f o r p
    | false => QAnd (f H) (atAll f o r p)
theorem atAll_out {f : List LObj → Prop} {o : Oper} : ∀ {l : Past} {p : Prop}, atAll f o l p → p ∧ ∀ e ∈ l, viaK e.2.1 o = true ∨ f e.2.2
  | [], p, h => ⟨h, fun H hH => by cases hH⟩
  | (n, v, H) :: r, p, h => by
    unfold atAll at h
    split at h
    · rename_i hk
      obtain ⟨h1, h2⟩ := atAll_out h
      refine ⟨h1, fun e he => ?_⟩
      cases he with
      | head => exact .inl hk
      | tail _ he => exact h2 e he
    · obtain ⟨h1, h2⟩ := atAll_out h.two
      refine ⟨h1, fun e he => ?_⟩
      cases he with
      | head => exact .inr h.one
      | tail _ he => exact h2 e he
def behind (o : Oper) (i : Nat) : Bool := o.after.toList.any fun e => Nat.beq e.on i && Region.binds .any e
def leftOf (o : Oper) : List (Nat × (List LObj → Prop)) → List (Nat × (List LObj → Prop))
  | [] => []
  | (i, f) :: r => match behind o i with
    | true => leftOf o r
    | false => (i, f) :: leftOf o r
def leftK (o : Oper) : List (Nat × (List LObj → Prop)) → (List (Nat × (List LObj → Prop)) → Prop) → Prop
  | [], k => k []
  | (i, f) :: r, k => match behind o i with
    | true => leftK o r k
    | false => leftK o r fun r' => k ((i, f) :: r')
theorem leftK_eq (o : Oper) : ∀ (l : List (Nat × (List LObj → Prop))) (k : List (Nat × (List LObj → Prop)) → Prop), leftK o l k = k (leftOf o l)
  | [], _ => rfl
  | (i, f) :: r, k => by
    rw [leftK, leftOf]
    cases behind o i <;> exact leftK_eq o r _
theorem leftOf_mem {o : Oper} : ∀ {l : List (Nat × (List LObj → Prop))} {p : Nat × (List LObj → Prop)}, p ∈ l → p ∈ leftOf o l ∨ behind o p.1 = true
  | (i, f) :: r, p, h => by
    unfold leftOf
    cases h with
    | head =>
      cases hb : behind o i with
      | true => exact .inr rfl
      | false => exact .inl List.mem_cons_self
    | tail _ h =>
      rcases leftOf_mem (o := o) h with h1 | h1
      · cases hb : behind o i with
        | true => exact .inl h1
        | false => exact .inl (List.mem_cons_of_mem _ h1)
      · exact .inr h1
def FreeTo (qs : List Nat) (l : List Oper) (m0 i j : Nat) : Prop := ∀ (n : Nat) o, n < j → l[n]? = some o → isWq qs (m0 + n) o = true → behind o i = false
theorem FreeTo.zero (qs : List Nat) (l : List Oper) (m0 i : Nat) : FreeTo qs l m0 i 0 := fun n o h => by omega
theorem FreeTo.tail {qs : List Nat} {o : Oper} {r : List Oper} {m0 i j : Nat} (h : FreeTo qs (o :: r) m0 i (j + 1)) : FreeTo qs r (m0 + 1) i j := fun n o' hn ho hw => by
  refine h (n + 1) o' (by omega) (by simpa using ho) ?_
  rw [show m0 + (n + 1) = m0 + 1 + n by omega]
  exact hw
theorem FreeTo.head {qs : List Nat} {o : Oper} {r : List Oper} {m0 i j : Nat} (h : FreeTo qs (o :: r) m0 i (j + 1)) (hw : isWq qs m0 o = true) : behind o i = false := h 0 o (by omega) rfl hw
def allAt (H : List LObj) : List (Nat × (List LObj → Prop)) → Prop → Prop
  | [], p => p
  | (_, f) :: r, p => QAnd (f H) (allAt H r p)
theorem allAt_out {H : List LObj} : ∀ {l : List (Nat × (List LObj → Prop))} {p : Prop}, allAt H l p → p ∧ ∀ f ∈ l, f.2 H
  | [], p, h => ⟨h, fun f hf => by cases hf⟩
  | (_, f) :: r, p, h => by
    obtain ⟨h1, h2⟩ := allAt_out h.two
    refine ⟨h1, fun f' hf => ?_⟩
    cases hf with
    | head => exact h.one
    | tail _ hf => exact h2 f' hf
def drawK3 (P : Program) (Γ : Ty) (G : Gl) (qs : List Nat) (all : List Oper) (k : LS → Prop) : Nat → List Oper → List SV → List LObj → Past → List (Nat × (List LObj → Prop)) → Prop
  | _, [], t, H, _, _ => k ⟨t, H⟩
  | m, o :: r, t, H, past, fs => guardK all o t (fun t => match isWq qs m o with
      | true => QStepH (fun x H' => opK P Γ G H.length o ⟨seeT (reads all o) 0 t, H⟩ (isPutM o.dst x H')) fun x H' => setK t (dI m o) x fun t => leftK o fs fun fs => past1K m o past fun past => allAt H' fs (drawK3 P Γ G qs all k (m + 1) r t H' ((m, [m], H) :: past) fs)
      | false => match o.dst with
        | none => False
        | some d => match isW o with
          | true => QStep (fun x => quietAt P Γ G all o d t x H) fun x => atAll (quietAt P Γ G all o d t x) o past (setK t d x fun t' => past1K m o past fun past => drawK3 P Γ G qs all k (m + 1) r t' H past ((m, quietAt P Γ G all o d t x) :: fs))
          | false => match rdAt G o t with
          | true => QStep (fun x => stillAt Γ G all o t x H) fun x => atAll (stillAt Γ G all o t x) o past (setK t d x fun t' => past1K m o past fun past => drawK3 P Γ G qs all k (m + 1) r t' H past ((m, stillAt Γ G all o t x) :: fs))
          | false => QStep (fun x => stillAt Γ G all o t x []) fun x => setK t d x fun t => past1K m o past fun past => drawK3 P Γ G qs all k (m + 1) r t H past fs) (fun t => setK t (dI m o) (.tuple []) fun t => past1K m o past fun past => drawK3 P Γ G qs all k (m + 1) r t H past fs)
def AheadTo (qs : List Nat) (all l : List Oper) (m0 i j : Nat) : Prop := ∀ (n : Nat) o, j ≤ n → l[n]? = some o → isWq qs (m0 + n) o = true → ¬ Reach all i (m0 + n)
theorem AheadTo.tail {qs : List Nat} {all : List Oper} {o : Oper} {r : List Oper} {m0 i j j' : Nat} (hj : j ≤ j' + 1) (h : AheadTo qs all (o :: r) m0 i j) : AheadTo qs all r (m0 + 1) i j' := fun n o' hn ho hw => by
  have := h (n + 1) o' (by omega) (by simpa using ho) (by rw [show m0 + (n + 1) = m0 + 1 + n by omega]; exact hw)
  rwa [show m0 + (n + 1) = m0 + 1 + n by omega] at this
theorem dI_some {m : Nat} {o : Oper} {d : Nat} (h : o.dst = some d) : dI m o = d := by simp [dI, h]
theorem drawK3_out {P : Program} {Γ : Ty} {G : Gl} {qs : List Nat} {all : List Oper} {k : LS → Prop} : ∀ {l : List Oper} {m0 : Nat} {t : List SV} {H : List LObj} {past : Past} {fs : List (Nat × (List LObj → Prop))}, (∀ (j : Nat) o, l[j]? = some o → all[m0 + j]? = some o) → PastOk all past → drawK3 P Γ G qs all k m0 l t H past fs →
    ∃ (xs : List SV) (hs : Nat → List LObj), xs.length = l.length ∧ hs 0 = H ∧ k ⟨curF t (dstsI m0 l) xs (List.replicate l.length true), hs l.length⟩ ∧ (∀ f ∈ fs, ∀ j, 0 < j → j ≤ l.length → FreeTo qs l m0 f.1 j → f.2 H → f.2 (hs j)) ∧
      ∀ (m : Nat) o x, l[m]? = some o → xs[m]? = some x → Step3 P Γ G qs all (m0 + m) o (curF t (dstsI m0 (l.take m)) (xs.take m) (List.replicate m true)) (hs m) x (hs (m + 1)) (fun f => (∀ p ∈ past, ¬ Reach all (m0 + m) p.1 → f p.2.2) ∧ ∀ j, j ≤ l.length → FreeTo qs l m0 (m0 + m) j → AheadTo qs all l m0 (m0 + m) j → f (hs j)) := by
  intro l
  induction l with
  | nil => intro m0 t H past fs _ _ h; exact ⟨[], fun _ => H, rfl, rfl, h, fun f _ j h1 h2 _ => by simp at h2; omega, fun m o x hm => by simp at hm⟩
  | cons o r ih =>
    intro m0 t H past fs hall hpo h
    rw [drawK3] at h
    have ho0 : all[m0]? = some o := hall 0 o rfl
    have hall1 : ∀ (j : Nat) o', r[j]? = some o' → all[m0 + 1 + j]? = some o' := fun j o' hj => by
      rw [show m0 + 1 + j = m0 + (j + 1) by omega]
      exact hall (j + 1) o' (by simpa using hj)
    -- what comes of one step
    have go : ∀ {x : SV} {H' : List LObj} {past' : Past} {fs' : List (Nat × (List LObj → Prop))}, PastOk all past' → drawK3 P Γ G qs all k (m0 + 1) r (t.set (dI m0 o) x) H' past' fs' → (∀ f ∈ fs, (f ∈ fs' ∧ (f.2 H → f.2 H')) ∨ (isWq qs m0 o = true ∧ behind o f.1 = true)) →
        (∀ p ∈ past, ∃ v, (p.1, v, p.2.2) ∈ past') → ((isWq qs m0 o = true ∧ ∃ v, (m0, v, H) ∈ past') ∨ H = H') →
        (∀ (hs : Nat → List LObj), hs 0 = H' → (∀ f ∈ fs', ∀ j, 0 < j → j ≤ r.length → FreeTo qs r (m0 + 1) f.1 j → f.2 H' → f.2 (hs j)) → Step3 P Γ G qs all m0 o t H x H' (fun f => (∀ p ∈ past, ¬ Reach all m0 p.1 → f p.2.2) ∧ f H ∧ ∀ j, j ≤ r.length → FreeTo qs r (m0 + 1) m0 j → f (hs j))) →
        ∃ (xs : List SV) (hs : Nat → List LObj), xs.length = (o :: r).length ∧ hs 0 = H ∧ k ⟨curF t (dstsI m0 (o :: r)) xs (List.replicate (o :: r).length true), hs (o :: r).length⟩ ∧ (∀ f ∈ fs, ∀ j, 0 < j → j ≤ (o :: r).length → FreeTo qs (o :: r) m0 f.1 j → f.2 H → f.2 (hs j)) ∧
          ∀ (m : Nat) o' x, (o :: r)[m]? = some o' → xs[m]? = some x → Step3 P Γ G qs all (m0 + m) o' (curF t (dstsI m0 ((o :: r).take m)) (xs.take m) (List.replicate m true)) (hs m) x (hs (m + 1)) (fun f => (∀ p ∈ past, ¬ Reach all (m0 + m) p.1 → f p.2.2) ∧ ∀ j, j ≤ (o :: r).length → FreeTo qs (o :: r) m0 (m0 + m) j → AheadTo qs all (o :: r) m0 (m0 + m) j → f (hs j)) := by
      intro x H' past' fs' hpo' hk hf1 hp1 hp2 hs3
      obtain ⟨xs, f, h1, h0, h2, h5, h3⟩ := ih hall1 hpo' hk
      refine ⟨x :: xs, fun n => match n with | 0 => H | n + 1 => f n, by rw [List.length_cons, List.length_cons, h1], rfl, ?_, ?_, fun m o' y hm hy => ?_⟩
      · rw [List.length_cons, List.replicate_succ, dstsI, curF, if_pos rfl]
        exact h2
      · intro g hg j hj hjl hfr hgH
        cases j with
        | zero => omega
        | succ j =>
          show g.2 (f j)
          rcases hf1 g hg with ⟨hf1, hf2⟩ | ⟨hw, hbh⟩
          · rcases Nat.eq_zero_or_pos j with h6 | h6
            · subst h6; rw [h0]; exact hf2 hgH
            · exact h5 g hf1 j h6 (by simpa using hjl) hfr.tail (hf2 hgH)
          · rw [hfr.head hw] at hbh
            cases hbh
      · cases m with
        | zero =>
          cases hm; cases hy
          show Step3 P Γ G qs all m0 o t H x (f 0) _
          rw [h0]
          have := hs3 f h0 h5
          rcases this with h | ⟨h6, h | ⟨h7, h8, h9⟩⟩
          · exact .inl h
          · exact .inr ⟨h6, .inl h⟩
          · obtain ⟨d, h9, h10⟩ := h9
            refine .inr ⟨h6, .inr ⟨h7, h8, d, h9, ?_⟩⟩
            rcases h10 with h10 | h10
            · refine .inl ⟨h10.1, fun j hj hfr _ => ?_⟩
              cases j with
              | zero => exact h10.2.1
              | succ j => exact h10.2.2 j (by simpa using hj) hfr.tail
            · refine .inr ⟨h10.1, fun j hj hfr _ => ?_⟩
              cases j with
              | zero => exact h10.2.1
              | succ j => exact h10.2.2 j (by simpa using hj) hfr.tail
        | succ m =>
          rw [List.getElem?_cons_succ] at hm hy
          have := h3 m o' y hm hy
          rw [List.take_succ_cons, List.take_succ_cons, List.replicate_succ, dstsI, curF, if_pos rfl]
          rw [show m0 + 1 + m = m0 + (m + 1) by omega] at this
          have lift : ∀ g : List LObj → Prop, ((∀ p ∈ past', ¬ Reach all (m0 + (m + 1)) p.1 → g p.2.2) ∧ ∀ j, j ≤ r.length → FreeTo qs r (m0 + 1) (m0 + (m + 1)) j → AheadTo qs all r (m0 + 1) (m0 + (m + 1)) j → g (f j)) →
              (∀ p ∈ past, ¬ Reach all (m0 + (m + 1)) p.1 → g p.2.2) ∧ ∀ j, j ≤ (o :: r).length → FreeTo qs (o :: r) m0 (m0 + (m + 1)) j → AheadTo qs all (o :: r) m0 (m0 + (m + 1)) j → g ((fun n => match n with | 0 => H | n + 1 => f n) j) := by
            intro g h10
            refine ⟨fun p hp hnr => ?_, fun j hj hfr hah => ?_⟩
            · obtain ⟨v, hv⟩ := hp1 p hp
              exact h10.1 (p.1, v, p.2.2) hv hnr
            cases j with
            | zero =>
              show g H
              rcases hp2 with ⟨hw, v, h11⟩ | h11
              · exact h10.1 _ h11 (hah 0 o (Nat.le_refl _) rfl hw)
              · rw [h11, ← h0]; exact h10.2 0 (Nat.zero_le _) (.zero _ _ _ _) (hah.tail (by omega))
            | succ j => exact h10.2 j (by simpa using hj) hfr.tail (hah.tail (by omega))
          rcases this with h | ⟨h6, h | ⟨h7, h8, d, h9, h10⟩⟩
          · exact .inl h
          · exact .inr ⟨h6, .inl h⟩
          · refine .inr ⟨h6, .inr ⟨h7, h8, d, h9, ?_⟩⟩
            rcases h10 with h10 | h10
            · exact .inl (lift _ h10)
            · exact .inr (lift _ h10)
    rcases guardK_out h with ⟨hg, h⟩ | ⟨hg, h⟩
    · split at h
      · rename_i hw
        obtain ⟨x, H', h1, h2⟩ := h.out
        rw [setK_eq, leftK_eq, past1K_eq] at h2
        obtain ⟨h2, h3⟩ := allAt_out h2
        exact go (hpo.one ho0).cons h2 (fun f hf => (leftOf_mem (o := o) hf).elim (fun h => .inl ⟨h, fun _ => h3 f h⟩) (fun h => .inr ⟨hw, h⟩)) (fun p hp => by obtain ⟨v, hv⟩ := past1_mem (m := m0) (o := o) hp; exact ⟨v, List.mem_cons_of_mem _ hv⟩) (.inl ⟨hw, _, List.mem_cons_self⟩) (fun hs h0 h5 => .inr ⟨hg, .inl ⟨hw, h1⟩⟩)
      · rename_i hw
        split at h
        · exact h.elim
        · rename_i d hd
          split at h
          · rename_i hq
            obtain ⟨x, h1, h2⟩ := h.out
            obtain ⟨h2, h3⟩ := atAll_out h2
            have h3 : ∀ p ∈ past, ¬ Reach all m0 p.1 → _ := fun p hp hn => (h3 p hp).resolve_left fun hk => hn (via_reach ho0 (hpo p hp) hk)
            rw [setK_eq, past1K_eq] at h2
            refine go (x := x) (H' := H) (hpo.one ho0) (by rw [dI_some hd]; exact h2) (fun f hf => .inl ⟨List.mem_cons_of_mem _ hf, fun h => h⟩) (fun p hp => past1_mem hp) (.inr rfl) (fun hs h0 h5 => .inr ⟨hg, .inr ⟨hw, rfl, d, hd, .inr ⟨h3, h1, fun j hj hfr => ?_⟩⟩⟩)
            rcases Nat.eq_zero_or_pos j with h6 | h6
            · subst h6; rw [h0]; exact h1
            · exact h5 _ List.mem_cons_self j h6 hj hfr h1
          split at h
          · rename_i hr
            obtain ⟨x, h1, h2⟩ := h.out
            obtain ⟨h2, h3⟩ := atAll_out h2
            have h3 : ∀ p ∈ past, ¬ Reach all m0 p.1 → _ := fun p hp hn => (h3 p hp).resolve_left fun hk => hn (via_reach ho0 (hpo p hp) hk)
            rw [setK_eq, past1K_eq] at h2
            refine go (x := x) (H' := H) (hpo.one ho0) (by rw [dI_some hd]; exact h2) (fun f hf => .inl ⟨List.mem_cons_of_mem _ hf, fun h => h⟩) (fun p hp => past1_mem hp) (.inr rfl) (fun hs h0 h5 => .inr ⟨hg, .inr ⟨hw, rfl, d, hd, .inl ⟨h3, h1, fun j hj hfr => ?_⟩⟩⟩)
            rcases Nat.eq_zero_or_pos j with h6 | h6
            · subst h6; rw [h0]; exact h1
            · exact h5 _ List.mem_cons_self j h6 hj hfr h1
          · rename_i hr
            obtain ⟨x, h1, h2⟩ := h.out
            rw [setK_eq, past1K_eq] at h2
            have hany : ∀ X, stillAt Γ G all o t x X := fun X => pureK_any h1
            exact go (x := x) (H' := H) (hpo.one ho0) (by rw [dI_some hd]; exact h2) (fun f hf => .inl ⟨hf, fun h => h⟩) (fun p hp => past1_mem hp) (.inr rfl) (fun hs h0 h5 => .inr ⟨hg, .inr ⟨hw, rfl, d, hd, .inl ⟨fun X _ _ => hany _, hany H, fun j _ _ => hany _⟩⟩⟩)
    · rw [setK_eq, past1K_eq] at h
      exact go (hpo.one ho0) h (fun f hf => .inl ⟨hf, fun h => h⟩) (fun p hp => past1_mem hp) (.inr rfl) (fun hs h0 h5 => .inl ⟨hg, rfl, rfl⟩)
theorem any_order2 {P : Program} {Γ : Ty} (hΓ : TyOk P Γ) {G : Gl} {qs : List Nat} {ops : Array Oper} {t0 : List SV} {hs : Nat → List LObj} {xs : List SV} {Q : Exit → Act → World → Prop} {E0 : Env} {w0 : World}
    (hlen0 : t0.length ≤ 10000) (hok : okI ops = true) (hwc : wChain qs ops.toList 0 none = true) (hl : xs.length = ops.toList.length) (hst : ∀ (m : Nat) o x, ops.toList[m]? = some o → xs[m]? = some x → Step3 P Γ G qs ops.toList m o (curF t0 (dstsI 0 (ops.toList.take m)) (xs.take m) (List.replicate m true)) (hs m) x (hs (m + 1)) (fun f => ∀ j, j ≤ ops.size → FreeTo qs ops.toList 0 m j → AheadTo qs ops.toList ops.toList 0 m j → f (hs j)))
    (hQ : ∀ E a w, SR G A E ⟨curF t0 (dstsI 0 ops.toList) xs (List.replicate ops.toList.length true), hs ops.size⟩ a w → Step E0 (hs 0) w0 E (hs ops.size) w → Q .normal a w) :
    ∀ (fuel : Nat) (listed : Array Bool) (E : Env) (a : Act) (w : World) (c : Nat), c ≤ ops.size → (∀ (i : Nat) o, ops[i]? = some o → isWq qs i o = true → (listed.getD i false = true ↔ i < c)) → listed.size = ops.size → listed.toList.count false = fuel → (∀ (j : Nat) oj, ops[j]? = some oj → listed.getD j false = true → ∀ e ∈ oj.after, Region.binds .any e = true → listed.getD e.on false = true) → SR G A E ⟨curF t0 (dstsI 0 ops.toList) xs listed.toList, hs c⟩ a w → Step E0 (hs 0) w0 E (hs c) w →
      wpAny P .any ops Q fuel listed a w := by
  obtain ⟨hdist, hfrom⟩ := (Bool.and_eq_true _ _).mp hok
  have hn := distB_out hdist
  have hfr := okFromI_out hfrom
  have hall : ∀ (listed : Array Bool), listed.size = ops.size → listed.toList.count false = 0 → listed.toList = List.replicate ops.toList.length true := by
    intro listed h1 h2
    rw [List.count_eq_zero] at h2
    rw [List.eq_replicate_iff]
    refine ⟨by simpa using h1, fun b hb => ?_⟩
    cases b with
    | true => rfl
    | false => exact absurd hb h2
  have hnone : ∀ (listed : Array Bool), listed.size = ops.size → Region.ready .any ops listed = [] → ∀ (m i : Nat), i < m → i < ops.size → listed.getD i false = true := by
    intro listed h1 h2 m
    induction m with
    | zero => intro i hi; omega
    | succ m ih =>
      intro i hi hio
      cases hb : listed.getD i false with
      | true => rfl
      | false =>
        exfalso
        have hr : i ∈ Region.ready .any ops listed := by
          refine mem_ready.2 ⟨?_, ops[i], Array.getElem?_eq_getElem hio, fun e he hbd => ?_⟩
          · have hlt : i < listed.size := by omega
            simp [hlt] at hb ⊢
            exact hb
          · have h3 := (hfr i ops[i] (by simp [hio])).1 e he hbd
            exact ih e.on (by omega) (by omega)
        rw [h2] at hr
        cases hr
  have hready : ∀ (listed : Array Bool), listed.size = ops.size → Region.ready .any ops listed = [] → listed.toList.count false = 0 := by
    intro listed h1 h2
    rw [List.count_eq_zero]
    intro hm
    obtain ⟨i, hi⟩ := List.getElem?_of_mem hm
    have hlt : i < listed.size := by simpa using lt_of_get hi
    have := hnone listed h1 h2 (i + 1) i (by omega) (by omega)
    simp [hlt] at this hi
    rw [hi] at this
    cases this
  have hconst : ∀ (n c : Nat), c + n ≤ ops.size → (∀ (i : Nat) o, c ≤ i → i < c + n → ops[i]? = some o → isWq qs i o = false) → hs (c + n) = hs c := by
    intro n
    induction n with
    | zero => intro c _ _; rfl
    | succ n ih =>
      intro c hc hno
      rw [← ih c (by omega) fun i o h1 h2 => hno i o h1 (by omega)]
      have hlt : c + n < ops.size := by omega
      have ho : ops.toList[c + n]? = some ops[c + n] := by simp [hlt]
      have hlx : c + n < xs.length := by rw [hl]; simpa using hlt
      have hx : xs[c + n]? = some xs[c + n] := List.getElem?_eq_getElem hlx
      rcases hst (c + n) _ _ ho hx with ⟨_, _, h⟩ | ⟨_, ⟨hw, _⟩ | ⟨_, h, _⟩⟩
      · exact h
      · rw [hno (c + n) ops[c + n] (by omega) (by omega) (Array.getElem?_eq_getElem hlt)] at hw
        cases hw
      · exact h
  intro fuel
  induction fuel with
  | zero =>
    intro listed E a w c hcs hcut h1 h2 hcl hs1 hstep
    refine ⟨?_, ?_⟩
    · cases hr : Region.ready .any ops listed with
      | nil => rfl
      | cons i r =>
        exfalso
        have hm : i ∈ Region.ready .any ops listed := by rw [hr]; exact List.mem_cons_self ..
        obtain ⟨h3, o, ho, _⟩ := mem_ready.1 hm
        have hlt : i < ops.size := (Array.getElem?_eq_some_iff.1 ho).1
        have hlt' : i < listed.size := by omega
        have h4 := hall listed h1 h2
        have h5 : listed.toList[i]? = some true := by rw [h4, List.getElem?_replicate, if_pos (by simpa using hlt)]
        simp [hlt'] at h3 h5
        rw [h5] at h3
        cases h3
    · have hend : hs ops.size = hs c := by
        have := hconst (ops.size - c) c (by omega) fun i o h3 h4 ho => by
          cases hw : isWq qs i o with
          | false => rfl
          | true =>
            have hi : i < listed.size := by omega
            have h5 : listed.toList[i]? = some true := by rw [hall listed h1 h2, List.getElem?_replicate, if_pos (by simp; omega)]
            have h6 : listed.getD i false = true := by
              simp [hi] at h5
              simp [hi, h5]
            have := (hcut i o ho hw).1 h6
            omega
        rwa [show c + (ops.size - c) = ops.size by omega] at this
      rw [hall listed h1 h2, ← hend] at hs1
      rw [← hend] at hstep
      exact hQ E a w hs1 hstep
  | succ fuel ih =>
    intro listed E a w c hcs hcut h1 h2 hcl hs1 hstep
    refine ⟨fun hr => absurd (hready listed h1 hr) (by omega), fun i hi => ?_⟩
    obtain ⟨h3, o, ho, hafter⟩ := mem_ready.1 hi
    have hlt : i < ops.size := (Array.getElem?_eq_some_iff.1 ho).1
    have hltl : i < listed.size := by omega
    have hol : ops.toList[i]? = some o := by rw [← ho]; simp
    obtain ⟨x, hxi⟩ : ∃ x, xs[i]? = some x := ⟨_, List.getElem?_eq_getElem (by rw [hl]; simpa using hlt)⟩
    have hbi : listed.toList[i]? = some false := by
      simp [hltl] at h3
      simp [hltl, h3]
    have hstepok := hst i o x hol hxi
    have hdi : (dstsI 0 ops.toList)[i]? = some (dI i o) := by rw [dstsI_get hol, Nat.zero_add]
    have hcount : (listed.setIfInBounds i true).toList.count false = fuel := by
      rw [Array.toList_setIfInBounds, List.count_set (by simpa using hltl)]
      have : listed.toList[i] = false := by
        have := List.getElem?_eq_getElem (l := listed.toList) (i := i) (by simpa using hltl)
        rw [this] at hbi
        simpa using hbi
      rw [this, h2]
      simp
    have hsize : (listed.setIfInBounds i true).size = ops.size := by simpa using h1
    have hcl2 : ∀ (j : Nat) oj, ops[j]? = some oj → (listed.setIfInBounds i true).getD j false = true → ∀ e ∈ oj.after, Region.binds .any e = true → (listed.setIfInBounds i true).getD e.on false = true := by
      intro j oj hoj hlj e he hb
      by_cases hij : i = j
      · subst hij
        rw [ho] at hoj
        cases hoj
        exact getD_set_true (hafter e he hb)
      · rw [getD_set_ne false hij] at hlj
        exact getD_set_true (hcl j oj hoj hlj e he hb)
    have hread : ∀ r ∈ reads ops.toList o, (curF t0 (dstsI 0 ops.toList) xs listed.toList)[r]? = (curF t0 (dstsI 0 (ops.toList.take i)) (xs.take i) (List.replicate i true))[r]? := by
      intro r hr
      rw [dstsI_take]
      refine firstI (by rw [dstsI_length]; exact hl) hn (by rw [dstsI_length]; simpa using Nat.le_of_lt hlt) (by rw [dstsI_length]; simpa using h1) fun j hj => ?_
      have hjl0 : j < ops.toList.length := by have := lt_of_get hj; rwa [dstsI_length] at this
      obtain ⟨oj, hoj⟩ : ∃ oj, ops.toList[j]? = some oj := ⟨_, List.getElem?_eq_getElem hjl0⟩
      have hdj : dI j oj = r := by
        rw [dstsI_get hoj, Nat.zero_add] at hj
        exact Option.some.inj hj
      rcases (hfr i o hol).2 j oj hoj (by rw [hdj]; exact hr) with ⟨h4, e, h5, h6, h7⟩ | ⟨h4, e, h5, h6, h7⟩
      case inr =>
        refine .inr ⟨by omega, ?_⟩
        have hjl : j < listed.size := by rw [h1]; simpa using hjl0
        cases hb : listed.getD j false with
        | false =>
          simp [hjl] at hb
          simp [hjl, hb]
        | true =>
          exfalso
          have h9 := hcl j oj (by rw [← hoj]; simp) hb e h5 h7
          rw [h6, Nat.zero_add] at h9
          simp [hltl] at h3 h9
          rw [h3] at h9
          cases h9
      have h8 := hafter e h5 h7
      rw [h6] at h8
      have hjl : j < listed.size := by omega
      simp [hjl] at h8
      exact .inl ⟨by omega, by simp [hjl, h8]⟩
    have hprev : isWq qs i o = true → ∀ (j : Nat) o', j < i → ops[j]? = some o' → isWq qs j o' = true → listed.getD j false = true := by
      intro hw j o' hj hoj hwj
      have := (wChain_out (L := True) (listed := fun n => (listed.setIfInBounds i true).getD n false) hwc (fun j o hj hlj => by
        have := hcl2 j o (by rw [← hj]; simp)
        rw [Nat.zero_add] at hlj
        exact this hlj) (fun _ h => by cases h) i o hol (by rw [Nat.zero_add]; exact hw) (by
          rw [Nat.zero_add]
          simp [hltl])).2 j o' hj (by rw [← hoj]; simp) (by rw [Nat.zero_add]; exact hwj)
      rw [Nat.zero_add, getD_set_ne false (by omega)] at this
      exact this
    have hnotl : listed.getD i false = false := by
      simp [hltl] at h3
      simp [hltl, h3]
    have hic : isWq qs i o = true → c ≤ i := by
      intro hw
      rcases Nat.lt_or_ge i c with h4 | h4
      · have := (hcut i o ho hw).2 h4
        rw [hnotl] at this
        cases this
      · exact h4
    have hsi : isWq qs i o = true → hs i = hs c := by
      intro hw
      have := hconst (i - c) c (by have := hic hw; omega) fun j oj h4 h5 hoj => by
        cases hwj : isWq qs j oj with
        | false => rfl
        | true =>
          have h6 := hprev hw j oj (by have := hic hw; omega) hoj hwj
          have := (hcut j oj hoj hwj).1 h6
          omega
      rwa [show c + (i - c) = i by have := hic hw; omega] at this
    have hahead : AheadTo qs ops.toList ops.toList 0 i c := fun n o' hn ho' hw hre => by
      rw [Nat.zero_add] at hw hre
      have hn' : ops[n]? = some o' := by rw [← ho']; simp
      have := hre.listed (listed := fun j => listed.getD j false) (fun j oj hj => hcl j oj (by rw [← hj]; simp)) (fun o9 ho9 e he hb => by
        rw [hol] at ho9
        cases ho9
        exact hafter e he hb)
      have := (hcut n o' hn' hw).1 this
      omega
    have hfree : FreeTo qs ops.toList 0 i c := fun n o' hn ho' hw => by
      rw [Nat.zero_add] at hw
      have hn' : ops[n]? = some o' := by rw [← ho']; simp
      have hl9 := (hcut n o' hn' hw).2 hn
      cases hb : behind o' i with
      | false => rfl
      | true =>
        exfalso
        rw [behind, List.any_eq_true] at hb
        obtain ⟨e, he, hb⟩ := hb
        rw [Bool.and_eq_true] at hb
        have h9 := hcl n o' hn' hl9 e (by simpa using he) hb.2
        rw [Nat.eq_of_beq_eq_true hb.1, hnotl] at h9
        cases h9
    have hcutW : isWq qs i o = true → ∀ (j : Nat) oj, ops[j]? = some oj → isWq qs j oj = true → ((listed.setIfInBounds i true).getD j false = true ↔ j < i + 1) := by
      intro hw j oj hoj hwj
      by_cases hij : i = j
      · subst hij
        simp [hltl]
      · rw [getD_set_ne false hij]
        constructor
        · intro h4
          have h5 := (hcut j oj hoj hwj).1 h4
          have := hic hw
          omega
        · intro h4
          exact hprev hw j oj (by omega) hoj hwj
    have hcutN : isWq qs i o = false → ∀ (j : Nat) oj, ops[j]? = some oj → isWq qs j oj = true → ((listed.setIfInBounds i true).getD j false = true ↔ j < c) := by
      intro hw j oj hoj hwj
      have hij : i ≠ j := by
        rintro rfl
        rw [ho] at hoj
        cases hoj
        rw [hw] at hwj
        cases hwj
      rw [getD_set_ne false hij]
      exact hcut j oj hoj hwj
    have hnext : ∀ E' w' v a' c', c' ≤ ops.size → (∀ (j : Nat) oj, ops[j]? = some oj → isWq qs j oj = true → ((listed.setIfInBounds i true).getD j false = true ↔ j < c')) →
        a'.tmps = (a.put o.dst v).tmps → a'.defers = [] → VR E' w' x v → E.Le E' → (∀ b, E.I b → E'.I b) → (∀ b, E.I b → w'.heap[b]? = w.heap[b]?) → Rel E' (hs c') w' → GlOk E' w' G → Step E (hs c) w E' (hs c') w' →
        wpAny P .any ops Q fuel (listed.setIfInBounds i true) a' w' := by
      intro E' w' v a' c' hc' hcut' hat had hv hle hI hk hrel hgl hst'
      refine ih _ E' _ w' c' hc' hcut' hsize hcount hcl2 ⟨hs1.anc.trans hle, ?_, hrel, hgl, ?_⟩ (hstep.trans hst')
      · rw [Array.toList_setIfInBounds, curF_set hn hdi hxi hbi, hat]
        cases hd : o.dst with
        | some d =>
          rw [dI_some hd]
          show VRs E' w' _ (a.tmps.setIfInBounds d v).toList
          rw [Array.toList_setIfInBounds]
          exact (hs1.vals.kept hle hI hk).set_ d hv
        | none =>
          rw [List.set_eq_of_length_le (by rw [curF_length]; simp [dI, hd]; omega)]
          exact hs1.vals.kept hle hI hk
      · exact had
    have hsees : VRs E w (seeT (reads ops.toList o) 0 (curF t0 (dstsI 0 (ops.toList.take i)) (xs.take i) (List.replicate i true))) a.tmps.toList := by
      refine ⟨?_, fun j x v hx hv => ?_⟩
      · rw [seeT_length, curF_length, hs1.vals.1, curF_length]
      · rw [seeT_get, Nat.zero_add] at hx
        cases hh : hasN (reads ops.toList o) j with
        | true =>
          rw [hh, ← hread j (hasN_not hh)] at hx
          simp only [Option.map_id'] at hx
          exact hs1.vals.2 j x v hx hv
        | false =>
          rw [hh] at hx
          cases hc : (curF t0 (dstsI 0 (ops.toList.take i)) (xs.take i) (List.replicate i true))[j]? with
          | none => rw [hc] at hx; cases hx
          | some y => rw [hc] at hx; cases hx; exact .any v
    unfold wpOp
    simp only [ho]
    rcases hstepok with ⟨hg, hx, hH⟩ | ⟨hg, ⟨hw, hop⟩ | ⟨hw, hH, d, hd, hop⟩⟩
    · rw [hg.wanted hs1.vals fun r hr => hread r (List.mem_append_left _ hr)]
      simp only [Bool.false_eq_true, if_false]
      cases hw : isWq qs i o with
      | true =>
        refine hnext E w undef _ (i + 1) (by omega) (hcutW hw) rfl (by cases o.dst <;> exact hs1.nod) (by rw [hx]; exact undef_ok E w) (Env.Le.refl E) (fun _ h => h) (fun _ _ => rfl) ?_ hs1.gl ?_
        · rw [hH, hsi hw]; exact hs1.rel
        · rw [hH, hsi hw]; exact Step.refl E _ w
      | false => exact hnext E w undef _ c hcs (hcutN hw) rfl (by cases o.dst <;> exact hs1.nod) (by rw [hx]; exact undef_ok E w) (Env.Le.refl E) (fun _ h => h) (fun _ _ => rfl) hs1.rel hs1.gl (Step.refl E _ w)
    · rw [if_pos (hg.wanted hs1.vals fun r hr => hread r (List.mem_append_left _ hr))]
      rw [hsi hw] at hop
      have hsm : SR G E E ⟨seeT (reads ops.toList o) 0 (curF t0 (dstsI 0 (ops.toList.take i)) (xs.take i) (List.replicate i true)), hs c⟩ a w := ⟨Env.Le.refl E, hsees, hs1.rel, hs1.gl, hs1.nod⟩
      refine .inl (Oper.wp_mono ?_ (wp_put (opK_sound (N := fun a' w' => Then G E E ⟨seeT (reads ops.toList o) 0 (curF t0 (dstsI 0 (ops.toList.take i)) (xs.take i) (List.replicate i true)), hs c⟩ w (isPutM o.dst x (hs (i + 1))) a' w') hΓ hs1.rel.len.symm hsm hop fun a' w' h => h)))
      rintro a' w' ⟨⟨s', E', h4, h5, h6⟩, v, hat⟩
      obtain ⟨hrel, hv, h6⟩ : Rel E' (hs (i + 1)) w' ∧ VR E' w' x v ∧ Step E (hs c) w E' (hs (i + 1)) w' := by
        cases hd : o.dst with
        | none =>
          rw [hd] at h4
          have h8 := h4.v
          have h9 := h4.h
          have hrel := h5.rel
          rw [h9] at hrel h6
          exact ⟨hrel, by rw [← h8]; exact .any v, h6⟩
        | some d =>
          rw [hd] at h4 hat
          obtain ⟨y, h7, h8, h9⟩ := pickK_out h4
          rw [h8] at h7
          rw [h9] at h6
          have hrel := h5.rel
          rw [h9] at hrel
          refine ⟨hrel, ?_, h6⟩
          obtain ⟨u, h10, h11⟩ := h5.vals.get h7
          rw [hat] at h10
          have hdl : d < a.tmps.size := by
            have := lt_of_get h10
            simpa [Act.put] using this
          have : u = v := by
            have h12 : (a.put (some d) v).tmps.toList[d]? = some v := by
              show (a.tmps.setIfInBounds d v).toList[d]? = some v
              rw [Array.toList_setIfInBounds, List.getElem?_set_self (by simpa using hdl)]
            rw [h12] at h10
            exact (Option.some.inj h10).symm
          exact this ▸ h11
      exact hnext E' w' v a' (i + 1) (by omega) (hcutW hw) hat h5.nod hv h5.anc h6.Imono (hs1.rel.keepI (p := InFoot E (hs c)) (fun _ h => h) h6.keep) hrel h5.gl h6
    · rw [if_pos (hg.wanted hs1.vals fun r hr => hread r (List.mem_append_left _ hr))]
      rcases hop with hop | hop
      · have hsm : SR G E E ⟨seeT (reads ops.toList o) 0 (curF t0 (dstsI 0 (ops.toList.take i)) (xs.take i) (List.replicate i true)), hs c⟩ a w := ⟨Env.Le.refl E, hsees, hs1.rel, hs1.gl, hs1.nod⟩
        obtain ⟨e, he, hp⟩ := pureK_sound (P := P) hΓ hsm (hop c hcs hfree hahead)
        obtain ⟨y, v, h4, h5, h6⟩ := hp.out
        rw [forceK_eq] at h5
        have h5 := h5.v
        subst h5
        refine .inl ?_
        unfold Oper.wp
        rw [he]
        simp only [Sem.run_bind, h4, Result.andThen_ok, Sem.run_pure]
        exact hnext E w v _ c hcs (hcutN hw) rfl (by cases o.dst <;> exact hs1.nod) h6 (Env.Le.refl E) (fun _ h => h) (fun _ _ => rfl) hs1.rel hs1.gl (Step.refl E _ w)
      · have hsm : SR G E E ⟨seeT (reads ops.toList o) 0 (curF t0 (dstsI 0 (ops.toList.take i)) (xs.take i) (List.replicate i true)), hs c⟩ a w := ⟨Env.Le.refl E, hsees, hs1.rel, hs1.gl, hs1.nod⟩
        have hopc := hop c hcs hfree hahead
        refine .inl (Oper.wp_mono ?_ (wp_put (opK_sound (N := fun a' w' => Then G E E ⟨seeT (reads ops.toList o) 0 (curF t0 (dstsI 0 (ops.toList.take i)) (xs.take i) (List.replicate i true)), hs c⟩ w (isPut d x (hs c)) a' w') hΓ hs1.rel.len.symm hsm hopc fun a' w' h => h)))
        rintro a' w' ⟨⟨s', E', h4, h5, h6⟩, v, hat⟩
        obtain ⟨hrel, hv, h6⟩ : Rel E' (hs c) w' ∧ VR E' w' x v ∧ Step E (hs c) w E' (hs c) w' := by
          have hat2 := hat
          rw [hd] at hat2
          obtain ⟨y, h7, h8, h9⟩ := pickK_out h4
          rw [h8] at h7
          rw [h9] at h6
          have hrel := h5.rel
          rw [h9] at hrel
          refine ⟨hrel, ?_, h6⟩
          obtain ⟨u, h10, h11⟩ := h5.vals.get h7
          rw [hat2] at h10
          have hdl : d < a.tmps.size := by
            have := lt_of_get h10
            simpa [Act.put] using this
          have : u = v := by
            have h12 : (a.put (some d) v).tmps.toList[d]? = some v := by
              show (a.tmps.setIfInBounds d v).toList[d]? = some v
              rw [Array.toList_setIfInBounds, List.getElem?_set_self (by simpa using hdl)]
            rw [h12] at h10
            exact (Option.some.inj h10).symm
          exact this ▸ h11
        exact hnext E' w' v a' c hcs (hcutN hw) hat h5.nod hv h5.anc h6.Imono (hs1.rel.keepI (p := InFoot E (hs c)) (fun _ h => h) h6.keep) hrel h5.gl h6
theorem DrawVC.quiet (qs : List Nat) {P : Program} {Γ : Ty} (hΓ : TyOk P Γ) {G : Gl} {N : Nat} {id : Nat} {ops : Array Oper} {s : LS} {K : Exit → LS → Prop} (hm : P.follows .mixedOrders = true)
    (hB : okI ops = true) (hW : wChain qs ops.toList 0 none = true) (hT : Nat.ble s.t.length 10000 = true) (h : drawK3 P Γ G qs ops.toList (K .normal) 0 ops.toList s.t s.h [] []) : DrawVC P Γ G N id ops s K := by
  refine ⟨fun X hX A E w a hA hs hJ => ?_⟩
  obtain ⟨xs, f, h1, h0, h2, _, h3⟩ := drawK3_out (fun j o hj => by rw [Nat.zero_add]; exact hj) (fun p hp => by cases hp) h
  have hst : Step E s.h w E s.h { w with drawn := w.drawn + 1 } := ⟨Nat.le_refl _, fun _ _ _ => rfl, rfl, rfl, rfl, fun b h => .inr h, fun b h => h, fun b h => .inl h⟩
  have hc0 : ∀ (t : List SV) (ds : List Nat) (xs : List SV) (n : Nat), curF t ds xs (List.replicate n false) = t := by
    intro t ds
    induction ds generalizing t with
    | nil => intro xs n; simp [curF]
    | cons d ds ih =>
      intro xs n
      cases xs with
      | nil => simp [curF]
      | cons x xs =>
        cases n with
        | zero => simp [curF]
        | succ n => rw [List.replicate_succ, curF]; exact ih t xs n
  have hno : ∀ i, (Array.replicate ops.size false).getD i false = false := by
    intro i
    simp only [Array.getD_eq_getD_getElem?, Array.getElem?_replicate]
    split <;> rfl
  refine wpIn_mono (wpIn_region_any hm (wpAny_lift (Q := onlyN fun a' w' => Then G A E s w (K .normal) a' w') (onlyN_out _) hX _ (any_order2 (A := A) (E0 := E) (w0 := w) (t0 := s.t) (hs := f) (xs := xs) hΓ (Nat.le_of_ble_eq_true hT) hB hW h1 (fun m o x hm hx => by
      have := h3 m o x hm hx
      simp only [Nat.zero_add] at this
      rcases this with h | ⟨h6, h | ⟨h7, h8, d, h9, h10 | h10⟩⟩
      · exact .inl h
      · exact .inr ⟨h6, .inl h⟩
      · exact .inr ⟨h6, .inr ⟨h7, h8, d, h9, .inl fun j hj hfr hah => h10.2 j (by simpa using hj) hfr hah⟩⟩
      · exact .inr ⟨h6, .inr ⟨h7, h8, d, h9, .inr fun j hj hfr hah => h10.2 j (by simpa using hj) hfr hah⟩⟩) (fun E' a' w' hs' hst' => ⟨rfl, _, E', h2, hs', by rw [h0] at hst'; exact hst'⟩) ops.size _ E a _ 0 (Nat.zero_le _) (fun i o _ _ => by rw [hno]; simp) (by simp) (by simp) (fun j oj hoj hlj => by
    exfalso
    rw [hno] at hlj
    cases hlj) ?_ (by rw [h0]; exact hst)))) (liftQ_only fun a w h => h)
  rw [Array.toList_replicate, hc0, h0]
  exact ⟨hs.anc, VRs.kept (w := w) (w' := { w with drawn := w.drawn + 1 }) (Env.Le.refl E) (fun _ h => h) (fun _ _ => rfl) hs.vals,
    ⟨hs.rel.len, fun i o hi => ObjR.kept (w := w) (w' := { w with drawn := w.drawn + 1 }) (Env.Le.refl E) (fun _ h => h) (fun _ _ => rfl) (hs.rel.lt hi) (fun _ _ => rfl) (hs.rel.obj i o hi), hs.rel.sep, hs.rel.imm, hs.rel.ltI⟩,
    hs.gl.kept (w := w) (w' := { w with drawn := w.drawn + 1 }) (fun _ h => h) (fun _ _ => rfl), hs.nod⟩
theorem DrawVC.any {P : Program} {Γ : Ty} (hΓ : TyOk P Γ) {G : Gl} {N : Nat} {id : Nat} {ops : Array Oper} {s : LS} {K : Exit → LS → Prop} (hm : P.follows .mixedOrders = true)
    (hB : okI ops = true) (hW : wChain [] ops.toList 0 none = true) (hT : Nat.ble s.t.length 10000 = true) (h : drawK3 P Γ G [] ops.toList (K .normal) 0 ops.toList s.t s.h [] []) : DrawVC P Γ G N id ops s K := DrawVC.quiet [] hΓ hm hB hW hT h
end
section
open Go.ChangeShapes Go.WideShapes Go.ChangeAt

def E0 (W : World) : Env := ⟨0, fun _ => 0, fun _ => undef, fun b => b < W.heap.size⟩
theorem rel0 (W : World) : Rel (E0 W) [] W :=
  ⟨rfl, fun i o h => by simp at h, fun i j o o' b _ h => by simp at h, fun b ⟨i, o, h, _⟩ => by simp at h, fun b h => h⟩
theorem vrs_nil {E : Env} {w : World} : VRs E w [] [] := ⟨rfl, fun j x v h => by simp at h⟩
theorem vrs_cons {E : Env} {w : World} {x : SV} {v : Value} {l : List SV} {vs : List Value} (h : VR E w x v) (h' : VRs E w l vs) : VRs E w (x :: l) (v :: vs) := by
  refine ⟨by simp [h'.1], fun j y u hy hu => ?_⟩
  cases j with
  | zero => cases hy; cases hu; exact h
  | succ j => exact h'.2 j y u (by simpa using hy) (by simpa using hu)
theorem vr_string {E : Env} {w : World} (s : ByteArray) : VR E w (.str s.data.toList) (.string s) := by
  have := VR.str (E := E) (w := w) s.data.toList
  simpa using this
section
variable {H : Type} {enc : TypeId × Value → H} {P : Program}
theorem trodAll_stays (hl : laidOutB P = true) {W W' : World} (hb : Below W.heap.size W W') {sp : Nat → Bool} : ∀ {ts : List TypeId} {vs : List Value} {ds : List (DataW H)} {ps : List MemPlace},
    ts.all (fun t => P.readableRec t && decide (t < P.types.size)) = true → DataW.TrodAll enc P W 0 (fun _ => true) true ts vs ds ps → (∀ x ∈ ps, x.block < W.heap.size) → (∀ x ∈ ps, sp x.block = true) → DataW.TrodAll enc P W' 0 sp true ts vs ds ps := by
  intro ts
  induction ts with
  | nil =>
    intro vs ds ps _ h _ _
    obtain ⟨rfl, rfl, rfl⟩ := trodAll_nil h
    exact trodAll_mk0
  | cons t ts ih =>
    intro vs ds ps ht h hlt hsp
    obtain ⟨v, vs', d, ds', p, q, rfl, rfl, rfl, h0, hr⟩ := trodAll_cons h
    rw [List.all_cons, Bool.and_eq_true, Bool.and_eq_true] at ht
    refine trodAll_cons_mk (WideElems.Trod_stays hl ht.1.1 (of_decide_eq_true ht.1.2) h0 (fun x hx => hb.same (hlt x (List.mem_append_left _ hx))) (fun x hx => hsp x (List.mem_append_left _ hx)))
      (ih ht.2 hr (fun x hx => hlt x (List.mem_append_right _ hx)) (fun x hx => hsp x (List.mem_append_right _ hx)))
theorem law_post {f : Func} {s : ChangeSpec} {W W' : World} {args : Array Value} {ds : List (DataW H)} {ps : List MemPlace} {t : TypeId} (hW : DataW.Whole enc P f.params.toList s.vars false W args.toList ds [] ps)
    (hA : DataW.TrodAll enc P W 0 (fun _ => true) true f.params.toList args.toList ds ps) (hs : s.fn H (ds ++ []) = { results := [.lit (.bool true)], args := ds }) (hvars : s.vars = []) (hrt : f.resultTypes = #[t]) (ht : P.underlying t = some .bool)
    (hl : laidOutB P = true) (hts : f.params.toList.all (fun t => P.readableRec t && decide (t < P.types.size)) = true) (hb : Below W.heap.size W W') :
    s.post enc P f false true false false W args (.bool true) W' := by
  refine ⟨ds, [], ps, [], ps, [], hW, ?_, ?_, ?_, ?_, fun h => by cases h⟩
  · rw [hs, hrt]
    exact trodAll_cons_mk (shut_bool ht _) trodAll_mk0
  · rw [hs]
    exact trodAll_stays hl hb hts hA (fun x hx => hW.lt x hx) (fun x hx => by simpa using hW.lt x hx)
  · rw [hs, hvars]
    rfl
  · exact hb.frame _
end

end
section
open Go.ChangeShapes Go.WideShapes Go.ChangeAt

section
variable {H : Type} {enc : TypeId × Value → H} {P : Program}

theorem CRs.append {I : Nat → Prop} {w : World} {l l' : List CV} {vs vs' : List Value} (h : CRs I w l vs) (h' : CRs I w l' vs') : CRs I w (l ++ l') (vs ++ vs') := by
  refine ⟨by simp [h.1, h'.1], fun j x v hx hv => ?_⟩
  rw [List.getElem?_append] at hx hv
  split at hx
  · rename_i hl
    rw [if_pos (by rw [h.1]; exact hl)] at hv
    exact h.2 j x v hx hv
  · rename_i hl
    rw [if_neg (by rw [h.1]; exact hl)] at hv
    rw [h.1] at hv
    exact h'.2 _ x v hx hv
def InReach (P : Program) (t : TypeId) (d : DataW H) : Prop := (d.weights P t).all (fun n => decide (n ≤ reachBytes)) = true
theorem inReach_all {e : TypeId} : ∀ {l : List (DataW H)} {d : DataW H}, (DataW.weightsAll P e l).all (fun n => decide (n ≤ reachBytes)) = true → d ∈ l → InReach P e d
  | d' :: r, d, h, hd => by
    rw [DataW.weightsAll, List.all_append, Bool.and_eq_true] at h
    rcases List.mem_cons.1 hd with rfl | hd
    · exact h.1
    · exact inReach_all h.2 hd
theorem inReach_each : ∀ {ts : List TypeId} {l : List (DataW H)} {j : Nat} {t : TypeId} {d : DataW H}, (DataW.weightsEach P ts l).all (fun n => decide (n ≤ reachBytes)) = true → ts[j]? = some t → l[j]? = some d → InReach P t d
  | t' :: ts, d' :: l, j, t, d, h, ht, hd => by
    rw [DataW.weightsEach, List.all_append, Bool.and_eq_true] at h
    cases j with
    | zero => cases ht; cases hd; exact h.1
    | succ j => exact inReach_each h.2 (by simpa using ht) (by simpa using hd)
  | [], _, j, t, d, h, ht, hd => by simp at ht
  | _ :: _, [], j, t, d, h, ht, hd => by simp at hd
theorem rows_all {ρ : Type} {W : World} {a : Addr} {sz : Nat} (en : ρ → List CV) (ok : ρ → Prop) : ∀ (len : Nat), (∀ i, i < len → ∃ (r : ρ) (cs : List Value), W.cells? 0 (a.add (i * sz)) sz = some cs ∧ CRs (E0 W).I W (en r) cs ∧ ok r) →
    ∃ (rs : List ρ) (vs : List Value), rs.length = len ∧ CRs (E0 W).I W (rs.flatMap en) vs ∧ vs.length = len * sz ∧ (∀ r ∈ rs, ok r) ∧ ∀ (j : Nat) v, vs[j]? = some v → W.cell? (a.add j) = some v
  | 0, _ => ⟨[], [], rfl, ⟨rfl, (fun j x v hx => by simp at hx)⟩, (by simp), (fun r hr => by cases hr), (fun j v hv => by simp at hv)⟩
  | len + 1, h => by
    obtain ⟨rs, vs, h1, h2, h3, h4, h5⟩ := rows_all en ok len fun i hi => h i (by omega)
    obtain ⟨r, cs, g1, g2, g3⟩ := h len (by omega)
    obtain ⟨_, hcl, hcg⟩ := World.cells?_some g1
    refine ⟨rs ++ [r], vs ++ cs, by simp [h1], ?_, by rw [List.length_append, h3, hcl]; rw [Nat.succ_mul], ?_, ?_⟩
    · rw [List.flatMap_append, List.flatMap_cons, List.flatMap_nil, List.append_nil]
      exact h2.append g2
    · intro q hq
      rcases List.mem_append.1 hq with hq | hq
      · exact h4 q hq
      · rw [List.mem_singleton.1 hq]; exact g3
    · intro j v hv
      rw [List.getElem?_append] at hv
      split at hv
      · exact h5 j v hv
      · rename_i hl
        have hj : j - vs.length < sz := by rw [← hcl]; exact lt_of_get hv
        have := hcg (j - vs.length) hj
        rw [add_of_add, hv] at this
        rw [show j = len * sz + (j - vs.length) by omega]
        exact this
theorem leaf_rows {ρ : Type} {W : World} {t e : TypeId} {sz : Nat} (en : ρ → List CV) (ok : ρ → Prop) (ht : P.underlying t = some (.slice e)) (hsz : P.cellsOf e = sz) (hs0 : 0 < sz) (hen : ∀ r, (en r).length = sz)
    (hel : ∀ (n : Nat) (cs : List Value) y, DataW.trod enc P W 0 (fun _ => true) true n e cs = some y → InReach P e y.1 → ∃ r, CRs (E0 W).I W (en r) cs ∧ ok r) {v : Value} {d : DataW H} {ps : List MemPlace} {fuel : Nat}
    (hf : DataW.trod enc P W 0 (fun _ => true) true fuel t [v] = some (d, ps)) (hw : InReach P t d) : ∃ rs : List ρ, CR (E0 W).I W (.sl sz rs.length (rs.flatMap en) false) v ∧ (∀ r ∈ rs, ok r) ∧ rs.length ≤ maxLen := by
  rcases Deep.open_slice ht hf with ⟨h0, _⟩ | ⟨a, len, cap, m, n, D, Pl, h0, _, hle, hmax, hm, hd, hx⟩
  · simp only [List.cons.injEq, and_true] at h0
    rw [h0]
    exact ⟨[], .sl0 sz false, (fun r hr => by cases hr), Nat.zero_le _⟩
  · simp only [List.cons.injEq, and_true] at h0
    subst h0
    have hm : m = cap := hm
    subst hm
    obtain ⟨rs, vs, h1, h2, h3, h4, h5⟩ := rows_all (W := W) (a := a) (sz := sz) en ok len fun i hi => by
      obtain ⟨cs, q1, q2⟩ := hx i (by omega)
      obtain ⟨r, q3, q4⟩ := hel n cs _ q2 (by
        have hd1 := (Prod.mk.inj hd).1
        rw [InReach, hd1, DataW.weights, ht] at hw
        simp only [List.all_cons, List.all_append, Bool.and_eq_true] at hw
        exact inReach_all hw.2.1 (List.mem_map.2 ⟨i, List.mem_range.2 hi, rfl⟩))
      rw [hsz] at q1
      exact ⟨r, cs, q1, q3, q4⟩
    subst h1
    refine ⟨rs, .sl a m vs ?_ ?_ (by omega) (fun h => by cases h) ?_ h5 h2.2, h4, by omega⟩
    · rw [← h2.1, h3]
    · rw [h2.1]
    · intro hp
      have hlen : 0 < rs.length := by
        rcases Nat.eq_zero_or_pos rs.length with h0 | h0
        · rw [h0] at h3
          have := h2.1
          omega
        · exact h0
      obtain ⟨cs, q1, _⟩ := hx 0 (by omega)
      rw [hsz] at q1
      have := World.cells?_block q1 hs0
      rw [block_of_add] at this
      exact this
theorem open_rows {ρ : Type} {W : World} {t e : TypeId} {sz : Nat} (en : ρ → List CV) (ok : ρ → Prop) (ht : P.underlying t = some (.slice e)) (hsz : P.cellsOf e = sz) (hs0 : 0 < sz) (hen : ∀ r, (en r).length = sz)
    (hel : ∀ (n : Nat) (cs : List Value) y, DataW.trod enc P W 0 (fun _ => true) true n e cs = some y → InReach P e y.1 → ∃ r, CRs (E0 W).I W (en r) cs ∧ ok r) {v : Value} {d : DataW H} {ps : List MemPlace}
    (hv1 : v.cells = #[v]) (h : DataW.Trod enc P W 0 (fun _ => true) true t v d ps) (hw : InReach P t d) : ∃ rs : List ρ, VR (E0 W) W (.sl sz rs.length (rs.flatMap en) false) v ∧ (∀ r ∈ rs, ok r) ∧ rs.length ≤ maxLen := by
  obtain ⟨fuel, hf⟩ := h
  rw [hv1] at hf
  obtain ⟨rs, h1, h2, h3⟩ := leaf_rows en ok ht hsz hs0 hen hel hf hw
  exact ⟨rs, .sl h1, h2, h3⟩
theorem open_fields2 {W : World} {t : TypeId} {fs : Array Field} {fuel : Nat} {cs : List Value} {x : DataW H × List MemPlace} (ht : P.underlying t = some (.struct fs))
    (h : DataW.trod enc P W 0 (fun _ => true) true fuel t cs = some x) (hw : InReach P t x.1) :
    cs.length = P.cellsOf t ∧ ∀ (j : Nat) f, fs[j]? = some f → ∃ n y, DataW.trod enc P W 0 (fun _ => true) true n f.type ((cs.drop f.offset).take (P.cellsOf f.type)) = some y ∧ InReach P f.type y.1 := by
  obtain ⟨xs, n, _, hxx, hl, hxl, hx⟩ := DataW.trod_struct ht h
  refine ⟨hl, fun j f hf => ?_⟩
  have hj : j < fs.size := (Array.getElem?_eq_some_iff.1 hf).1
  have h3 := hx j f hf
  exact ⟨n, xs[j]'(by omega), by rw [h3]; exact List.getElem?_eq_getElem (by omega), by
    rw [InReach, hxx, DataW.weights, ht] at hw
    refine inReach_each (j := j) hw ?_ ?_
    · rw [List.getElem?_map, show fs.toList[j]? = some f by rw [← hf]; simp]; rfl
    · rw [List.getElem?_map, List.getElem?_eq_getElem (by omega)]; rfl⟩
theorem leaf_str {W : World} {t : TypeId} {n : Nat} {c : Value} {y : DataW H × List MemPlace} (ht : P.underlying t = some .string) (h : DataW.trod enc P W 0 (fun _ => true) true n t [c] = some y) (hw : InReach P t y.1) :
    ∃ l : List UInt8, c = .string ⟨l.toArray⟩ ∧ l.length ≤ reachBytes := by
  obtain ⟨s, h1, h2, h3⟩ := DataW.trod_string ht h
  refine ⟨s.data.toList, ?_, ?_⟩
  · rw [(List.cons.inj h1).1]
  rw [InReach, h2] at hw
  simpa [DataW.weights] using hw
end
end
section

theorem Rel.moved {E : Env} {H : List LObj} {w w' : World} (hr : Rel E H w) (hz : w.heap.size ≤ w'.heap.size) (h : ∀ b, InFoot E H b ∨ E.I b → w'.heap[b]? = w.heap[b]?) : Rel E H w' :=
  ⟨hr.len, fun i o hi => ObjR.kept (Env.Le.refl E) (fun _ h => h) (fun b hb => h b (.inr hb)) (hr.lt hi) (fun b hb => h b (.inl ⟨i, o, hi, hb⟩)) (hr.obj i o hi), hr.sep, hr.imm, fun b hb => Nat.lt_of_lt_of_le (hr.ltI b hb) hz⟩
theorem SR.moved {G : Gl} {A E : Env} {s : LS} {a : Act} {w w' : World} (hs : SR G A E s a w) (hz : w.heap.size ≤ w'.heap.size) (h : ∀ b, InFoot E s.h b ∨ E.I b → w'.heap[b]? = w.heap[b]?) : SR G A E s a w' :=
  ⟨hs.anc, hs.vals.kept (Env.Le.refl E) (fun _ h => h) (fun b hb => h b (.inr hb)), hs.rel.moved hz h, hs.gl.kept (fun _ h => h) (fun b hb => h b (.inr hb)), hs.nod⟩
structure Aside (B : Nat) (E : Env) (H : List LObj) (w : World) (D : Nat) (o : Obj) : Prop where
  low : B ≤ D
  is : w.heap[D]? = some o
  foot : ¬ InFoot E H D
  imm : ¬ E.I D
theorem Aside.lt {B : Nat} {E : Env} {H : List LObj} {w : World} {D : Nat} {o : Obj} (h : Aside B E H w D o) : D < w.heap.size := (Array.getElem?_eq_some_iff.1 h.is).1
theorem Aside.step {B : Nat} {E E' : Env} {H H' : List LObj} {w w' : World} {D : Nat} {o : Obj} (h : Aside B E H w D o) (st : Step E H w E' H' w') : Aside B E' H' w' D o := by
  have hlt := h.lt
  refine ⟨h.low, (st.keep D hlt h.foot).trans h.is, fun hf => ?_, fun hi => ?_⟩
  · rcases st.foot' D hf with h1 | h1
    · omega
    · exact h.foot h1
  · rcases st.Inew D hi with h1 | h1 | h1
    · exact h.imm h1
    · omega
    · exact h.foot h1
theorem Aside.free {B : Nat} {E : Env} {H : List LObj} {w : World} {D : Nat} {o : Obj} (h : Aside B E H w D o) {b : Nat} (hb : InFoot E H b ∨ E.I b) : b ≠ D := by
  rintro rfl
  rcases hb with hb | hb
  · exact h.foot hb
  · exact h.imm hb
theorem Aside.put {B : Nat} {E : Env} {H : List LObj} {w : World} {D : Nat} {o : Obj} (h : Aside B E H w D o) (o' : Obj) : Aside B E H (w.putObj D o') D o' := ⟨h.low, World.putObj_heap_same h.lt, h.foot, h.imm⟩
theorem Aside.put_other {B : Nat} {E : Env} {H : List LObj} {w : World} {D D' : Nat} {o : Obj} (h : Aside B E H w D o) (hne : D ≠ D') (o' : Obj) : Aside B E H (w.putObj D' o') D o := ⟨h.low, (World.putObj_heap_other hne).trans h.is, h.foot, h.imm⟩
theorem SR.aside {G : Gl} {A E : Env} {s : LS} {a : Act} {w : World} {B D : Nat} {o : Obj} (hs : SR G A E s a w) (h : Aside B E s.h w D o) (o' : Obj) : SR G A E s a (w.putObj D o') :=
  hs.moved (by simp) fun b hb => World.putObj_heap_other (h.free hb)
theorem Step.aside {E0 E : Env} {H0 H : List LObj} {w0 w : World} {D : Nat} (st : Step E0 H0 w0 E H w) (h : w0.heap.size ≤ D) (o' : Obj) : Step E0 H0 w0 E H (w.putObj D o') :=
  ⟨by simpa using st.size, fun b hb hn => (World.putObj_heap_other (by omega)).trans (st.keep b hb hn), st.os, st.tape, st.output, st.foot', st.Imono, st.Inew⟩
def markOf (D : Nat) : Deferred := { target := .collected D, args := #[] }
def Marks (B : Nat) (E : Env) (H : List LObj) (w : World) (Ds : List Nat) : Prop := Ds.Nodup ∧ ∀ D ∈ Ds, Aside B E H w D (.deferred (some []))
theorem Marks.step {B : Nat} {E E' : Env} {H H' : List LObj} {w w' : World} {Ds : List Nat} (h : Marks B E H w Ds) (st : Step E H w E' H' w') : Marks B E' H' w' Ds := ⟨h.1, fun D hD => (h.2 D hD).step st⟩
def ThenM (B : Nat) (G : Gl) (A E : Env) (s : LS) (w : World) (k : LS → Prop) (a' : Act) (w' : World) : Prop :=
  ∃ a0 Ds s' E', a' = dress (Ds.map markOf) a0 ∧ k s' ∧ SR G A E' s' a0 w' ∧ Step E s.h w E' s'.h w' ∧ Marks B E' s'.h w' Ds
def WpM (P : Program) (G : Gl) (N : Nat) (c : Code) (s : LS) (K : Exit → LS → Prop) : Prop :=
  ∀ B A E w a Ds, B ≤ w.heap.size → A.n = N → SR G A E s a w → Marks B E s.h w Ds → c.wpIn (wideR none) 0 P (fun e a' w' => ThenM B G A E s w (K e) a' w') (dress (Ds.map markOf) a) w
theorem ThenM.bind {B : Nat} {G : Gl} {A E E1 : Env} {s s1 : LS} {w w1 w2 : World} {k : LS → Prop} {a2 : Act} (hst : Step E s.h w E1 s1.h w1) (h : ThenM B G A E1 s1 w1 k a2 w2) : ThenM B G A E s w k a2 w2 := by
  obtain ⟨a0, Ds, s2, E2, h0, h1, h2, h3, h4⟩ := h
  exact ⟨a0, Ds, s2, E2, h0, h1, h2, hst.trans h3, h4⟩
theorem WpM.mono {P : Program} {G : Gl} {N : Nat} {c : Code} {s : LS} {K K' : Exit → LS → Prop} (h : WpM P G N c s K) (hk : ∀ e s, K e s → K' e s) : WpM P G N c s K' := fun B A E w a Ds hB hA hs hD =>
  wpIn_mono (h B A E w a Ds hB hA hs hD) fun e a' w' ⟨a0, Ds', s1, E1, e0, h1, h2⟩ => ⟨a0, Ds', s1, E1, e0, hk _ _ h1, h2⟩
theorem WpM.weak {P : Program} {G : Gl} {N : Nat} {c : Code} {s s' : LS} {K : Exit → LS → Prop} (hw : Weak G N s s') (h : WpM P G N c s' K) : WpM P G N c s K := fun B A E w a Ds hB hA hs hD => by
  obtain ⟨E1, h1, h2⟩ := hw A E w a hA hs
  exact wpIn_mono (h B A E1 w a Ds hB hA h1 (hD.step h2)) fun e a' w' ht => ThenM.bind h2 ht
theorem WpM.seq {P : Program} {G : Gl} {N : Nat} {x y : Code} {s : LS} {K : Exit → LS → Prop} (h : WpM P G N x s (exThen (fun s' => WpM P G N y s' K) K)) : WpM P G N (.seq x y) s K := fun B A E w a Ds hB hA hs hD => by
  refine wpIn_seq (wpIn_mono (h B A E w a Ds hB hA hs hD) ?_)
  rintro e a' w' ⟨a0, Ds', s1, E1, e0, h1, h2, h3, h4⟩
  cases e with
  | normal =>
    subst e0
    exact wpIn_mono (h1 B A E1 w' a0 Ds' (Nat.le_trans hB h3.size) hA h2 h4) fun e a2 w2 ht => ThenM.bind h3 ht
  | exit id => exact ⟨a0, Ds', s1, E1, e0, h1, h2, h3, h4⟩
  | goto l => exact ⟨a0, Ds', s1, E1, e0, h1, h2, h3, h4⟩
  | ret => exact ⟨a0, Ds', s1, E1, e0, h1, h2, h3, h4⟩
  | panic ch => exact ⟨a0, Ds', s1, E1, e0, h1, h2, h3, h4⟩
  | outgrown => exact ⟨a0, Ds', s1, E1, e0, h1, h2, h3, h4⟩
theorem WpM.block {P : Program} {G : Gl} {N : Nat} {id : Nat} {c : Code} {s : LS} {K : Exit → LS → Prop} (h : WpM P G N c s (exBlock id K)) : WpM P G N (.block id c) s K := fun B A E w a Ds hB hA hs hD => by
  refine wpIn_block (wpIn_mono (h B A E w a Ds hB hA hs hD) ?_)
  rintro e a' w' ⟨a0, Ds', s1, E1, e0, h1, h2, h3, h4⟩
  cases e with
  | normal => exact ⟨a0, Ds', s1, E1, e0, h1, h2, h3, h4⟩
  | exit id' =>
    simp only [exBlock] at h1
    simp only [Exit.inBlock]
    split at h1
    · rename_i hb
      rw [if_pos (Nat.eq_of_beq_eq_true hb)]
      exact ⟨a0, Ds', s1, E1, e0, h1, h2, h3, h4⟩
    · rename_i hb
      rw [if_neg (Nat.ne_of_beq_eq_false hb)]
      exact ⟨a0, Ds', s1, E1, e0, h1, h2, h3, h4⟩
  | goto l => exact ⟨a0, Ds', s1, E1, e0, h1, h2, h3, h4⟩
  | ret => exact ⟨a0, Ds', s1, E1, e0, h1, h2, h3, h4⟩
  | panic ch => exact ⟨a0, Ds', s1, E1, e0, h1, h2, h3, h4⟩
  | outgrown => exact ⟨a0, Ds', s1, E1, e0, h1, h2, h3, h4⟩
end
section

def setPs : List SV → List Tmp → List SV → List SV
  | t, p :: ps, x :: xs => setPs (t.set p x) ps xs
  | t, _, _ => t
theorem setPs_ok {E : Env} {w : World} : ∀ (ps : List Tmp) {t xs : List SV} {us vs : List Value}, VRs E w t us → VRs E w xs vs → VRs E w (setPs t ps xs) ((ps.zip vs).foldl (fun t (p, v) => t.set p v) us)
  | [], t, xs, us, vs, h, _ => by
    simpa [setPs] using h
  | p :: ps, t, [], us, vs, h, hx => by
    have : vs = [] := List.eq_nil_of_length_eq_zero (by simpa using hx.1)
    subst this
    simpa [setPs] using h
  | p :: ps, t, x :: xs, us, [], h, hx => by
    have := hx.1
    simp at this
  | p :: ps, t, x :: xs, us, v :: vs, h, hx => by
    simp only [setPs, List.zip_cons_cons, List.foldl_cons]
    exact setPs_ok ps (h.set_ p (hx.2 0 x v rfl rfl)) ⟨by simpa using hx.1, fun j y u hy hu => hx.2 (j + 1) y u (by simpa using hy) (by simpa using hu)⟩
theorem zip_fold (ps : Array Tmp) (vs : List Value) (us : Array Value) : ((ps.zip vs.toArray).foldl (fun t (p, v) => t.setIfInBounds p v) us).toList = (ps.toList.zip vs).foldl (fun t (p, v) => t.set p v) us.toList := by
  rw [← Array.foldl_toList, Array.toList_zip]
  have : ∀ (l : List (Tmp × Value)) (us : Array Value), (l.foldl (fun t (p, v) => t.setIfInBounds p v) us).toList = l.foldl (fun t (p, v) => t.set p v) us.toList := by
    intro l
    induction l with
    | nil => intro us; rfl
    | cons x l ih => intro us; simp only [List.foldl_cons, ih, Array.toList_setIfInBounds]
  exact this _ us
abbrev YSpec := List SV → List LObj → (List LObj → Prop) → Prop
def YieldOk (P : Program) (G : Gl) (N : Nat) (X : Cx) (l : Nat) (Y : YSpec) : Prop :=
  ∀ A E w H args vs Q, A.n = N → X.J A E H w → A.Le E → VRs E w args vs → Rel E H w → GlOk E w G → Y args H Q →
    ∃ fn tmps assign body, (Instr.yield l vs.toArray).run P w = .ok (.round l fn tmps assign body) w ∧
      RoundIn (wideR none) 0 P l fn tmps assign body w fun e w' => e = .returned (.bool true) ∧ ∃ H' E', Q H' ∧ Rel E' H' w' ∧ Step E H w E' H' w' ∧ E.Le E'
end
section

def HeapW (G : Gl) (N : Nat) (H : List LObj) (Q : List LObj → Prop) : Prop := ∃ H', WeakV G N (.bool true) H (.bool true) H' ∧ Q H'
theorem HeapW.run {G : Gl} {N : Nat} {H : List LObj} {Q : List LObj → Prop} (h : HeapW G N H Q) {A E : Env} {w : World} (hA : A.n = N) (hle : A.Le E) (hr : Rel E H w) (hg : GlOk E w G) :
    ∃ H' E', Q H' ∧ A.Le E' ∧ Rel E' H' w ∧ GlOk E' w G ∧ Step E H w E' H' w := by
  obtain ⟨H', hw, hq⟩ := h
  obtain ⟨E', h1, _, h2, h3, h4⟩ := hw A E w (.bool true) hA hle (.bool true) hr hg
  exact ⟨H', E', hq, h1, h2, h3, h4⟩
theorem round_ok {P : Program} {G : Gl} {assign body : Code} {ps : Array Tmp} {fid : FuncId} {dd : Nat} {t : List SV} {us : Array Value} {l B : Nat} {E : Env} {w : World} {H : List LObj} {args : List SV} {vs : List Value} {Q : List LObj → Prop}
    (hca : calm assign = true) (hcb : calm body = true) (ht : VRs E w t us.toList) (hv : VRs E w args vs) (hr : Rel E H w) (hg : GlOk E w G)
    (hl : Aside B E H w l (.loop { state := .ready, pending := none, fn := fid, tmps := us, params := ps, assign, body, defers := dd }))
    (h : Wp P G H.length assign ⟨setPs t ps.toList args, H⟩ (exThen (fun s1 => Wp P G H.length body s1 fun e s' => e = .normal ∧ HeapW G H.length s'.h Q) fun _ _ => False)) :
    RoundIn (wideR none) 0 P l fid ((ps.zip vs.toArray).foldl (fun t (p, v) => t.setIfInBounds p v) us) assign body w fun e w' => e = .returned (.bool true) ∧ ∃ H' E', Q H' ∧ Rel E' H' w' ∧ Step E H w E' H' w' ∧ E.Le E' := by
  refine roundIn_of_wpIn (F := wideR none) trivial ?_
  obtain ⟨rec, hrec⟩ : ∃ rec : LoopState → Loop, rec = fun st => { state := st, pending := none, fn := fid, tmps := us, params := ps, assign, body, defers := dd } := ⟨_, rfl⟩
  have hl : Aside B E H w l (.loop (rec .ready)) := by rw [hrec]; exact hl
  have hs0 : SR G E E ⟨setPs t ps.toList args, H⟩ { tmps := (ps.zip vs.toArray).foldl (fun t (p, v) => t.setIfInBounds p v) us, defers := [] } w := by
    refine ⟨Env.Le.refl E, ?_, hr, hg, rfl⟩
    show VRs E w _ (Array.toList _)
    rw [zip_fold]
    exact setPs_ok _ ht hv
  have ha := h ⟨some l, [], fun _ _ _ _ => True, fun _ _ _ _ _ _ _ _ _ => trivial⟩ (.inr hca) E E w _ hr.len.symm hs0 trivial
  rw [show (⟨some l, [], fun _ _ _ _ => True, fun _ _ _ _ _ _ _ _ _ => trivial⟩ : Cx).ds = [] from rfl, dress_nil] at ha
  refine wpIn_mono (ha : Code.wpIn ((wideR none).inRound l) 0 P assign _ _ _) ?_
  rintro e a1 w1 ⟨a2, e2, s1, E1, h1, h2, h3⟩
  rw [dress_nil] at e2
  subst e2
  cases e with
  | normal =>
    have hl1 := hl.step h3
    refine ⟨_, run_beginRound hl1.is (by rw [hrec]), ?_⟩
    have hl2 : Aside B E1 s1.h (w1.putObj l (.loop (rec .busy))) l (.loop (rec .busy)) := hl1.put _
    have hs2 : SR G E E1 s1 a1 (w1.putObj l (.loop (rec .busy))) := h2.aside hl1 _
    have hb := h1 ⟨some l, [], fun _ _ _ _ => True, fun _ _ _ _ _ _ _ _ _ => trivial⟩ (.inr hcb) E E1 _ a1 hr.len.symm hs2 trivial
    rw [show (⟨some l, [], fun _ _ _ _ => True, fun _ _ _ _ _ _ _ _ _ => trivial⟩ : Cx).ds = [] from rfl, dress_nil] at hb
    have hbusy : ({ rec .ready with state := .busy } : Loop) = rec .busy := by rw [hrec]
    rw [hbusy]
    refine wpIn_mono (hb : Code.wpIn ((wideR none).inRound l) 0 P body _ _ _) ?_
    rintro e a3 w3 ⟨a4, e4, s3, E3, ⟨rfl, hW⟩, h5, h6⟩
    obtain ⟨H', E', hq, q1, q2, q3, q4⟩ := hW.run hr.len.symm h5.anc h5.rel h5.gl
    have h7 := h6.trans q4
    have hl3 := hl2.step h7
    have hrun := run_endRound (P := P) none hl3.is
    have hready : ({ rec .busy with state := if (none : Option Code).isNone then .ready else .done, pending := none } : Loop) = rec .ready := by rw [hrec]; rfl
    rw [hready] at hrun
    refine ⟨_, _, hrun, rfl, H', E', hq, q2.moved (by simp) (fun b hb => World.putObj_heap_other (hl3.free hb)), ?_, q1⟩
    refine ⟨by have z1 := h3.size; have z2 := h7.size; simp at z2 ⊢; omega, fun b hb hn => ?_, ?_, ?_, ?_, fun b hf => ?_, fun b hi => h7.Imono b (h3.Imono b hi), fun b hi => ?_⟩
    · by_cases hbl : b = l
      · subst hbl
        rw [World.putObj_heap_same hl3.lt, hl.is]
      · rw [World.putObj_heap_other hbl]
        have n1 : ¬ InFoot E1 s1.h b := fun hf => by
          rcases h3.foot' b hf with q | q
          · omega
          · exact hn q
        rw [h7.keep b (by have := h3.size; simp; omega) n1, World.putObj_heap_other hbl]
        exact h3.keep b hb hn
    · exact h7.os.trans h3.os
    · exact h7.tape.trans h3.tape
    · exact h7.output.trans h3.output
    · rcases h7.foot' b hf with q | q
      · have := h3.size
        simp at q
        exact .inl (by omega)
      · exact h3.foot' b q
    · rcases h7.Inew b hi with q | q | q
      · exact h3.Inew b q
      · have := h3.size
        simp at q
        exact .inr (.inl (by omega))
      · rcases h3.foot' b q with q' | q'
        · exact .inr (.inl q')
        · exact .inr (.inr q')
  | exit id => exact h1.elim
  | goto l => exact h1.elim
  | ret => exact h1.elim
  | panic ch => exact h1.elim
  | outgrown => exact h1.elim
theorem WpM.rangeFunc {P : Program} {G : Gl} {N : Nat} {g : Operand} {ps : Array Tmp} {assign body : Code} {s : LS} {K : Exit → LS → Prop} {f : FuncId} {cap : List SV} {fn : Func} {ib : Code}
    (hg : s.ev G g = .func (.func f) cap) (hf : P.funcs[f]? = some fn) (hb : fn.body = some ib) (hok : FnOk P f) (hres : fn.results = #[]) (hca : calm assign = true) (hcb : calm body = true) (Y : YSpec)
    (hbody : ∀ args H Q, Y args H Q → args.length = ps.size ∧ Wp P G H.length assign ⟨setPs s.t ps.toList args, H⟩ (exThen (fun s1 => Wp P G H.length body s1 fun e s' => e = .normal ∧ HeapW G H.length s'.h Q) fun _ _ => False))
    (hit : ∀ X l, X.ro = none → YieldOk P G s.h.length X l Y → WpX P G s.h.length X ib ⟨(.func (.yield l) [] :: cap) ++ List.replicate (fn.ntmps - (cap.length + 1)) (.tuple []), s.h⟩
      fun e s' => (e = .normal ∨ e = .ret) ∧ HeapW G s.h.length s'.h fun H' => K .normal ⟨s.t, H'⟩) :
    WpM P G N (.rangeFunc g ps assign body) s K := fun B A E w a Ds hB hA hs hD => by
  refine wpIn_rangeFunc ?_
  intro fid _
  have hev := hs.ev g
  rw [hg] at hev
  generalize hgv : a.eval g = u at hev
  cases hev with
  | func cvs hcl hch =>
  have hcap : VRs E w cap cvs := ⟨hcl, hch⟩
  obtain ⟨rec, hrec⟩ : ∃ rec : LoopState → Loop, rec = fun st => { state := st, pending := none, fn := fid, tmps := a.tmps, params := ps, assign, body, defers := w.heap.size } := ⟨_, rfl⟩
  obtain ⟨W1, hW1⟩ : ∃ W1, (w.alloc (.deferred (some []))).alloc (.loop (rec .ready)) = W1 := ⟨_, rfl⟩
  obtain ⟨l, hl⟩ : ∃ l, w.heap.size + 1 = l := ⟨_, rfl⟩
  have old : ∀ b, b < w.heap.size → W1.heap[b]? = w.heap[b]? := fun b hb => by
    rw [← hW1, Below.heap_alloc _ _ _ (by simp; omega), Below.heap_alloc _ _ _ hb]
  have hz : W1.heap.size = w.heap.size + 2 := by rw [← hW1]; simp
  have hnew : ∀ b, w.heap.size ≤ b → ¬ InFoot E s.h b ∧ ¬ E.I b := fun b hb => ⟨fun h => by have := hs.rel.foot_lt h; omega, fun h => by have := hs.rel.ltI b h; omega⟩
  have hs1 : SR G A E s a W1 := hs.moved (by omega) fun b hb => old b (by
    rcases hb with hb | hb
    · exact hs.rel.foot_lt hb
    · exact hs.rel.ltI b hb)
  have hst1 : Step E s.h w E s.h W1 := ⟨by omega, fun b hb _ => old b hb, by rw [← hW1]; rfl, by rw [← hW1]; rfl, by rw [← hW1]; rfl, fun b h => .inr h, fun b h => h, fun b h => .inl h⟩
  have hDn : Aside B E s.h W1 w.heap.size (.deferred (some [])) := ⟨hB, by rw [← hW1, Below.heap_alloc _ _ _ (by simp)]; exact World.alloc_heap_new w _, (hnew _ (Nat.le_refl _)).1, (hnew _ (Nat.le_refl _)).2⟩
  have hLn : Aside B E s.h W1 l (.loop (rec .ready)) := ⟨by omega, by
    have := World.alloc_heap_new (w.alloc (.deferred (some []))) (.loop (rec .ready))
    rw [World.size_alloc] at this
    rw [← hW1, ← hl]
    exact this, (hnew _ (by omega)).1, (hnew _ (by omega)).2⟩
  refine ⟨l, [markOf w.heap.size], W1, { target := .fn (.func f) cvs.toArray, args := #[.func (.yield l) #[] #[]] }, W1, f, #[.func (.yield l) #[] #[]] ++ cvs.toArray, W1, ?_, ?_, fun _ _ => trivial, ?_, fun _ => (by cases ‹_›), ?_⟩
  · rw [← hW1, ← hl, hrec]
    exact run_enterLoop_outer _ _ _ _ _
  · have : (dress (Ds.map markOf) a).eval g = .func (.func f) #[] cvs.toArray := hgv
    simp only [resolve, this, Deferred.ofValue]
    simp [go_sem]
  · simpa [invoke] using callFunc_run hok _ W1
  · -- the function that is ranged over
    have hcv : VRs E W1 (.func (.yield l) [] :: cap) (.func (.yield l) #[] #[] :: cvs) := by
      refine ⟨by simpa using hcl, fun j x v hx hv => ?_⟩
      cases j with
      | zero =>
        cases hx; cases hv
        exact VR.func [] rfl fun j x v hx => by simp at hx
      | succ j => exact (hcap.kept (Env.Le.refl E) (fun _ h => h) (fun b hb => old b (hs.rel.ltI b hb))).2 j x v (by simpa using hx) (by simpa using hv)
    have hargs : (#[.func (.yield l) #[] #[]] ++ cvs.toArray : Array Value) = (Value.func (.yield l) #[] #[] :: cvs).toArray := by
      apply Array.ext'
      simp
    have hlen : ((Value.func (.yield l) #[] #[] :: cvs).toArray).size = cap.length + 1 := by simp [hcl]
    rw [hargs]
    refine callsIn_of_wp (fn := fn) hf hb trivial ?_
    have hsi : SR G E E ⟨(.func (.yield l) [] :: cap) ++ List.replicate (fn.ntmps - (cap.length + 1)) (.tuple []), s.h⟩ { tmps := (Value.func (.yield l) #[] #[] :: cvs).toArray ++ Array.replicate (fn.ntmps - (Value.func (.yield l) #[] #[] :: cvs).toArray.size) undef, defers := [] } W1 := by
      refine ⟨Env.Le.refl E, ?_, hs1.rel, hs1.gl, rfl⟩
      rw [hlen]
      simp only [Array.toList_append, Array.toList_replicate]
      refine hcv.append ⟨by simp, fun j x v hx hv' => ?_⟩
      rw [List.getElem?_replicate] at hx hv'
      split at hx
      · rename_i hj
        rw [if_pos hj] at hv'
        cases hx; cases hv'
        exact undef_ok E W1
      · cases hx
    let X : Cx := ⟨none, [], fun A' E' H' w' => A' = E ∧ Step E s.h W1 E' H' w' ∧ Aside B E' H' w' l (.loop (rec .ready)), fun A' E' H' w' E2 H2 w2 hJ st => ⟨hJ.1, hJ.2.1.trans st, hJ.2.2.step st⟩⟩
    have hy : YieldOk P G s.h.length X l Y := by
      rintro A' E' w' H args vs Q hn ⟨rfl, hst, hla⟩ hle hv hr hgl hYs
      obtain ⟨y1, y2⟩ := hbody _ _ _ hYs
      have hrun := run_yield (P := P) (args := vs.toArray) hla.is (by rw [hrec]; simpa [← y1] using hv.1)
      rw [hrec] at hrun hla
      refine ⟨_, _, _, _, hrun, round_ok (t := s.t) hca hcb ?_ hv hr hgl hla y2⟩
      exact hs1.vals.kept hle hst.Imono (hs1.rel.keepI (p := InFoot A' s.h) (fun _ h => h) hst.keep)
    have hi := hit X l rfl hy E E W1 _ hs.rel.len.symm hsi ⟨rfl, Step.refl E s.h W1, hLn⟩
    rw [show X.ds = [] from rfl, dress_nil] at hi
    refine wpIn_mono (hi : Code.wpIn (wideR none) 0 P ib _ _ _) ?_
    rintro e a2 w2 ⟨a3, e3, s2, E2, ⟨he, hW⟩, k1, k2⟩
    rw [dress_nil] at e3
    subst e3
    obtain ⟨H', E', hq, q1, q2, q3, q4⟩ := hW.run hs.rel.len.symm k1.anc k1.rel k1.gl
    have k3 := k2.trans q4
    have hla := hLn.step k3
    have fin : a2.defers = [] ∧ ∃ v, (results fn a2.tmps).run P w2 = .ok v w2 ∧ rangePost (wideR none) 0 P l (fun e a' w' => ThenM B G A E s w (K e) a' w') { dress (Ds.map markOf) a with defers := [markOf w.heap.size] ++ (dress (Ds.map markOf) a).defers } (.returned v) w2 := by
      refine ⟨k1.nod, .tuple #[], by simp [results, hres, go_sem], ?_⟩
      have hend := run_endLoop (P := P) hla.is (by rw [hrec]; simp)
      rw [show (rec .ready).pending = none by rw [hrec]] at hend
      refine ⟨none, _, hend, a, w.heap.size :: Ds, ⟨s.t, H'⟩, E', ?_, hq, ?_, ?_, ?_⟩
      · show ({ tmps := a.tmps, defers := _ } : Act) = { tmps := a.tmps, defers := _ }
        show ({ tmps := a.tmps, defers := [markOf w.heap.size] ++ (a.defers ++ Ds.map markOf) } : Act) = { tmps := a.tmps, defers := a.defers ++ (w.heap.size :: Ds).map markOf }
        rw [hs.nod]
        rfl
      · exact (hs1.step q1 k3.Imono (hs1.rel.keepI (p := InFoot E s.h) (fun _ h => h) k3.keep) q2).aside hla _
      · exact (hst1.trans k3).aside (by omega) _
      · have hDs := (hD.step hst1).step k3
        refine ⟨List.nodup_cons.2 ⟨fun hm => ?_, hD.1⟩, fun D hm => ?_⟩
        · have := (hD.2 _ hm).lt
          omega
        · rcases List.mem_cons.1 hm with rfl | hm
          · exact (hDn.step k3).put_other (by omega) _
          · exact (hDs.2 D hm).put_other (by have := (hD.2 _ hm).lt; omega) _
    rcases he with rfl | rfl
    · exact fin
    · exact fin
end
end Go.LX
end
