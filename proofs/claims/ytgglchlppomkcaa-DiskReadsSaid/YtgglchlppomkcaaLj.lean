import Derived.Test.YtgglchlppomkcaaTy
import Derived.Test.YtgglchlppomkcaaShelf
set_option maxRecDepth 100000
set_option maxHeartbeats 400000
set_option autoImplicit false
set_option linter.unusedVariables false
set_option linter.unusedSimpArgs false
namespace Go.LX
open Go.Proofs

/-! ## strings.Repeat, strings.Join: the library's shelf -/
theorem repeatL_one (b : UInt8) : ∀ n : Nat, Lib.repeatL [b] n = List.replicate n b
  | 0 => rfl
  | n + 1 => by rw [Lib.repeatL, repeatL_one b n]; rfl
def repS : Spec := fun args H Q => match args, H with
  | [.str l, .int .i64 n], [] => Need (0 ≤ n ∧ n ≤ 9223372036854775807 ∧ l.length * n.toNat ≤ 140737488355328) (Q (.str (Lib.repeatL l n.toNat)) [])
  | _, _ => False
theorem rep_c : Meets Try.prog [] 27 repS := by
  refine meets_calls ?_
  intro args H Q h E w vs hv hr
  unfold repS at h
  split at h
  case h_2 => exact h.elim
  rename_i l n
  obtain ⟨⟨h0, h1, h2⟩, h⟩ := h
  obtain ⟨u, v, rfl, q1, q2⟩ := vrs_two hv
  cases q1
  cases q2
  refine ⟨.string ⟨(Lib.repeatL l n.toNat).toArray⟩, _, ?_, fun w' => .str _, h⟩
  have := Try.strings_Repeat ⟨l.toArray⟩ n.toNat w (by omega) (by rw [size_mk]; exact h2)
  have e : ((n.toNat : Nat) : Int) = n := by omega
  rw [e] at this
  exact this
theorem rep_k : Contract Try.prog [] 27 repS := ⟨⟨⟨_, rfl, rfl, rfl⟩⟩, rep_c⟩
def zeroS : Spec := fun args H Q => match args, H with
  | [.str [b], .int .i64 n], [] => Need (0 ≤ n ∧ n ≤ 140737488355328) (Q (.str (List.replicate n.toNat b)) [])
  | _, _ => False
theorem zero_k : Contract Try.prog [] 27 zeroS := rep_k.imp fun args H Q h => by
  unfold zeroS at h
  split at h
  case h_2 => exact h.elim
  obtain ⟨⟨h0, h1⟩, h⟩ := h
  refine ⟨⟨h0, by omega, by simp; omega⟩, ?_⟩
  rw [repeatL_one]
  exact h
theorem join_empty (l : List (List UInt8)) : Lib.join l [] = l.flatten := by
  rw [Lib.join, List.intercalate]
  induction l with
  | nil => rfl
  | cons x r ih => cases r with
    | nil => simp
    | cons y r => simp [List.intersperse] at ih ⊢; exact ih
def joinS : Spec := fun args H Q => match args, H with
  | [.own 0, .str []], [.own 9 1 n xs wr] => ∃ l : List (List UInt8), n = l.length ∧ xs = l.map CV.str ∧ l.length ≤ 140737488355328 ∧ l.flatten.length ≤ 140737488355328 ∧ Q (.str l.flatten) [.own 9 1 n xs wr]
  | _, _ => False
theorem join_map (l : List (List UInt8)) : Lib.join ((l.map fun x => (⟨x.toArray⟩ : ByteArray)).map (·.data.toList)) (⟨#[]⟩ : ByteArray).data.toList = l.flatten := by
  have hm : (l.map fun x => (⟨x.toArray⟩ : ByteArray)).map (·.data.toList) = l := by
    rw [List.map_map]
    exact List.map_id l
  rw [hm, ← join_empty]
theorem join_cells (l : List (List UInt8)) (w : World) {b e : Nat} {vs : Array Value} {fz : Nat × Nat} {I : Nat → Prop} (e2 : w.heap[b]? = some (.cells vs e fz)) (e3 : l.length ≤ vs.size)
    (e7 : ∀ (j : Nat) x u, (l.map CV.str)[j]? = some x → vs[j]? = some u → CR I w x u) : ∀ (j : Nat) x, (l.map fun x => (⟨x.toArray⟩ : ByteArray))[j]? = some x → w.cell? ⟨b, 0 + j, none⟩ = some (.string x) := by
  intro j x hx
  rw [List.getElem?_map, Option.map_eq_some_iff] at hx
  obtain ⟨y, hy, rfl⟩ := hx
  have hlt := lt_of_get hy
  obtain ⟨u, hu⟩ : ∃ u, vs[j]? = some u := ⟨_, Array.getElem?_eq_getElem (by omega)⟩
  have := e7 j (.str y) u (by rw [List.getElem?_map, hy]; rfl) hu
  cases this
  have hw : w.cell? ⟨b, 0 + j, none⟩ = vs[0 + j]? := by
    unfold World.cell?
    simp only [e2]
    rfl
  rw [hw, Nat.zero_add]
  exact hu
theorem join_c : Meets Try.prog [] 29 joinS := by
  refine meets_calls ?_
  intro args H Q h E w vs hv hr
  unfold joinS at h
  split at h
  case h_2 => exact h.elim
  rename_i n xs wr
  obtain ⟨l, rfl, rfl, h1, h2, h⟩ := h
  obtain ⟨u, v, rfl, q1, q2⟩ := vrs_two hv
  cases q1
  cases q2
  refine ⟨.string ⟨l.flatten.toArray⟩, .str l.flatten, ?_, fun w' => .str _, h⟩
  rcases (hr.obj 0 _ rfl).row with ⟨e1, e2⟩ | ⟨b, cap, vs, fz, e1, e2, e3, e4, e5, e6, e7⟩
  · have hl : l = [] := List.length_eq_zero_iff.1 e2
    subst hl
    rw [e1]
    refine (Try.strings_Join_none none 0 ⟨#[]⟩ w).mono ?_
    rintro e w' ⟨rfl, rfl⟩
    exact ⟨rfl, RowKit.Below.refl _ _⟩
  · rw [e1]
    have hc := join_cells l w e2 (by rw [e3]; omega) e7
    have hb := (Array.getElem?_eq_some_iff.1 e2).1
    have hj := Try.strings_Join b 0 cap (l.map fun x => (⟨x.toArray⟩ : ByteArray)) ⟨#[]⟩ w hc hb (by rw [List.length_map]; exact h1) (by rw [List.length_map]; exact e4) (by rw [join_map]; exact h2)
    rw [join_map, List.length_map] at hj
    exact hj
theorem join_k : Contract Try.prog [] 29 joinS := ⟨⟨⟨_, rfl, rfl, rfl⟩⟩, join_c⟩
end Go.LX
