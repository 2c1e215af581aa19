import Derived.Test.YtiokggkoidiicaaDoorTy
set_option maxRecDepth 100000
set_option maxHeartbeats 1000000
set_option autoImplicit false
set_option linter.unusedVariables false
set_option linter.unusedSimpArgs false
namespace Go.LX
open Go.Proofs Go.RowKit

/-- A nil slice in a slot, seen as a row of the call's own. -/
theorem Weak.ownNilT {G : Gl} {N : Nat} {s : LS} (k e sz : Nat) (hk : s.t[k]? = some .nilsl) : Weak G N s ⟨s.t.set k (.own s.h.length), s.h ++ [LObj.own e sz 0 [] true]⟩ := by
  intro A E w a hA hs
  obtain ⟨r1, r2, r3⟩ := Rel.push (w' := w) hs.rel none 0 (.slice none 0 0) (.own e sz 0 [] true) ⟨Nat.le_refl _, rfl, rfl, rfl⟩ (fun b _ _ => rfl) (fun b hb => by simp [foot, Env.add_v, Value.blk] at hb) (fun hkI => by
    show OwnR _ _ ((E.add 0 (.slice none 0 0)).v E.n) _ _ _ _ _
    rw [Env.add_v]
    exact ⟨by simp, .inl ⟨rfl, rfl⟩⟩)
  obtain ⟨v, hv1, hv2⟩ := hs.vals.get hk
  cases hv2
  refine ⟨E.add 0 (.slice none 0 0), ⟨hs.anc.trans (E.le_add _ _), ?_, r1, ⟨hs.gl.ok⟩, hs.nod⟩, r2⟩
  refine (hs.vals.kept (E.le_add _ _) (fun _ h => h) (fun _ _ => rfl)).same hv1 ?_
  have := VR.own (E := E.add 0 (.slice none 0 0)) (w := w) E.n (Nat.lt_succ_self _)
  rw [Env.add_v] at this
  rw [hs.rel.len]
  exact this
/-! ## Whole numbers of 64 bits -/
def n64 (n : Nat) : Nat := n % 18446744073709551616
def us (l : List Nat) : List CV := l.map fun (n : Nat) => CV.int .u64 (n : Int)
theorem wrap64 (n : Nat) : IntKind.u64.wrap (n : Int) = ((n64 n : Nat) : Int) := by rw [wrap_u64_mod]; rfl
theorem wrap64_add (a b : Nat) : IntKind.u64.wrap ((a : Int) + (b : Int)) = ((n64 (a + b) : Nat) : Int) := by rw [← wrap64]; rfl
theorem wrap64_mul (a b : Nat) : IntKind.u64.wrap ((a : Int) * (b : Int)) = ((n64 (a * b) : Nat) : Int) := by rw [← wrap64]; rfl
theorem n64_of {n : Nat} (h : n < 18446744073709551616) : n64 n = n := Nat.mod_eq_of_lt h
theorem n64_lt (n : Nat) : n64 n < 18446744073709551616 := Nat.mod_lt _ (by decide)
theorem us_len (l : List Nat) : (us l).length = l.length := List.length_map _
theorem us_at {l : List Nat} {k : Nat} (h : k < l.length) : (us l)[((k : Nat) : Int).toNat]? = some (CV.int .u64 ((l.getD k 0 : Nat) : Int)) := by
  rw [Int.toNat_natCast, us, List.getElem?_map, List.getD_eq_getElem?_getD, List.getElem?_eq_getElem h]
  rfl
theorem us_set (l : List Nat) (k n : Nat) : (us l).set ((k : Nat) : Int).toNat (CV.int .u64 (n : Int)) = us (l.set k n) := by
  rw [Int.toNat_natCast, us, us, List.map_set]
theorem us_app (l m : List Nat) : us l ++ us m = us (l ++ m) := by rw [us, us, us, List.map_append]
theorem tmod_nat (a b : Nat) : ((a : Nat) : Int).tmod ((b : Nat) : Int) = ((a % b : Nat) : Int) := rfl
theorem tdiv_nat (a b : Nat) : ((a : Nat) : Int).tdiv ((b : Nat) : Int) = ((a / b : Nat) : Int) := rfl
end Go.LX
