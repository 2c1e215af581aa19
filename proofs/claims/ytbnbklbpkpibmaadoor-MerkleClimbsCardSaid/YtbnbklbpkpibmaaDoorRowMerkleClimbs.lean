/- The law MerkleClimbs returns true for every input, and leaves its arguments as they were. No condition. -/
import Derived.Test.YtbnbklbpkpibmaaDoorRows
import Derived.Test.YtbnbklbpkpibmaaDoorZ7
import Derived.ChangeMaps5
import Derived.HandedShaped
import Derived.Test.YtbnbklbpkpibmaaDoorCards
import Derived.Test.YtbnbklbpkpibmaaDoorTie
import Derived.Handed
import Derived.SevenTiedAt
import Derived.Stop.Joined
set_option maxRecDepth 100000
set_option autoImplicit false
set_option linter.unusedVariables false
set_option linter.unusedSimpArgs false
namespace Go.Proofs.YtbnbklbpkpibmaaDoor.merkleClimbs
open Go.LX Go.ChangeShapes Go.ChangeMaps Go.WideShapes Go.ChangeAt Go.RowKit

theorem own : ownKnob Tryd.prog.godebug = none := by kernel_rfl
theorem lifted (os : Os) (started : os.Started) (H : Type) (enc : TypeId × Value → H) :
    ReturnsInHanded {} Tryd.checked os 6 .any (fun w args => (Rows.merkleClimbsSpec.pre enc Tryd.prog Tryd.f6 [] false w args ∧ laidMetH Tryd.prog laidK w) ∧ sizedMet enc Tryd.prog Tryd.f6 (OpenSpec.ofChange Rows.merkleClimbsSpec) false w args) (Rows.merkleClimbsSpec.post enc Tryd.prog Tryd.f6 false true false false) := by
  refine returnsInHanded_of_change_and (C := Tryd.checked) (X := fun w _ => laidMetH Tryd.prog laidK w) (fun _ _ _ hh h => h.of_heap hh) own started (by kernel_rfl) Tryd.func6
    (ChangeSpec.witness_shaped (enc := enc) (C := Tryd.checked) (os := os) (X := fun w _ => laidMetH Tryd.prog laidK w) false (World.doorLaid Tryd.prog 400 os) #[.agg #[.int .i64 0, .int .i64 0, .string ⟨#[]⟩, .string ⟨#[]⟩, .slice none 0 0]] 8 rfl (World.shaped_of_RefB (by kernel_rfl) (by kernel_rfl)) (by kernel_rfl) (by kernel_rfl) (by kernel_rfl) (doorK_met os _)) ?_
  intro W base args ds gs before hval0 hW hcnd hwt hL _
  have hval : ∀ (j : Nat) t v, Tryd.f6.params[j]? = some t → args[j]? = some v → Value.okWide Tryd.prog W .any base t v := hval0
  have hW1 := hW
  obtain ⟨p, q, hA0, hV, rfl, hfz, hnd⟩ := hW1
  obtain ⟨rfl, rfl⟩ := trodVars_none hV
  have hA : DataW.TrodAll enc Tryd.prog W 0 (fun _ => true) true Tryd.f6.params.toList args.toList ds p := hA0
  have hA1 := hA
  rw [Tryd.params6] at hA1 hval
  obtain ⟨v0, vs0, d0, ds0, p0, q0, hargs, rfl, rfl, h0, r0⟩ := trodAll_cons hA1
  obtain ⟨rfl, rfl, rfl⟩ := trodAll_nil r0
  obtain rfl : args = #[v0] := by cases args; simp_all
  obtain ⟨a0, hl0, ok0⟩ := open_leaf (hval 0 50 v0 rfl rfl) h0 (inReach_each (j := 0) hwt rfl rfl)
  refine (law_runG ((climbs_law kG_at)) (vrs_cons hl0 vrs_nil) (gl_of_laid hL) ⟨a0.p, rfl, rfl, rfl⟩).mono fun e W' ⟨he, hb⟩ => ?_
  subst he
  exact ⟨_, rfl, law_post (t := 4) (ps := _) hW (by first | exact hA | (rw [List.append_nil]; exact hA)) rfl rfl rfl Tryd.underlying4 (by kernel_rfl) (by kernel_rfl) hb⟩

theorem over : Rows.merkleClimbsRow.holds Tryd.pinned (OpenSpec.ofChange Rows.merkleClimbsSpec) :=
  OpenClaim.holds_of_wide 6 Tryd.f6 rfl rfl rfl rfl rfl rfl rfl ⟨rfl, rfl, rfl, rfl, rfl⟩ rfl rfl rfl rfl rfl (by kernel_rfl) Tryd.func6 (by kernel_rfl)
    (of_decide_eq_true (by kernel_rfl)) (by unfold Func.isWrapper; first | (rw [if_pos (by decide +kernel)]; kernel_rfl) | (rw [if_neg (by decide +kernel)]; exact ⟨rfl, rfl⟩))
    (fun os started H enc _ => lifted os started H enc)

theorem card : Rows.MerkleClimbsCardSaid :=
  Claim7.holds_tied_plain_at .later [] [.data] true (true, "3be4cfd300413784e73ac91b7e67da70e07de7cd588f833e6ddec1ef6a345228") false
    over (fun _ h => by cases h) (by kernel_rfl) (fun _ h => by cases h) merkleClimbs_row_tie rfl ⟨rfl, rfl⟩ (by kernel_rfl) rfl
    (fun f fn hf hfn => by
      obtain rfl : f = 6 := Option.some.inj ((show Tryd.prog.funcNamed "carrack/carracklaw08.MerkleClimbs" = some 6 by kernel_rfl).symm.trans hf) |>.symm
      obtain rfl : fn = Tryd.f6 := (Option.some.inj (Tryd.func6.symm.trans hfn)).symm
      exact ⟨by kernel_rfl, fun j t ht => by
        rw [Tryd.params6] at ht
        match j, ht with
        | 0, ht =>
          obtain rfl : t = 50 := by simpa using ht.symm
          exact (show Tryd.prog.wantsStandIn 50 = false by kernel_rfl)
        | j + 1, ht => simp at ht⟩)
    (by kernel_rfl)

theorem proved : Rows.MerkleClimbsCardSaid := card
#print axioms proved
end Go.Proofs.YtbnbklbpkpibmaaDoor.merkleClimbs
