/- StoreTakes, for every string: the call returns true and the string reads as before; the package-level error values and the handle of type error are as the program's text lays them. -/
import Derived.Test.YthokkjdolcfhcaaGreatDoorK0m
import Derived.Test.YthokkjdolcfhcaaGreatDoorMs
import Derived.Test.YthokkjdolcfhcaaGreatDoorCards
import Derived.Test.YthokkjdolcfhcaaGreatDoorTie
import Derived.SevenTiedAt

set_option linter.unusedVariables false
namespace Go.Proofs.YthokkjdolcfhcaaGreatDoor
open Go.ChangeShapes Go.WideShapes Go.RowKit Go.ChangeMaps

theorem Keep.kept {w w' : World} (k : Pure w w') : w.kept w' := ⟨k.os, k.output, fun i hi => k.block i hi id⟩

set_option maxRecDepth 100000 in
theorem storeTakes_lifted (os : Os) (started : os.Started) (H : Type) (enc : TypeId × Value → H) :
    ReturnsInHanded {} Tryz.checked os 3 .any (fun w args => (Rows.storeTakesSpec.pre enc Tryz.prog Tryz.f3 [] false w args ∧ laidMetH Tryz.prog kLaid w) ∧ sizedMet enc Tryz.prog Tryz.f3 (OpenSpec.ofChange Rows.storeTakesSpec) false w args)
      (Rows.storeTakesSpec.post enc Tryz.prog Tryz.f3 false true false false) := by
  refine returnsInHanded_of_change_and (C := Tryz.checked) (X := fun w _ => laidMetH Tryz.prog kLaid w) (fun _ _ _ hh h => h.of_heap hh) k_own started (by kernel_rfl) Tryz.func3
    (ChangeSpec.witness_at (enc := enc) (C := Tryz.checked) (os := os) (X := fun w _ => laidMetH Tryz.prog kLaid w) false (kWorld os) #[.string ⟨#[]⟩] 8 rfl (by kernel_rfl) (by kernel_rfl) (by kernel_rfl) (by kernel_rfl) (by kernel_rfl) (k_met os _)) ?_
  intro W base args ds gs before hval0 hW _ _ hL _
  have hval : ∀ (j : Nat) t v, Tryz.f3.params[j]? = some t → args[j]? = some v → Value.okWide Tryz.prog W .any base t v := hval0
  have hW' := hW
  obtain ⟨p, q, hA0, hV0, rfl, hfz, hnd⟩ := hW
  have hA : DataW.TrodAll enc Tryz.prog W 0 (fun _ => true) true Tryz.f3.params.toList args.toList ds p := hA0
  have hV : DataW.TrodVars enc Tryz.prog W (fun _ => true) [] gs q := hV0
  rw [Tryz.params3] at hA hval
  obtain ⟨v0, d0, rfl, rfl, h0⟩ := trodAll_one hA
  obtain ⟨s, rfl, rfl, rfl, hs⟩ := open_string Tryz.underlying9 (hval 0 9 v0 rfl rfl) h0
  obtain ⟨σ, hg⟩ := k_gl hL
  obtain ⟨rfl, rfl⟩ : gs = [] ∧ q = [] := by
    cases gs with
    | nil => exact ⟨rfl, hV⟩
    | cons g r => exact absurd hV (by intro h; cases h)
  have e1 : Rows.storeTakesSpec.fn H ([.lit (.string s.data.toList)] ++ []) = { results := [.lit (.bool true)], args := [.lit (.string s.data.toList)] } := by simp [Rows.storeTakesSpec]
  refine (l34_takes W.heap.size σ s W hg).mono fun e W' ⟨he, hw⟩ => ?_
  subst he
  refine ⟨_, rfl, _, _, _, [], [], [], hW', ?_, ?_, ?_, World.keptBut_mono (fun _ h => h.elim) (World.keptBut_none_iff.2 hw.kept), fun h => by cases h⟩
  · rw [e1]; exact trodAll_mk1 (shut_bool Tryz.underlying4 true)
  · rw [e1]; exact trodAll_mk1 (shut_string Tryz.underlying9 hs)
  · rw [e1]; rfl

theorem storeTakes_named : Tryz.pinned.checked.prog.funcNamed Rows.storeTakesRow.func = some 3 := by kernel_rfl
theorem storeTakes_joined : joinedFacts Tryz.pinned.checked.prog 3 Tryz.f3 Rows.storeTakesSpec Rows.storeTakesRow = true := by kernel_rfl
theorem storeTakes_instance : Tryz.f3.isInstance Tryz.pinned.checked.prog Rows.storeTakesRow.origin Rows.storeTakesRow.targs := of_decide_eq_true (by kernel_rfl)
theorem storeTakes_wrapper : Tryz.f3.isWrapper Tryz.pinned.checked.prog Rows.storeTakesRow.wrapper Rows.storeTakesRow.mainSum := by unfold Func.isWrapper; rw [if_neg (of_decide_eq_false (by kernel_rfl))]; exact ⟨rfl, rfl⟩
theorem storeTakes_said : Rows.StoreTakesSaid :=
  OpenClaim.holds_of_wide 3 Tryz.f3 rfl rfl rfl rfl rfl rfl rfl ⟨rfl, rfl, rfl, rfl, rfl⟩ rfl rfl rfl rfl rfl storeTakes_named Tryz.func3 storeTakes_joined
    storeTakes_instance storeTakes_wrapper
    (fun os started H enc _ => storeTakes_lifted os started H enc)
theorem storeTakes_wf : Rows.storeTakesRow.wfByText (OpenSpec.ofChange Rows.storeTakesSpec) = true := by kernel_rfl
theorem k_main : Tryz.pinned.checked.prog.mainIs = some (Rows.storeTakesCard.stood.harness.1, Rows.storeTakesCard.stood.harness.2.toList) := by kernel_rfl
theorem k_looks : true = Tryz.pinned.checked.prog.looks [] := by kernel_rfl
theorem storeTakes_stand : Tryz.prog.wantsStandIn 9 = false := by kernel_rfl
theorem storeTakes_goes : false = Rows.storeTakesRow.goesBy Tryz.pinned.checked.prog := by kernel_rfl
theorem storeTakes_holds : Rows.StoreTakesCardSaid :=
  Claim7.holds_tied_plain_at .later [] [.handle, .sentinel, .sentinel, .sentinel, .sentinel, .sentinel, .sentinel, .sentinel] true Rows.storeTakesCard.stood.harness true
    storeTakes_said (fun _ h => by cases h) storeTakes_wf (fun _ h => by cases h) storeTakes_row_tie rfl ⟨rfl, rfl⟩ k_main rfl
    (fun f fn hf hfn => by
      obtain rfl : 3 = f := Option.some.inj (storeTakes_named.symm.trans hf)
      obtain rfl : Tryz.f3 = fn := Option.some.inj (Tryz.func3.symm.trans hfn)
      refine ⟨k_looks, fun j t ht => ?_⟩
      rw [Tryz.params3] at ht
      have h3 : t = 9 := by
        rcases j with _ | j
        · simpa using ht.symm
        · simp at ht
      subst h3
      exact storeTakes_stand)
    storeTakes_goes
#print axioms storeTakes_holds
end Go.Proofs.YthokkjdolcfhcaaGreatDoor
