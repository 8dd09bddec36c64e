/-
  The law antipodelaw23.PartEpochs returns true for every input, and the input reads as it did. No condition.
-/
import Derived.Test.YtefghfgmkndikaaE5
set_option linter.unusedSimpArgs false
set_option linter.unusedVariables false
namespace Go.Proofs.Ytefghfgmkndikaa
open Go Go.AX Go.ChangeShapes Go.WideShapes Go.ChangeAt Go.RowKit Go.Deep
set_option maxRecDepth 100000 in
theorem partEpochs_lift (os : Os) (started : os.Started) (H : Type) (enc : TypeId × Value → H) :
    ReturnsInHanded {} Try.checked os 21 .any (Rows.partEpochsSpec.pre6 enc Try.prog Try.f21 Rows.partEpochsRow.domain false) (Rows.partEpochsSpec.post enc Try.prog Try.f21 false true false false) := by
  refine law_lift (ts := [111, 43, 3]) (tb := 4) Try.func21 (by kernel_rfl) (by kernel_rfl) und4 rfl ?_ (by kernel_rfl) (by kernel_rfl) os started H enc
    (ChangeSpec.witness6 (enc := enc) (C := Try.checked) false ⟨#[], #[.slice none 0 0, .agg (eCm ⟨⟨0, 0, 0, 0, ⟨0, 0, 0, 0⟩, ⟨0, 0⟩, 0, false⟩, none, 0, 0, none, 0, 0⟩).toArray, .int .i64 0], []⟩ 8 (by kernel_rfl) (by kernel_rfl) (by kernel_rfl) (by kernel_rfl)) ?_
  · intro H ds hl
    match ds, hl with
    | [_, _, _], _ => rfl
  · intro W base vs ds p hval hA
    obtain ⟨v0, vs1, d0, ds1, p0, q0, rfl, rfl, rfl, h0, hA⟩ := trodAll_cons hA
    obtain ⟨v1, vs2, d1, ds2, p1, q1, rfl, rfl, rfl, h1, hA⟩ := trodAll_cons hA
    obtain ⟨v2, vs3, d2, ds3, p2, q2, rfl, rfl, rfl, h2, hA⟩ := trodAll_cons hA
    obtain ⟨rfl, rfl, rfl⟩ := trodAll_nil hA
    obtain ⟨a, c, l, rfl, hF, S⟩ := argCmds (hval 0 111 v0 rfl rfl) h0
    obtain ⟨cv, c0, rfl, C, F1, F2⟩ := argCmd (hval 1 43 v1 rfl rfl) h1
    obtain ⟨x2, rfl⟩ := okWide_int und3 (hval 2 3 v2 rfl rfl)
    exact epochs_ok l cv c0 x2 _ S hF C F1 F2 fun h' e => ⟨rfl, e⟩
theorem partEpochs_facts : joinedFacts Try.prog 21 Try.f21 Rows.partEpochsSpec Rows.partEpochsRow = true := by
  unfold joinedFacts
  rw [head3, head4, head5]
  kernel_rfl
theorem partEpochs_holds : Rows.PartEpochsSaid :=
  OpenClaim.holds_of_wide 21 Try.f21 rfl rfl rfl rfl rfl rfl rfl ⟨rfl, rfl, rfl, rfl, rfl⟩ rfl rfl rfl rfl rfl (by kernel_rfl) Try.func21 partEpochs_facts
    (of_decide_eq_true (by kernel_rfl)) (by unfold Func.isWrapper; first | (rw [if_pos (by decide +kernel)]; kernel_rfl) | (rw [if_neg (by decide +kernel)]; exact ⟨rfl, rfl⟩))
    (fun os started H enc _ => partEpochs_lift os started H enc)
#print axioms partEpochs_holds
end Go.Proofs.Ytefghfgmkndikaa
