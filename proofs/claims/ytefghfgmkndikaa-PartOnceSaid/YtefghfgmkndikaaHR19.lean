/-
  The law antipodelaw23.PartOnce returns true for every input, and the input reads as it did. No condition.
-/
import Derived.Test.YtefghfgmkndikaaH5
set_option linter.unusedSimpArgs false
set_option linter.unusedVariables false
namespace Go.Proofs.Ytefghfgmkndikaa
open Go Go.AX Go.ChangeShapes Go.WideShapes Go.ChangeAt Go.RowKit Go.Deep
set_option maxRecDepth 100000 in
theorem partOnce_lift (os : Os) (started : os.Started) (H : Type) (enc : TypeId × Value → H) :
    ReturnsInHanded {} Try.checked os 19 .any (Rows.partOnceSpec.pre6 enc Try.prog Try.f19 Rows.partOnceRow.domain false) (Rows.partOnceSpec.post enc Try.prog Try.f19 false true false false) := by
  refine law_lift (ts := [111, 43]) (tb := 4) Try.func19 (by kernel_rfl) (by kernel_rfl) und4 rfl ?_ (by kernel_rfl) (by kernel_rfl) os started H enc
    (ChangeSpec.witness6 (enc := enc) (C := Try.checked) false ⟨#[], #[.slice none 0 0, .agg (eCm ⟨⟨0, 0, 0, 0, ⟨0, 0, 0, 0⟩, ⟨0, 0⟩, 0, false⟩, none, 0, 0, none, 0, 0⟩).toArray], []⟩ 8 (by kernel_rfl) (by kernel_rfl) (by kernel_rfl) (by kernel_rfl)) ?_
  · intro H ds hl
    match ds, hl with
    | [_, _], _ => rfl
  · intro W base vs ds p hval hA
    obtain ⟨v0, vs1, d0, ds1, p0, q0, rfl, rfl, rfl, h0, hA⟩ := trodAll_cons hA
    obtain ⟨v1, vs2, d1, ds2, p1, q1, rfl, rfl, rfl, h1, hA⟩ := trodAll_cons hA
    obtain ⟨rfl, rfl, rfl⟩ := trodAll_nil hA
    obtain ⟨a, c, l, rfl, hF, S⟩ := argCmds (hval 0 111 v0 rfl rfl) h0
    obtain ⟨cv, c0, rfl, C, F1, F2⟩ := argCmd (hval 1 43 v1 rfl rfl) h1
    exact twice_ok l cv c0 _ S hF C F1 F2 fun h' e => ⟨rfl, e⟩
theorem partOnce_facts : joinedFacts Try.prog 19 Try.f19 Rows.partOnceSpec Rows.partOnceRow = true := by
  unfold joinedFacts
  rw [head3, head4, head5]
  kernel_rfl
theorem partOnce_holds : Rows.PartOnceSaid :=
  OpenClaim.holds_of_wide 19 Try.f19 rfl rfl rfl rfl rfl rfl rfl ⟨rfl, rfl, rfl, rfl, rfl⟩ rfl rfl rfl rfl rfl (by kernel_rfl) Try.func19 partOnce_facts
    (of_decide_eq_true (by kernel_rfl)) (by unfold Func.isWrapper; first | (rw [if_pos (by decide +kernel)]; kernel_rfl) | (rw [if_neg (by decide +kernel)]; exact ⟨rfl, rfl⟩))
    (fun os started H enc _ => partOnce_lift os started H enc)
#print axioms partOnce_holds
end Go.Proofs.Ytefghfgmkndikaa
