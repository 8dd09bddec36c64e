/-
  The law antipodelaw23.PartDecides returns true for every input, and the input reads as it did. No condition.
-/
import Derived.Test.YtefghfgmkndikaaD5
set_option linter.unusedSimpArgs false
set_option linter.unusedVariables false
namespace Go.Proofs.Ytefghfgmkndikaa
open Go Go.AX Go.ChangeShapes Go.WideShapes Go.ChangeAt Go.RowKit Go.Deep
set_option maxRecDepth 100000 in
theorem partDecides_lift (os : Os) (started : os.Started) (H : Type) (enc : TypeId × Value → H) :
    ReturnsInHanded {} Try.checked os 18 .any (Rows.partDecidesSpec.pre6 enc Try.prog Try.f18 Rows.partDecidesRow.domain false) (Rows.partDecidesSpec.post enc Try.prog Try.f18 false true false false) := by
  refine law_lift (ts := [111]) (tb := 4) Try.func18 (by kernel_rfl) (by kernel_rfl) und4 rfl ?_ (by kernel_rfl) (by kernel_rfl) os started H enc
    (ChangeSpec.witness6 (enc := enc) (C := Try.checked) false ⟨#[], #[.slice none 0 0], []⟩ 8 (by kernel_rfl) (by kernel_rfl) (by kernel_rfl) (by kernel_rfl)) ?_
  · intro H ds hl
    match ds, hl with
    | [_], _ => rfl
  · intro W base vs ds p hval hA
    obtain ⟨v0, vs1, d0, ds1, p0, q0, rfl, rfl, rfl, h0, hA⟩ := trodAll_cons hA
    obtain ⟨rfl, rfl, rfl⟩ := trodAll_nil hA
    obtain ⟨a, c, l, rfl, hF, S⟩ := argCmds (hval 0 111 v0 rfl rfl) h0
    exact decides_ok l _ S hF fun h' e => ⟨rfl, e⟩
theorem partDecides_facts : joinedFacts Try.prog 18 Try.f18 Rows.partDecidesSpec Rows.partDecidesRow = true := by
  unfold joinedFacts
  rw [head3, head4, head5]
  kernel_rfl
theorem partDecides_holds : Rows.PartDecidesSaid :=
  OpenClaim.holds_of_wide 18 Try.f18 rfl rfl rfl rfl rfl rfl rfl ⟨rfl, rfl, rfl, rfl, rfl⟩ rfl rfl rfl rfl rfl (by kernel_rfl) Try.func18 partDecides_facts
    (of_decide_eq_true (by kernel_rfl)) (by unfold Func.isWrapper; first | (rw [if_pos (by decide +kernel)]; kernel_rfl) | (rw [if_neg (by decide +kernel)]; exact ⟨rfl, rfl⟩))
    (fun os started H enc _ => partDecides_lift os started H enc)
#print axioms partDecides_holds
end Go.Proofs.Ytefghfgmkndikaa
