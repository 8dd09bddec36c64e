/-
  The law antipodelaw8.MvccTurns returns true for every input, and the input reads as it did. No condition.
-/
import Derived.Test.YtefghfgmkndikaaL7
import Derived.Test.YtefghfgmkndikaaFP
import Derived.Test.YtefghfgmkndikaaFN
set_option linter.unusedSimpArgs false
set_option linter.unusedVariables false
namespace Go.Proofs.Ytefghfgmkndikaa
open Go Go.AX Go.ChangeShapes Go.WideShapes Go.ChangeAt Go.RowKit Go.Deep
set_option maxRecDepth 100000 in
theorem mvccTurns_lift (os : Os) (started : os.Started) (H : Type) (enc : TypeId × Value → H) :
    ReturnsInHanded {} Try.checked os 7 .any (Rows.mvccTurnsSpec.pre6 enc Try.prog Try.f7 Rows.mvccTurnsRow.domain false) (Rows.mvccTurnsSpec.post enc Try.prog Try.f7 false true false false) := by
  refine law_lift (ts := [68, 37, 37, 4, 4]) (tb := 4) Try.func7 (by kernel_rfl) (by kernel_rfl) und4 rfl ?_ (by kernel_rfl) (by kernel_rfl) os started H enc
    (ChangeSpec.witness6 (enc := enc) (C := Try.checked) false ⟨#[], #[.slice none 0 0, .agg (eTry ⟨0, 0, 0, 0⟩).toArray, .agg (eTry ⟨0, 0, 0, 0⟩).toArray, .bool false, .bool false], []⟩ 8 (by kernel_rfl) (by kernel_rfl) (by kernel_rfl) (by kernel_rfl)) ?_
  · intro H ds hl
    match ds, hl with
    | [_, _, _, _, _], _ => rfl
  · intro W base vs ds p hval hA
    obtain ⟨v0, vs1, d0, ds1, p0, q0, rfl, rfl, rfl, h0, hA⟩ := trodAll_cons hA
    obtain ⟨v1, vs2, d1, ds2, p1, q1, rfl, rfl, rfl, h1, hA⟩ := trodAll_cons hA
    obtain ⟨v2, vs3, d2, ds3, p2, q2, rfl, rfl, rfl, h2, hA⟩ := trodAll_cons hA
    obtain ⟨v3, vs4, d3, ds4, p3, q3, rfl, rfl, rfl, h3, hA⟩ := trodAll_cons hA
    obtain ⟨v4, vs5, d4, ds5, p4, q4, rfl, rfl, rfl, h4, hA⟩ := trodAll_cons hA
    obtain ⟨rfl, rfl, rfl⟩ := trodAll_nil hA
    obtain ⟨a, c, ops, rfl, hn, hcap, S⟩ := argFlat und68 flat78 (by kernel_rfl) (by decide) (fun _ => kdOp8) eOp8_len (hval 0 68 v0 rfl rfl) h0
    obtain ⟨x1, rfl⟩ := open_agg str37 flat37 (fun _ => kdTry) (hval 1 37 v1 rfl rfl) h1
    obtain ⟨x2, rfl⟩ := open_agg str37 flat37 (fun _ => kdTry) (hval 2 37 v2 rfl rfl) h2
    obtain ⟨x3, rfl⟩ := okWide_bool und4 (hval 3 4 v3 rfl rfl)
    obtain ⟨x4, rfl⟩ := okWide_bool und4 (hval 4 4 v4 rfl rfl)
    exact turns_ok ops x1 x2 x3 x4 _ S hn fun h' e => ⟨rfl, e⟩
theorem mvccTurns_facts : joinedFacts Try.prog 7 Try.f7 Rows.mvccTurnsSpec Rows.mvccTurnsRow = true := by
  unfold joinedFacts
  rw [head3, head4, head5]
  kernel_rfl
theorem mvccTurns_holds : Rows.MvccTurnsSaid :=
  OpenClaim.holds_of_wide 7 Try.f7 rfl rfl rfl rfl rfl rfl rfl ⟨rfl, rfl, rfl, rfl, rfl⟩ rfl rfl rfl rfl rfl (by kernel_rfl) Try.func7 mvccTurns_facts
    (of_decide_eq_true (by kernel_rfl)) (by unfold Func.isWrapper; first | (rw [if_pos (by decide +kernel)]; kernel_rfl) | (rw [if_neg (by decide +kernel)]; exact ⟨rfl, rfl⟩))
    (fun os started H enc _ => mvccTurns_lift os started H enc)
#print axioms mvccTurns_holds
end Go.Proofs.Ytefghfgmkndikaa
