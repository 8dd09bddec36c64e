/-
  The law antipodelaw8.MvccScans returns true for every input, and the input reads as it did. No condition.
-/
import Derived.Test.YtefghfgmkndikaaL11
import Derived.Test.YtefghfgmkndikaaFP
import Derived.Test.YtefghfgmkndikaaFN
set_option linter.unusedSimpArgs false
set_option linter.unusedVariables false
namespace Go.Proofs.Ytefghfgmkndikaa
open Go Go.AX Go.ChangeShapes Go.WideShapes Go.ChangeAt Go.RowKit Go.Deep
set_option maxRecDepth 100000 in
theorem mvccScans_lift (os : Os) (started : os.Started) (H : Type) (enc : TypeId × Value → H) :
    ReturnsInHanded {} Try.checked os 11 .any (Rows.mvccScansSpec.pre6 enc Try.prog Try.f11 Rows.mvccScansRow.domain false) (Rows.mvccScansSpec.post enc Try.prog Try.f11 false true false false) := by
  refine law_lift (ts := [68, 94, 39]) (tb := 4) Try.func11 (by kernel_rfl) (by kernel_rfl) und4 rfl ?_ (by kernel_rfl) (by kernel_rfl) os started H enc
    (ChangeSpec.witness6 (enc := enc) (C := Try.checked) false ⟨#[], #[.slice none 0 0, .agg (eSpn ⟨noB, noB⟩).toArray, .agg (eStamp ⟨0, 0⟩).toArray], []⟩ 8 (by kernel_rfl) (by kernel_rfl) (by kernel_rfl) (by kernel_rfl)) ?_
  · intro H ds hl
    match ds, hl with
    | [_, _, _], _ => rfl
  · intro W base vs ds p hval hA
    obtain ⟨v0, vs1, d0, ds1, p0, q0, rfl, rfl, rfl, h0, hA⟩ := trodAll_cons hA
    obtain ⟨v1, vs2, d1, ds2, p1, q1, rfl, rfl, rfl, h1, hA⟩ := trodAll_cons hA
    obtain ⟨v2, vs3, d2, ds3, p2, q2, rfl, rfl, rfl, h2, hA⟩ := trodAll_cons hA
    obtain ⟨rfl, rfl, rfl⟩ := trodAll_nil hA
    obtain ⟨a, c, ops, rfl, hn, hcap, S⟩ := argFlat und68 flat78 (by kernel_rfl) (by decide) (fun _ => kdOp8) eOp8_len (hval 0 68 v0 rfl rfl) h0
    obtain ⟨x1, rfl⟩ := open_agg str94 flat94 (fun _ => kdSpn) (hval 1 94 v1 rfl rfl) h1
    obtain ⟨x2, rfl⟩ := open_agg str39 flat39 (fun _ => kdStamp) (hval 2 39 v2 rfl rfl) h2
    exact scans_ok ops x1 x2 _ S hn fun h' e => ⟨rfl, e⟩
theorem mvccScans_facts : joinedFacts Try.prog 11 Try.f11 Rows.mvccScansSpec Rows.mvccScansRow = true := by
  unfold joinedFacts
  rw [head3, head4, head5]
  kernel_rfl
theorem mvccScans_holds : Rows.MvccScansSaid :=
  OpenClaim.holds_of_wide 11 Try.f11 rfl rfl rfl rfl rfl rfl rfl ⟨rfl, rfl, rfl, rfl, rfl⟩ rfl rfl rfl rfl rfl (by kernel_rfl) Try.func11 mvccScans_facts
    (of_decide_eq_true (by kernel_rfl)) (by unfold Func.isWrapper; first | (rw [if_pos (by decide +kernel)]; kernel_rfl) | (rw [if_neg (by decide +kernel)]; exact ⟨rfl, rfl⟩))
    (fun os started H enc _ => mvccScans_lift os started H enc)
#print axioms mvccScans_holds
end Go.Proofs.Ytefghfgmkndikaa
