/-
  The law antipodelaw23.PartSettled returns true for every input, and the input reads as it did. No condition.
-/
import Derived.Test.YtefghfgmkndikaaG5
set_option linter.unusedSimpArgs false
set_option linter.unusedVariables false
namespace Go.Proofs.Ytefghfgmkndikaa
open Go Go.AX Go.ChangeShapes Go.WideShapes Go.ChangeAt Go.RowKit Go.Deep
set_option maxRecDepth 100000 in
theorem partSettled_lift (os : Os) (started : os.Started) (H : Type) (enc : TypeId × Value → H) :
    ReturnsInHanded {} Try.checked os 23 .any (Rows.partSettledSpec.pre6 enc Try.prog Try.f23 Rows.partSettledRow.domain false) (Rows.partSettledSpec.post enc Try.prog Try.f23 false true false false) := by
  refine law_lift (ts := [111, 37, 39, 70, 4, 39]) (tb := 4) Try.func23 (by kernel_rfl) (by kernel_rfl) und4 rfl ?_ (by kernel_rfl) (by kernel_rfl) os started H enc
    (ChangeSpec.witness6 (enc := enc) (C := Try.checked) false ⟨#[], #[.slice none 0 0, .agg (eTry ⟨0, 0, 0, 0⟩).toArray, .agg (eStamp ⟨0, 0⟩).toArray, .agg (eWri w0).toArray, .bool false, .agg (eStamp ⟨0, 0⟩).toArray], []⟩ 8 (by kernel_rfl) (by kernel_rfl) (by kernel_rfl) (by kernel_rfl)) ?_
  · intro H ds hl
    match ds, hl with
    | [_, _, _, _, _, _], _ => rfl
  · intro W base vs ds p hval hA
    obtain ⟨v0, vs1, d0, ds1, p0, q0, rfl, rfl, rfl, h0, hA⟩ := trodAll_cons hA
    obtain ⟨v1, vs2, d1, ds2, p1, q1, rfl, rfl, rfl, h1, hA⟩ := trodAll_cons hA
    obtain ⟨v2, vs3, d2, ds3, p2, q2, rfl, rfl, rfl, h2, hA⟩ := trodAll_cons hA
    obtain ⟨v3, vs4, d3, ds4, p3, q3, rfl, rfl, rfl, h3, hA⟩ := trodAll_cons hA
    obtain ⟨v4, vs5, d4, ds5, p4, q4, rfl, rfl, rfl, h4, hA⟩ := trodAll_cons hA
    obtain ⟨v5, vs6, d5, ds6, p5, q5, rfl, rfl, rfl, h5, hA⟩ := trodAll_cons hA
    obtain ⟨rfl, rfl, rfl⟩ := trodAll_nil hA
    obtain ⟨a, c, l, rfl, hF, S⟩ := argCmds (hval 0 111 v0 rfl rfl) h0
    obtain ⟨x1, rfl⟩ := open_agg str37 flat37 (fun _ => kdTry) (hval 1 37 v1 rfl rfl) h1
    obtain ⟨x2, rfl⟩ := open_agg str39 flat39 (fun _ => kdStamp) (hval 2 39 v2 rfl rfl) h2
    obtain ⟨x3, rfl⟩ := open_agg str70 flat70 (fun _ => kdWri) (hval 3 70 v3 rfl rfl) h3
    obtain ⟨x4, rfl⟩ := okWide_bool und4 (hval 4 4 v4 rfl rfl)
    obtain ⟨x5, rfl⟩ := open_agg str39 flat39 (fun _ => kdStamp) (hval 5 39 v5 rfl rfl) h5
    exact settled_ok l x1 x2 x3 x4 x5 _ S hF fun h' e => ⟨rfl, e⟩
theorem partSettled_facts : joinedFacts Try.prog 23 Try.f23 Rows.partSettledSpec Rows.partSettledRow = true := by
  unfold joinedFacts
  rw [head3, head4, head5]
  kernel_rfl
theorem partSettled_holds : Rows.PartSettledSaid :=
  OpenClaim.holds_of_wide 23 Try.f23 rfl rfl rfl rfl rfl rfl rfl ⟨rfl, rfl, rfl, rfl, rfl⟩ rfl rfl rfl rfl rfl (by kernel_rfl) Try.func23 partSettled_facts
    (of_decide_eq_true (by kernel_rfl)) (by unfold Func.isWrapper; first | (rw [if_pos (by decide +kernel)]; kernel_rfl) | (rw [if_neg (by decide +kernel)]; exact ⟨rfl, rfl⟩))
    (fun os started H enc _ => partSettled_lift os started H enc)
#print axioms partSettled_holds
end Go.Proofs.Ytefghfgmkndikaa
