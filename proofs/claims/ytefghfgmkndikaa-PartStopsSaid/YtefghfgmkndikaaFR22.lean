/-
  The law antipodelaw23.PartStops returns true for every input, and the input reads as it did. No condition.
-/
import Derived.Test.YtefghfgmkndikaaF5
set_option linter.unusedSimpArgs false
set_option linter.unusedVariables false
namespace Go.Proofs.Ytefghfgmkndikaa
open Go Go.AX Go.ChangeShapes Go.WideShapes Go.ChangeAt Go.RowKit Go.Deep
set_option maxRecDepth 100000 in
theorem partStops_lift (os : Os) (started : os.Started) (H : Type) (enc : TypeId × Value → H) :
    ReturnsInHanded {} Try.checked os 22 .any (Rows.partStopsSpec.pre6 enc Try.prog Try.f22 Rows.partStopsRow.domain false) (Rows.partStopsSpec.post enc Try.prog Try.f22 false true false false) := by
  refine law_lift (ts := [111, 37, 39, 70]) (tb := 4) Try.func22 (by kernel_rfl) (by kernel_rfl) und4 rfl ?_ (by kernel_rfl) (by kernel_rfl) os started H enc
    (ChangeSpec.witness6 (enc := enc) (C := Try.checked) false ⟨#[], #[.slice none 0 0, .agg (eTry ⟨0, 0, 0, 0⟩).toArray, .agg (eStamp ⟨0, 0⟩).toArray, .agg (eWri w0).toArray], []⟩ 8 (by kernel_rfl) (by kernel_rfl) (by kernel_rfl) (by kernel_rfl)) ?_
  · intro H ds hl
    match ds, hl with
    | [_, _, _, _], _ => rfl
  · intro W base vs ds p hval hA
    obtain ⟨v0, vs1, d0, ds1, p0, q0, rfl, rfl, rfl, h0, hA⟩ := trodAll_cons hA
    obtain ⟨v1, vs2, d1, ds2, p1, q1, rfl, rfl, rfl, h1, hA⟩ := trodAll_cons hA
    obtain ⟨v2, vs3, d2, ds3, p2, q2, rfl, rfl, rfl, h2, hA⟩ := trodAll_cons hA
    obtain ⟨v3, vs4, d3, ds4, p3, q3, rfl, rfl, rfl, h3, hA⟩ := trodAll_cons hA
    obtain ⟨rfl, rfl, rfl⟩ := trodAll_nil hA
    obtain ⟨a, c, l, rfl, hF, S⟩ := argCmds (hval 0 111 v0 rfl rfl) h0
    obtain ⟨x1, rfl⟩ := open_agg str37 flat37 (fun _ => kdTry) (hval 1 37 v1 rfl rfl) h1
    obtain ⟨x2, rfl⟩ := open_agg str39 flat39 (fun _ => kdStamp) (hval 2 39 v2 rfl rfl) h2
    obtain ⟨x3, rfl⟩ := open_agg str70 flat70 (fun _ => kdWri) (hval 3 70 v3 rfl rfl) h3
    exact stops_ok l x1 x2 x3 _ S hF fun h' e => ⟨rfl, e⟩
theorem partStops_facts : joinedFacts Try.prog 22 Try.f22 Rows.partStopsSpec Rows.partStopsRow = true := by
  unfold joinedFacts
  rw [head3, head4, head5]
  kernel_rfl
theorem partStops_holds : Rows.PartStopsSaid :=
  OpenClaim.holds_of_wide 22 Try.f22 rfl rfl rfl rfl rfl rfl rfl ⟨rfl, rfl, rfl, rfl, rfl⟩ rfl rfl rfl rfl rfl (by kernel_rfl) Try.func22 partStops_facts
    (of_decide_eq_true (by kernel_rfl)) (by unfold Func.isWrapper; first | (rw [if_pos (by decide +kernel)]; kernel_rfl) | (rw [if_neg (by decide +kernel)]; exact ⟨rfl, rfl⟩))
    (fun os started H enc _ => partStops_lift os started H enc)
#print axioms partStops_holds
end Go.Proofs.Ytefghfgmkndikaa
