/-
  The law antipodelaw8.MvccAny returns true for every input, and the input reads as it did. No condition.
-/
import Derived.Test.YtefghfgmkndikaaL13
import Derived.Test.YtefghfgmkndikaaM9
set_option linter.unusedSimpArgs false
set_option linter.unusedVariables false
namespace Go.Proofs.Ytefghfgmkndikaa
open Go Go.AX Go.ChangeShapes Go.WideShapes Go.ChangeAt Go.RowKit Go.Deep
set_option maxRecDepth 100000 in
theorem mvccAny_lift (os : Os) (started : os.Started) (H : Type) (enc : TypeId × Value → H) :
    ReturnsInHanded {} Try.checked os 13 .any (Rows.mvccAnySpec.pre6 enc Try.prog Try.f13 Rows.mvccAnyRow.domain false) (Rows.mvccAnySpec.post enc Try.prog Try.f13 false true false false) := by
  refine law_lift (ts := [74, 9, 39, 94, 37, 3, 78]) (tb := 4) Try.func13 (by kernel_rfl) (by kernel_rfl) und4 rfl ?_ (by kernel_rfl) (by kernel_rfl) os started H enc
    (ChangeSpec.witness6 (enc := enc) (C := Try.checked) false ⟨#[], #[.slice none 0 0, .string ⟨#[]⟩, .agg (eStamp ⟨0, 0⟩).toArray, .agg (eSpn ⟨noB, noB⟩).toArray, .agg (eTry ⟨0, 0, 0, 0⟩).toArray, .int .i64 0, .agg (eOp8 ⟨0, w0, l0, false⟩).toArray], []⟩ 8 (by kernel_rfl) (by kernel_rfl) (by kernel_rfl) (by kernel_rfl)) ?_
  · intro H ds hl
    match ds, hl with
    | [_, _, _, _, _, _, _], _ => rfl
  · intro W base vs ds p hval hA
    obtain ⟨v0, vs1, d0, ds1, p0, q0, rfl, rfl, rfl, h0, hA⟩ := trodAll_cons hA
    obtain ⟨v1, vs2, d1, ds2, p1, q1, rfl, rfl, rfl, h1, hA⟩ := trodAll_cons hA
    obtain ⟨v2, vs3, d2, ds3, p2, q2, rfl, rfl, rfl, h2, hA⟩ := trodAll_cons hA
    obtain ⟨v3, vs4, d3, ds4, p3, q3, rfl, rfl, rfl, h3, hA⟩ := trodAll_cons hA
    obtain ⟨v4, vs5, d4, ds5, p4, q4, rfl, rfl, rfl, h4, hA⟩ := trodAll_cons hA
    obtain ⟨v5, vs6, d5, ds6, p5, q5, rfl, rfl, rfl, h5, hA⟩ := trodAll_cons hA
    obtain ⟨v6, vs7, d6, ds7, p6, q6, rfl, rfl, rfl, h6, hA⟩ := trodAll_cons hA
    obtain ⟨rfl, rfl, rfl⟩ := trodAll_nil hA
    obtain ⟨a, c, cs, rfl, hn, hcap, hF, S⟩ := argCells (hval 0 74 v0 rfl rfl) h0
    obtain ⟨x1, rfl⟩ := okWide_string und9 (hval 1 9 v1 rfl rfl)
    obtain ⟨x2, rfl⟩ := open_agg str39 flat39 (fun _ => kdStamp) (hval 2 39 v2 rfl rfl) h2
    obtain ⟨x3, rfl⟩ := open_agg str94 flat94 (fun _ => kdSpn) (hval 3 94 v3 rfl rfl) h3
    obtain ⟨x4, rfl⟩ := open_agg str37 flat37 (fun _ => kdTry) (hval 4 37 v4 rfl rfl) h4
    obtain ⟨x5, rfl⟩ := okWide_int und3 (hval 5 3 v5 rfl rfl)
    obtain ⟨x6, rfl⟩ := open_agg str78 flat78 (fun _ => kdOp8) (hval 6 78 v6 rfl rfl) h6
    exact any_ok cs x1 x2 x3 x4 x5 x6 _ S hn hcap hF fun h' e => ⟨rfl, e⟩
theorem mvccAny_facts : joinedFacts Try.prog 13 Try.f13 Rows.mvccAnySpec Rows.mvccAnyRow = true := by
  unfold joinedFacts
  rw [head3, head4, head5]
  kernel_rfl
theorem mvccAny_holds : Rows.MvccAnySaid :=
  OpenClaim.holds_of_wide 13 Try.f13 rfl rfl rfl rfl rfl rfl rfl ⟨rfl, rfl, rfl, rfl, rfl⟩ rfl rfl rfl rfl rfl (by kernel_rfl) Try.func13 mvccAny_facts
    (of_decide_eq_true (by kernel_rfl)) (by unfold Func.isWrapper; first | (rw [if_pos (by decide +kernel)]; kernel_rfl) | (rw [if_neg (by decide +kernel)]; exact ⟨rfl, rfl⟩))
    (fun os started H enc _ => mvccAny_lift os started H enc)
#print axioms mvccAny_holds
end Go.Proofs.Ytefghfgmkndikaa
