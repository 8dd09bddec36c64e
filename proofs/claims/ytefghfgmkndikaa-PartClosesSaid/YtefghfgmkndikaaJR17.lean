/-
  The law antipodelaw23.PartCloses returns true for every input, and the input reads as it did. No condition.
-/
import Derived.Test.YtefghfgmkndikaaJ6
set_option linter.unusedSimpArgs false
set_option linter.unusedVariables false
namespace Go.Proofs.Ytefghfgmkndikaa
open Go Go.AX Go.ChangeShapes Go.WideShapes Go.ChangeAt Go.RowKit Go.Deep
set_option maxRecDepth 100000 in
theorem partCloses_lift (os : Os) (started : os.Started) (H : Type) (enc : TypeId × Value → H) :
    ReturnsInHanded {} Try.checked os 17 .any (Rows.partClosesSpec.pre6 enc Try.prog Try.f17 Rows.partClosesRow.domain false) (Rows.partClosesSpec.post enc Try.prog Try.f17 false true false false) := by
  refine law_lift (ts := [111, 3, 2, 94]) (tb := 4) Try.func17 (by kernel_rfl) (by kernel_rfl) und4 rfl ?_ (by kernel_rfl) (by kernel_rfl) os started H enc
    (ChangeSpec.witness6 (enc := enc) (C := Try.checked) false ⟨#[], #[.slice none 0 0, .int .i64 0, .int .i64 0, .agg (eSpn ⟨noB, noB⟩).toArray], []⟩ 8 (by kernel_rfl) (by kernel_rfl) (by kernel_rfl) (by kernel_rfl)) ?_
  · intro H ds hl
    match ds, hl with
    | [_, _, _, _], _ => rfl
  · intro W base vs ds p hval hA
    obtain ⟨v0, vs1, d0, ds1, p0, q0, rfl, rfl, rfl, h0, hA⟩ := trodAll_cons hA
    obtain ⟨v1, vs2, d1, ds2, p1, q1, rfl, rfl, rfl, h1, hA⟩ := trodAll_cons hA
    obtain ⟨v2, vs3, d2, ds3, p2, q2, rfl, rfl, rfl, h2, hA⟩ := trodAll_cons hA
    obtain ⟨v3, vs4, d3, ds4, p3, q3, rfl, rfl, rfl, h3, hA⟩ := trodAll_cons hA
    obtain ⟨rfl, rfl, rfl⟩ := trodAll_nil hA
    obtain ⟨a, c, l, rfl, hF, S⟩ := argCmds (hval 0 111 v0 rfl rfl) h0
    obtain ⟨x1, rfl⟩ := okWide_int und3 (hval 1 3 v1 rfl rfl)
    obtain ⟨x2, rfl⟩ := okWide_int und2 (hval 2 2 v2 rfl rfl)
    obtain ⟨x3, rfl⟩ := open_agg str94 flat94 (fun _ => kdSpn) (hval 3 94 v3 rfl rfl) h3
    exact closes_ok l x1 x2 x3 _ S hF fun h' e => ⟨rfl, e⟩
theorem partCloses_facts : joinedFacts Try.prog 17 Try.f17 Rows.partClosesSpec Rows.partClosesRow = true := by
  unfold joinedFacts
  rw [head3, head4, head5]
  kernel_rfl
theorem partCloses_holds : Rows.PartClosesSaid :=
  OpenClaim.holds_of_wide 17 Try.f17 rfl rfl rfl rfl rfl rfl rfl ⟨rfl, rfl, rfl, rfl, rfl⟩ rfl rfl rfl rfl rfl (by kernel_rfl) Try.func17 partCloses_facts
    (of_decide_eq_true (by kernel_rfl)) (by unfold Func.isWrapper; first | (rw [if_pos (by decide +kernel)]; kernel_rfl) | (rw [if_neg (by decide +kernel)]; exact ⟨rfl, rfl⟩))
    (fun os started H enc _ => partCloses_lift os started H enc)
#print axioms partCloses_holds
end Go.Proofs.Ytefghfgmkndikaa
