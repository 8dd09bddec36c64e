/-
  The law antipodelaw23.PartAny returns true for every input, and the input reads as it did. No condition.
-/
import Derived.Test.YtefghfgmkndikaaV7
set_option linter.unusedSimpArgs false
set_option linter.unusedVariables false
open Nat renaming reduceEqDiff → Z1, reduceAdd → Z2, reduceMul → Z3, reduceLT → Z4, reduceLeDiff → Z5, le_of_ble_eq_true → Lb
namespace Go.Proofs.Ytefghfgmkndikaa
open Go Go.AX Go.ChangeShapes Go.WideShapes Go.ChangeAt Go.RowKit Go.Deep
set_option maxRecDepth 100000 in
theorem partAny_lift (os : Os) (started : os.Started) (H : Type) (enc : TypeId × Value → H) :
  ReturnsInHanded {} Try.checked os 15 .any (Rows.partAnySpec.pre6 enc Try.prog Try.f15 Rows.partAnyRow.domain false) (Rows.partAnySpec.post enc Try.prog Try.f15 false true false false) := by
 refine law_lift (ts := [116,43,4,37]) (tb := 4) Try.func15 (by kernel_rfl) (by kernel_rfl) und4 rfl ?_ (by kernel_rfl) (by kernel_rfl) os started H enc
  (ChangeSpec.witness6 (enc := enc) (C := Try.checked) false ⟨#[], #[.agg (ePr zPr).toArray,.agg (eCm ⟨⟨0,0,0,0,⟨0,0,0,0⟩,⟨0,0⟩,0,false⟩,none,0,0,none,0,0⟩).toArray,.bool false,.agg (eTry ⟨0,0,0,0⟩).toArray],[]⟩ 8 (by kernel_rfl) (by kernel_rfl) (by kernel_rfl) (by kernel_rfl)) ?_
 ·intro H ds hl
  match ds,hl with
  | [_,_,_,_],_ => rfl
 ·intro W base vs ds p hval hA
  obtain ⟨v0,vs1,d0,ds1,p0,q0,rfl,rfl,rfl,h0,hA⟩ := trodAll_cons hA
  obtain ⟨v1,vs2,d1,ds2,p1,q1,rfl,rfl,rfl,h1,hA⟩ := trodAll_cons hA
  obtain ⟨v2,vs3,d2,ds3,p2,q2,rfl,rfl,rfl,h2,hA⟩ := trodAll_cons hA
  obtain ⟨v3,vs4,d3,ds4,p3,q3,rfl,rfl,rfl,h3,hA⟩ := trodAll_cons hA
  obtain ⟨rfl,rfl,rfl⟩ := trodAll_nil hA
  obtain ⟨pv,p0,rfl,P,G1,G2,G3,G4⟩ := argPart (hval 0 116 v0 rfl rfl) h0
  obtain ⟨cv,c0,rfl,C,F1,F2⟩ := argCmd (hval 1 43 v1 rfl rfl) h1
  obtain ⟨x2,rfl⟩ := okWide_bool und4 (hval 2 4 v2 rfl rfl)
  obtain ⟨x3,rfl⟩ := open_agg str37 flat37 (fun _ => kdTry) (hval 3 37 v3 rfl rfl) h3
  exact anyP_ok pv p0 cv c0 x2 x3 _ P G1 G2 G3 G4 C F1 F2 fun h' e => ⟨rfl,e⟩
theorem partAny_facts : joinedFacts Try.prog 15 Try.f15 Rows.partAnySpec Rows.partAnyRow = true := by
 unfold joinedFacts
 rw [head3,head4,head5]
 kernel_rfl
theorem partAny_holds : Rows.PartAnySaid :=
 OpenClaim.holds_of_wide 15 Try.f15 rfl rfl rfl rfl rfl rfl rfl ⟨rfl,rfl,rfl,rfl,rfl⟩ rfl rfl rfl rfl rfl (by kernel_rfl) Try.func15 partAny_facts
  (of_decide_eq_true (by kernel_rfl)) (by unfold Func.isWrapper; first | (rw [if_pos (by decide +kernel)]; kernel_rfl) | (rw [if_neg (by decide +kernel)]; exact ⟨rfl,rfl⟩))
  (fun os started H enc _ => partAny_lift os started H enc)
#print axioms partAny_holds
end Go.Proofs.Ytefghfgmkndikaa
