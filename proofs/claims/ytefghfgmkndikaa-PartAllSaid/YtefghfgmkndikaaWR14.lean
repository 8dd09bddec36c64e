/-
  The law antipodelaw23.PartAll returns true for every input, and the input reads as it did. No condition.
-/
import Derived.Test.YtefghfgmkndikaaW7
set_option linter.unusedSimpArgs false
set_option linter.unusedVariables false
open Nat renaming reduceEqDiff → Z1, reduceAdd → Z2, reduceMul → Z3, reduceLT → Z4, reduceLeDiff → Z5, le_of_ble_eq_true → Lb
namespace Go.Proofs.Ytefghfgmkndikaa
open Go Go.AX Go.ChangeShapes Go.WideShapes Go.ChangeAt Go.RowKit Go.Deep
theorem und112 : Try.prog.underlying 112 = some (.slice 4) := by kernel_rfl
theorem sz4' : Try.prog.cellsOf 4 = 1 := by kernel_rfl
theorem kdBl {cs : List Value} (h0 : All2 kdV [.b] cs) : ∃ x : Bool,cs = eBl x := kdB h0
set_option maxRecDepth 100000 in
theorem partAll_lift (os : Os) (started : os.Started) (H : Type) (enc : TypeId × Value → H) :
  ReturnsInHanded {} Try.checked os 14 .any (Rows.partAllSpec.pre6 enc Try.prog Try.f14 Rows.partAllRow.domain false) (Rows.partAllSpec.post enc Try.prog Try.f14 false true false false) := by
 refine law_lift (ts := [111,112]) (tb := 4) Try.func14 (by kernel_rfl) (by kernel_rfl) und4 rfl ?_ (by kernel_rfl) (by kernel_rfl) os started H enc
  (ChangeSpec.witness6 (enc := enc) (C := Try.checked) false ⟨#[], #[.slice none 0 0,.slice none 0 0],[]⟩ 8 (by kernel_rfl) (by kernel_rfl) (by kernel_rfl) (by kernel_rfl)) ?_
 ·intro H ds hl
  match ds,hl with
  | [_,_],_ => rfl
 ·intro W base vs ds p hval hA
  obtain ⟨v0,vs1,d0,ds1,p0,q0,rfl,rfl,rfl,h0,hA⟩ := trodAll_cons hA
  obtain ⟨v1,vs2,d1,ds2,p1,q1,rfl,rfl,rfl,h1,hA⟩ := trodAll_cons hA
  obtain ⟨rfl,rfl,rfl⟩ := trodAll_nil hA
  obtain ⟨a,c,l,rfl,hF,S⟩ := argCmds (hval 0 111 v0 rfl rfl) h0
  obtain ⟨ab,cb,bs,rfl,hbn,hbcap,SB⟩ := argFlat und112 flat4 (by kernel_rfl) (by decide) (fun _ => kdBl) eBl_len (hval 1 112 v1 rfl rfl) h1
  exact allPt_ok l bs _ S hF SB hbn fun h' e => ⟨rfl,e⟩
theorem partAll_facts : joinedFacts Try.prog 14 Try.f14 Rows.partAllSpec Rows.partAllRow = true := by
 unfold joinedFacts
 rw [head3,head4,head5]
 kernel_rfl
theorem partAll_holds : Rows.PartAllSaid :=
 OpenClaim.holds_of_wide 14 Try.f14 rfl rfl rfl rfl rfl rfl rfl ⟨rfl,rfl,rfl,rfl,rfl⟩ rfl rfl rfl rfl rfl (by kernel_rfl) Try.func14 partAll_facts
  (of_decide_eq_true (by kernel_rfl)) (by unfold Func.isWrapper; first | (rw [if_pos (by decide +kernel)]; kernel_rfl) | (rw [if_neg (by decide +kernel)]; exact ⟨rfl,rfl⟩))
  (fun os started H enc _ => partAll_lift os started H enc)
#print axioms partAll_holds
end Go.Proofs.Ytefghfgmkndikaa
