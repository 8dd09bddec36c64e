/-
  Walks: what cells tell.
-/
import Derived.Test.YtefghfgmkndikaaW3
import Derived.Test.YtefghfgmkndikaaGB
import Derived.Test.YtefghfgmkndikaaGC
import Derived.Test.YtefghfgmkndikaaGD
import Derived.Test.YtefghfgmkndikaaGE
set_option linter.unusedSimpArgs false
set_option linter.unusedVariables false
namespace Go.Proofs.Ytefghfgmkndikaa
open Go Go.AX

/-- Get by the key's place. -/
def getK (cs : List Cell) (key : ByteArray) (t : Stamp) : ByteArray × Bool := match cs[lbK cs key]? with | some c => if c.key = key then tellV c.vers t else (noB, false) | none => (noB, false)
/-- All rows of versions may be counted. -/
def Fit (cs : List Cell) : Prop := ∀ c ∈ cs, c.vers.length ≤ maxLen
theorem Fit.get {cs : List Cell} (F : Fit cs) {i : Nat} {c : Cell} (h : cs[i]? = some c) : c.vers.length ≤ maxLen := F c (List.mem_of_getElem? h)

theorem get_ok {B : Nat → Prop} {a : Option Addr} {cap : Nat} (cs : List Cell) (key : ByteArray) (t : Stamp) (h : Heap) (S : SlC B h a cs) (hs : Sorted cs) (hn : cs.length ≤ maxLen) (F : Fit cs) {R : Value → Heap → Prop}
    (hR : ∀ h', Ext h h' → R (.tuple #[.string (getK cs key t).1, .bool (getK cs key t).2]) h') : CallsH Try.prog 41 [.slice a cs.length cap, .string key, .agg (eStamp t).toArray] h R := by
  refine f41ok (by simp) ?_
  simp (disch := first | exact Nat.le_of_ble_eq_true rfl | omega) only [AXR, AXB, J.dst, reduceIte, Nat.reduceEqDiff, Nat.reduceAdd, Nat.reduceMul, Nat.reduceLT, Nat.reduceLeDiff, f41r0, f41r1, f41r2, f41r3, f41r4, f41c4_eq, f41c5_eq, f41c3_eq, f41c2_eq, f41c1_eq, f41c0_eq]
  refine wL_boxN rfl ?_; rintro b1 h1 e1 s1 hb1 (B1 : Blk _ _ _ (eStamp t))
  simp (disch := first | exact Nat.le_of_ble_eq_true rfl | omega) only [AXR, AXB, J.dst, reduceIte, Nat.reduceEqDiff, Nat.reduceAdd, Nat.reduceMul, Nat.reduceLT, Nat.reduceLeDiff, f41r0, f41r1, f41r2, f41r3, f41r4, f41c4_eq, f41c5_eq, f41c3_eq, f41c2_eq, f41c1_eq, f41c0_eq]
  refine find_ok cs key _ (S.ext e1) hs hn ?_
  intro h2 e2
  replace B1 := B1.ext e2
  simp (disch := first | exact Nat.le_of_ble_eq_true rfl | omega) only [AXR, AXB, J.dst, reduceIte, Nat.reduceEqDiff, Nat.reduceAdd, Nat.reduceMul, Nat.reduceLT, Nat.reduceLeDiff, f41r0, f41r1, f41r2, f41r3, f41r4, f41c4_eq, f41c5_eq, f41c3_eq, f41c2_eq, f41c1_eq, f41c0_eq]
  refine ⟨fun h3 => ?_, fun h3 => ?_⟩
  · have : getK cs key t = (noB, false) := by
      unfold getK
      unfold hasK at h3
      split
      · rename_i c hc; rw [hc] at h3; rw [if_neg (by simpa using h3)]
      · rfl
    have hR := hR _ (e1.trans e2)
    rw [this] at hR
    exact hR
  · refine drw_lt ?_
    have hk : hasK cs key = true := by simpa using h3
    unfold hasK at hk
    split at hk
    · rename_i c hc
      obtain ⟨b, o, v, rfl, _, hrow, hcr⟩ := (S.ext (e1.trans e2)).elem hc
      have hlt : lbK cs key < cs.length := (List.getElem?_eq_some_iff.1 hc).1
      simp (disch := first | exact Nat.le_of_ble_eq_true rfl | omega) only [AXR, AXB, J.dst, reduceIte, Nat.reduceEqDiff, Nat.reduceAdd, Nat.reduceMul, Nat.reduceLT, Nat.reduceLeDiff, f41r0, f41r1, f41r2, f41r3, f41r4, f41c4_eq, f41c5_eq, f41c3_eq, f41c2_eq, f41c1_eq, f41c0_eq, row_cv hrow, B1.rd, eStamp]
      refine ⟨by omega, by omega, hrow.lt (by rw [eCV_len]; omega), B1.lt, ?_⟩
      refine tells_ok v c t _ hcr (F.get hc) ?_
      intro h4 e4
      refine ⟨kp_ext (Nat.le_refl _) e4, ?_⟩
      simp (disch := first | exact Nat.le_of_ble_eq_true rfl | omega) only [AXR, AXB, J.dst, reduceIte, Nat.reduceEqDiff, Nat.reduceAdd, Nat.reduceMul, Nat.reduceLT, Nat.reduceLeDiff, f41r0, f41r1, f41r2, f41r3, f41r4, f41c4_eq, f41c5_eq, f41c3_eq, f41c2_eq, f41c1_eq, f41c0_eq]
      have hR := hR _ (e1.trans (e2.trans e4))
      have : getK cs key t = tellV c.vers t := by unfold getK; rw [hc]; simp only [if_pos (of_decide_eq_true hk)]
      rw [this] at hR
      exact hR
    · cases hk

def rgetK (cs : List Cell) (key : ByteArray) (t : Stamp) : ByteArray × Bool := if findK cs key < 0 then (noB, false) else tellV (cs.getD (findK cs key).toNat default).vers t
theorem findK_lt (cs : List Cell) (key : ByteArray) : findK cs key < cs.length := by
  unfold findK
  split
  · rename_i i hi
    obtain ⟨h, _⟩ := List.findIdx?_eq_some_iff_getElem.1 hi
    omega
  · omega

theorem rget_ok {B : Nat → Prop} {a : Option Addr} {cap : Nat} (cs : List Cell) (key : ByteArray) (t : Stamp) (h : Heap) (S : SlC B h a cs) (hn : cs.length ≤ maxLen) (F : Fit cs) {R : Value → Heap → Prop}
    (hR : ∀ h', Ext h h' → R (.tuple #[.string (rgetK cs key t).1, .bool (rgetK cs key t).2]) h') : CallsH Try.prog 72 [.slice a cs.length cap, .string key, .agg (eStamp t).toArray] h R := by
  refine f72ok (by simp) ?_
  simp (disch := first | exact Nat.le_of_ble_eq_true rfl | omega) only [AXR, AXB, J.dst, reduceIte, Nat.reduceEqDiff, Nat.reduceAdd, Nat.reduceMul, Nat.reduceLT, Nat.reduceLeDiff, f72r0, f72r1, f72r2, f72r3, f72r4, f72c4_eq, f72c5_eq, f72c3_eq, f72c2_eq, f72c1_eq, f72c0_eq]
  refine wL_boxN rfl ?_; rintro b1 h1 e1 s1 hb1 (B1 : Blk _ _ _ (eStamp t))
  simp (disch := first | exact Nat.le_of_ble_eq_true rfl | omega) only [AXR, AXB, J.dst, reduceIte, Nat.reduceEqDiff, Nat.reduceAdd, Nat.reduceMul, Nat.reduceLT, Nat.reduceLeDiff, f72r0, f72r1, f72r2, f72r3, f72r4, f72c4_eq, f72c5_eq, f72c3_eq, f72c2_eq, f72c1_eq, f72c0_eq]
  refine rfind_ok cs key _ (S.ext e1) hn ?_
  simp (disch := first | exact Nat.le_of_ble_eq_true rfl | omega) only [AXR, AXB, J.dst, reduceIte, Nat.reduceEqDiff, Nat.reduceAdd, Nat.reduceMul, Nat.reduceLT, Nat.reduceLeDiff, f72r0, f72r1, f72r2, f72r3, f72r4, f72c4_eq, f72c5_eq, f72c3_eq, f72c2_eq, f72c1_eq, f72c0_eq]
  refine ⟨fun h3 => ?_, fun h3 => ?_⟩
  · have : rgetK cs key t = (noB, false) := by unfold rgetK; rw [if_pos (of_decide_eq_true h3)]
    have hR := hR _ e1
    rw [this] at hR
    exact hR
  · refine drw_lt ?_
    have h3 := of_decide_eq_false h3
    have hb := findK_lt cs key
    obtain ⟨k, hk⟩ : ∃ k : Nat, findK cs key = k := ⟨(findK cs key).toNat, by omega⟩
    rw [hk] at hb h3
    obtain ⟨c, hc⟩ := get_ex (show k < cs.length by omega)
    obtain ⟨b, o, v, rfl, _, hrow, hcr⟩ := (S.ext e1).elem hc
    simp (disch := first | exact Nat.le_of_ble_eq_true rfl | omega) only [AXR, AXB, J.dst, reduceIte, Nat.reduceEqDiff, Nat.reduceAdd, Nat.reduceMul, Nat.reduceLT, Nat.reduceLeDiff, f72r0, f72r1, f72r2, f72r3, f72r4, f72c4_eq, f72c5_eq, f72c3_eq, f72c2_eq, f72c1_eq, f72c0_eq, hk, row_cv hrow, B1.rd, eStamp]
    refine ⟨by omega, by omega, hrow.lt (by rw [eCV_len]; omega), B1.lt, ?_⟩
    refine of_ok v c t _ hcr (F.get hc) ?_
    intro h4 e4
    refine ⟨kp_ext (Nat.le_refl _) e4, ?_⟩
    simp (disch := first | exact Nat.le_of_ble_eq_true rfl | omega) only [AXR, AXB, J.dst, reduceIte, Nat.reduceEqDiff, Nat.reduceAdd, Nat.reduceMul, Nat.reduceLT, Nat.reduceLeDiff, f72r0, f72r1, f72r2, f72r3, f72r4, f72c4_eq, f72c5_eq, f72c3_eq, f72c2_eq, f72c1_eq, f72c0_eq]
    have hR := hR _ (e1.trans e4)
    have : rgetK cs key t = tellV c.vers t := by unfold rgetK; rw [hk, if_neg h3, Int.toNat_natCast, getD_of hc]
    rw [this] at hR
    exact hR
end Go.Proofs.Ytefghfgmkndikaa
