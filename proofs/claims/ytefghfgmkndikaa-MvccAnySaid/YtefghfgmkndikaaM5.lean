/-
  Walks: the order of stamps, the last version, what a cell tells.
-/
import Derived.Test.YtefghfgmkndikaaM3
import Derived.Test.YtefghfgmkndikaaM4
import Derived.Test.YtefghfgmkndikaaM2
set_option linter.unusedSimpArgs false
set_option linter.unusedVariables false
namespace Go.Proofs.Ytefghfgmkndikaa
open Go Go.AX

theorem isNaN_ok (a : Int) (h : Heap) {R : Value → Heap → Prop} (hR : R (.bool false) h) : CallsH Try.prog 141 [vi a] h R := by
  refine f141ok (by simp) ?_
  rw [f141c0_eq]
  simp (disch := first | exact Nat.le_of_ble_eq_true rfl | omega) only [AXR, AXB, J.dst, reduceIte, Nat.reduceEqDiff, Nat.reduceAdd, Nat.reduceMul, Nat.reduceLT, Nat.reduceLeDiff, f141r0]
  rw [f141c1_eq]
  simp (disch := first | exact Nat.le_of_ble_eq_true rfl | omega) only [AXR, AXB, J.dst, reduceIte, Nat.reduceEqDiff, Nat.reduceAdd, Nat.reduceMul, Nat.reduceLT, Nat.reduceLeDiff, f141r1]
  exact hR

def cmpI (a b : Int) : Int := if a < b then -1 else if b < a then 1 else 0

theorem compare_ok (a b : Int) (h : Heap) {R : Value → Heap → Prop} (hR : R (vi (cmpI a b)) h) : CallsH Try.prog 122 [vi a, vi b] h R := by
  refine f122ok (by simp) ?_
  rw [f122c0_eq]; simp (disch := first | exact Nat.le_of_ble_eq_true rfl | omega) only [AXR, AXB, J.dst, reduceIte, Nat.reduceEqDiff, Nat.reduceAdd, Nat.reduceMul, Nat.reduceLT, Nat.reduceLeDiff, f122r0]
  rw [f122c1_eq]; simp (disch := first | exact Nat.le_of_ble_eq_true rfl | omega) only [AXR, AXB, J.dst, reduceIte, Nat.reduceEqDiff, Nat.reduceAdd, Nat.reduceMul, Nat.reduceLT, Nat.reduceLeDiff, f122r1]
  refine isNaN_ok _ _ ?_
  rw [f122c2_eq]; simp (disch := first | exact Nat.le_of_ble_eq_true rfl | omega) only [AXR, AXB, J.dst, reduceIte, Nat.reduceEqDiff, Nat.reduceAdd, Nat.reduceMul, Nat.reduceLT, Nat.reduceLeDiff, f122r2]
  refine isNaN_ok _ _ ?_
  rw [f122c3_eq]; simp (disch := first | exact Nat.le_of_ble_eq_true rfl | omega) only [AXR, AXB, J.dst, reduceIte, Nat.reduceEqDiff, Nat.reduceAdd, Nat.reduceMul, Nat.reduceLT, Nat.reduceLeDiff, f122r3]
  rw [f122c4_eq]; simp (disch := first | exact Nat.le_of_ble_eq_true rfl | omega) only [AXR, AXB, J.dst, reduceIte, Nat.reduceEqDiff, Nat.reduceAdd, Nat.reduceMul, Nat.reduceLT, Nat.reduceLeDiff]
  rw [f122c9_eq]; simp (disch := first | exact Nat.le_of_ble_eq_true rfl | omega) only [AXR, AXB, J.dst, reduceIte, Nat.reduceEqDiff, Nat.reduceAdd, Nat.reduceMul, Nat.reduceLT, Nat.reduceLeDiff, f122r7]
  rw [f122c10_eq]; simp (disch := first | exact Nat.le_of_ble_eq_true rfl | omega) only [AXR, AXB, J.dst, reduceIte, Nat.reduceEqDiff, Nat.reduceAdd, Nat.reduceMul, Nat.reduceLT, Nat.reduceLeDiff]
  rw [f122c12_eq]; simp (disch := first | exact Nat.le_of_ble_eq_true rfl | omega) only [AXR, AXB, J.dst, reduceIte, Nat.reduceEqDiff, Nat.reduceAdd, Nat.reduceMul, Nat.reduceLT, Nat.reduceLeDiff, f122r9]
  rw [f122c13_eq]; simp (disch := first | exact Nat.le_of_ble_eq_true rfl | omega) only [AXR, AXB, J.dst, reduceIte, Nat.reduceEqDiff, Nat.reduceAdd, Nat.reduceMul, Nat.reduceLT, Nat.reduceLeDiff]
  refine ⟨fun h1 => ?_, fun h1 => ?_⟩
  · rw [f122c14_eq]; simp (disch := first | exact Nat.le_of_ble_eq_true rfl | omega) only [AXR, AXB, J.dst, reduceIte, Nat.reduceEqDiff, Nat.reduceAdd, Nat.reduceMul, Nat.reduceLT, Nat.reduceLeDiff, f122r10]
    simpa [cmpI, of_decide_eq_true h1] using hR
  rw [f122c15_eq]; simp (disch := first | exact Nat.le_of_ble_eq_true rfl | omega) only [AXR, AXB, J.dst, reduceIte, Nat.reduceEqDiff, Nat.reduceAdd, Nat.reduceMul, Nat.reduceLT, Nat.reduceLeDiff, f122r11]
  rw [f122c16_eq]; simp (disch := first | exact Nat.le_of_ble_eq_true rfl | omega) only [AXR, AXB, J.dst, reduceIte, Nat.reduceEqDiff, Nat.reduceAdd, Nat.reduceMul, Nat.reduceLT, Nat.reduceLeDiff]
  refine ⟨fun h2 => ?_, fun h2 => ?_⟩
  · rw [f122c17_eq]; simp (disch := first | exact Nat.le_of_ble_eq_true rfl | omega) only [AXR, AXB, J.dst, reduceIte, Nat.reduceEqDiff, Nat.reduceAdd, Nat.reduceMul, Nat.reduceLT, Nat.reduceLeDiff, f122r12]
    simpa [cmpI, of_decide_eq_false h1, of_decide_eq_true h2] using hR
  rw [f122c18_eq]; simp (disch := first | exact Nat.le_of_ble_eq_true rfl | omega) only [AXR, AXB, J.dst, reduceIte, Nat.reduceEqDiff, Nat.reduceAdd, Nat.reduceMul, Nat.reduceLT, Nat.reduceLeDiff, f122r13]
  have h3 : ¬ b < a := of_decide_eq_false h2
  simpa [cmpI, of_decide_eq_false h1, h3] using hR

def orI (x y : Int) : Int := if x = 0 then y else x

theorem or_ok (x y : Int) (b : Nat) (h : Heap) (h0 : cel h b 0 = some (vi x)) (h1 : cel h b 1 = some (vi y)) {R : Value → Heap → Prop} (hR : R (vi (orI x y)) h) :
    CallsH Try.prog 121 [sl b 0 2 2] h R := by
  refine f121ok (by simp) ?_
  rw [f121c0_eq]; simp (disch := first | exact Nat.le_of_ble_eq_true rfl | omega) only [AXR, AXB, J.dst, reduceIte, Nat.reduceEqDiff, Nat.reduceAdd, Nat.reduceMul, Nat.reduceLT, Nat.reduceLeDiff, f121r0]
  rw [f121c1_eq]; simp (disch := first | exact Nat.le_of_ble_eq_true rfl | omega) only [AXR, AXB, J.dst, reduceIte, Nat.reduceEqDiff, Nat.reduceAdd, Nat.reduceMul, Nat.reduceLT, Nat.reduceLeDiff, f121r1]
  rw [f121c2_eq]; simp (disch := first | exact Nat.le_of_ble_eq_true rfl | omega) only [AXR, AXB, J.dst, reduceIte, Nat.reduceEqDiff, Nat.reduceAdd, Nat.reduceMul, Nat.reduceLT, Nat.reduceLeDiff, f121r2]
  rw [f121c3_eq]
  refine loop_in (fun n σ h' => h' = h ∧ ∃ k : Nat, k + n = 2 ∧ σ = [(3, vi 0), (6, sl b 0 2 2), (7, vi 2), (8, vi k)] ∧ (1 ≤ k → x = 0) ∧ (2 ≤ k → y = 0)) 2 ⟨rfl, 0, rfl, rfl, by omega, by omega⟩ ?_
  rintro n σ h' ⟨rfl, k, hk, rfl, hx, hy⟩ Q' hn he hr _
  rw [f121c4_eq]; simp (disch := first | exact Nat.le_of_ble_eq_true rfl | omega) only [AXR, AXB, J.dst, reduceIte, Nat.reduceEqDiff, Nat.reduceAdd, Nat.reduceMul, Nat.reduceLT, Nat.reduceLeDiff, f121r3]
  rw [f121c5_eq]; simp (disch := first | exact Nat.le_of_ble_eq_true rfl | omega) only [AXR, AXB, J.dst, reduceIte, Nat.reduceEqDiff, Nat.reduceAdd, Nat.reduceMul, Nat.reduceLT, Nat.reduceLeDiff]
  refine ⟨fun h2 => ?_, fun h2 => ?_⟩
  · have hlt : k < 2 := by have := of_decide_eq_true h2; omega
    rw [f121c6_eq, f121c7_eq]
    have hcel : cel h' b (0 + k * 1) = some (vi (if k = 0 then x else y)) := by
      have : k = 0 ∨ k = 1 := by omega
      rcases this with rfl | rfl
      · simpa using h0
      · simpa using h1
    simp (disch := first | exact Nat.le_of_ble_eq_true rfl | omega) only [AXR, AXB, J.dst, reduceIte, Nat.reduceEqDiff, Nat.reduceAdd, Nat.reduceMul, Nat.reduceLT, Nat.reduceLeDiff, f121r4, hcel]
    refine ⟨by omega, by omega, ?_⟩
    rw [f121c8_eq]; simp (disch := first | exact Nat.le_of_ble_eq_true rfl | omega) only [AXR, AXB, J.dst, reduceIte, Nat.reduceEqDiff, Nat.reduceAdd, Nat.reduceMul, Nat.reduceLT, Nat.reduceLeDiff, f121r5, binV_neq]
    rw [f121c9_eq]; simp (disch := first | exact Nat.le_of_ble_eq_true rfl | omega) only [AXR, AXB, J.dst, reduceIte, Nat.reduceEqDiff, Nat.reduceAdd, Nat.reduceMul, Nat.reduceLT, Nat.reduceLeDiff]
    refine ⟨fun h3 => ?_, fun h3 => ?_⟩
    · rw [f121c10_eq]; simp (disch := first | exact Nat.le_of_ble_eq_true rfl | omega) only [AXR, AXB, J.dst, reduceIte, Nat.reduceEqDiff, Nat.reduceAdd, Nat.reduceMul, Nat.reduceLT, Nat.reduceLeDiff, f121r6]
      refine hr _ _ ?_
      simp (disch := first | exact Nat.le_of_ble_eq_true rfl | omega) only [AXR, AXB, J.dst, reduceIte, Nat.reduceEqDiff, Nat.reduceAdd, Nat.reduceMul, Nat.reduceLT, Nat.reduceLeDiff]
      have : (if k = 0 then x else y) = orI x y := by
        have h3' : (if k = 0 then x else y) ≠ 0 := by simpa using h3
        by_cases h0 : k = 0
        · subst h0; simp [orI] at h3' ⊢; simp [h3']
        · have : k = 1 := by omega
          subst this; simp [orI, hx]
      rw [← this] at hR
      exact hR
    · have h3' : (if k = 0 then x else y) = 0 := by simpa using h3
      rw [f121c11_eq]; simp (disch := first | exact Nat.le_of_ble_eq_true rfl | omega) only [AXR, AXB, J.dst, reduceIte, Nat.reduceEqDiff, Nat.reduceAdd, Nat.reduceMul, Nat.reduceLT, Nat.reduceLeDiff, f121r7]
      have hw : IntKind.i64.wrap (k + 1) = ((k + 1 : Nat) : Int) := by
        have : k = 0 ∨ k = 1 := by omega
        rcases this with rfl | rfl <;> rfl
      rw [hw]
      refine hn (n - 1) _ _ (by omega) ⟨rfl, k + 1, by omega, rfl, fun _ => ?_, fun _ => ?_⟩
      · by_cases h0 : k = 0
        · simpa [h0] using h3'
        · exact hx (by omega)
      · have : k = 1 := by omega
        simpa [this] using h3'
  · have hge : k = 2 := by have := of_decide_eq_false h2; omega
    subst hge
    refine he _ _ ?_
    rw [f121c12_eq]; simp (disch := first | exact Nat.le_of_ble_eq_true rfl | omega) only [AXR, AXB, J.dst, reduceIte, Nat.reduceEqDiff, Nat.reduceAdd, Nat.reduceMul, Nat.reduceLT, Nat.reduceLeDiff, f121r8]
    simpa [orI, hx, hy] using hR

theorem less_or (a b c d : Int) : (orI (cmpI a c) (cmpI b d) < 0) ↔ Stamp.lt ⟨a, b⟩ ⟨c, d⟩ = true := by
  unfold orI cmpI Stamp.lt
  simp
  split <;> rename_i h <;> (repeat' split) <;> omega

theorem less_ok (s t : Stamp) (h : Heap) {R : Value → Heap → Prop} (hR : ∀ h', Ext h h' → R (.bool (Stamp.lt s t)) h') :
    CallsH Try.prog 90 [.agg (eStamp s).toArray, .agg (eStamp t).toArray] h R := by
  refine f90ok (by simp) ?_
  rw [f90c0_eq]; simp (disch := first | exact Nat.le_of_ble_eq_true rfl | omega) only [AXR, AXB, J.dst, reduceIte, Nat.reduceEqDiff, Nat.reduceAdd, Nat.reduceMul, Nat.reduceLT, Nat.reduceLeDiff, f90r0]
  refine wL_boxN rfl ?_; intro b1 h1 e1 s1 hb1 B1
  refine wL_boxN rfl ?_; intro b2 h2 e2 s2 hb2 B2
  have B1 := B1.ext e2
  simp (disch := first | exact Nat.le_of_ble_eq_true rfl | omega) only [AXR, AXB, J.dst, reduceIte, Nat.reduceEqDiff, Nat.reduceAdd, Nat.reduceMul, Nat.reduceLT, Nat.reduceLeDiff]
  rw [f90c1_eq]
  refine drw_lt ?_
  simp (disch := first | exact Nat.le_of_ble_eq_true rfl | omega) only [AXR, AXB, J.dst, reduceIte, Nat.reduceEqDiff, Nat.reduceAdd, Nat.reduceMul, Nat.reduceLT, Nat.reduceLeDiff, f90r1, B1.cel, B2.cel, cells_agg, eStamp]
  refine ⟨by omega, by omega, by omega, by omega, ?_⟩
  refine compare_ok _ _ _ ⟨kp_ext (by omega) (Ext.refl _), ?_⟩
  refine compare_ok _ _ _ ⟨kp_ext (by omega) (Ext.refl _), ?_⟩
  refine wL_bslD rfl (by omega) ?_; intro b3 h3 e3 s3 hb3 B3
  simp (disch := first | exact Nat.le_of_ble_eq_true rfl | omega) only [AXR, AXB, J.dst, reduceIte, Nat.reduceEqDiff, Nat.reduceAdd, Nat.reduceMul, Nat.reduceLT, Nat.reduceLeDiff]
  refine or_ok (cmpI s.wall t.wall) (cmpI s.tie t.tie) _ _ (by rw [B3.cel]; rfl) (by rw [B3.cel]; rfl) ⟨kp_ext (by omega) (Ext.refl _), ?_⟩
  simp (disch := first | exact Nat.le_of_ble_eq_true rfl | omega) only [AXR, AXB, J.dst, reduceIte, Nat.reduceEqDiff, Nat.reduceAdd, Nat.reduceMul, Nat.reduceLT, Nat.reduceLeDiff, binV_lss]
  have hl := less_or s.wall s.tie t.wall t.tie
  have : decide (orI (cmpI s.wall t.wall) (cmpI s.tie t.tie) < 0) = Stamp.lt s t := by
    rw [Bool.eq_iff_iff]; simpa using hl
  rw [this]
  exact hR _ ((e1.trans e2).trans e3)

/-- The reference's. -/
theorem rless_ok (s t : Stamp) (h : Heap) {R : Value → Heap → Prop} (hR : ∀ h', Ext h h' → R (.bool (Stamp.lt s t)) h') :
    CallsH Try.prog 42 [.agg (eStamp s).toArray, .agg (eStamp t).toArray] h R := by
  refine f42ok (by simp) ?_
  rw [f42c0_eq]; simp (disch := first | exact Nat.le_of_ble_eq_true rfl | omega) only [AXR, AXB, J.dst, reduceIte, Nat.reduceEqDiff, Nat.reduceAdd, Nat.reduceMul, Nat.reduceLT, Nat.reduceLeDiff, f42r0]
  refine wL_boxN rfl ?_; intro b1 h1 e1 s1 hb1 B1
  refine wL_boxN rfl ?_; intro b2 h2 e2 s2 hb2 B2
  have B1 := B1.ext e2
  simp (disch := first | exact Nat.le_of_ble_eq_true rfl | omega) only [AXR, AXB, J.dst, reduceIte, Nat.reduceEqDiff, Nat.reduceAdd, Nat.reduceMul, Nat.reduceLT, Nat.reduceLeDiff]
  rw [f42c1_eq]
  simp (disch := first | exact Nat.le_of_ble_eq_true rfl | omega) only [AXR, AXB, J.dst, reduceIte, Nat.reduceEqDiff, Nat.reduceAdd, Nat.reduceMul, Nat.reduceLT, Nat.reduceLeDiff, f42r1, B1.cel, B2.cel, cells_agg, eStamp]
  have e := e1.trans e2
  refine ⟨fun h1 => ?_, fun h1 => ?_⟩
  · have : Stamp.lt s t = true := by simp [Stamp.lt, h1]
    rw [← this]; exact hR _ e
  · refine ⟨fun h2 => ?_, fun h2 => ?_⟩
    · have : Stamp.lt s t = decide (s.tie < t.tie) := by
        have h2' : s.wall = t.wall := by simpa using h2
        simp [Stamp.lt, h2']
      rw [← this]; exact hR _ e
    · have : Stamp.lt s t = false := by
        have h2' : s.wall ≠ t.wall := by simpa using h2
        have h1' : ¬ s.wall < t.wall := by simpa using h1
        simp [Stamp.lt, h1', h2']
      rw [← this]; exact hR _ e

theorem i64_wrap {n : Int} (h0 : -9223372036854775808 ≤ n) (h1 : n ≤ 9223372036854775807) : IntKind.i64.wrap n = n := by
  unfold IntKind.wrap IntKind.bits IntKind.signed; simp; omega

theorem last_ok {B : Nat → Prop} {a : Option Addr} {c : Nat} (vs : List Ver) (t : Stamp) (h : Heap) (S : SlF B h eVer a vs) (hn : vs.length ≤ maxLen) {R : Value → Heap → Prop} (hR : ∀ h', Ext h h' → R (vi (lastV vs t)) h') :
    CallsH Try.prog 91 [.slice a vs.length c, .agg (eStamp t).toArray] h R := by
  refine f91ok (by simp) ?_
  rw [f91c0_eq]; simp (disch := first | exact Nat.le_of_ble_eq_true rfl | omega) only [AXR, AXB, J.dst, reduceIte, Nat.reduceEqDiff, Nat.reduceAdd, Nat.reduceMul, Nat.reduceLT, Nat.reduceLeDiff, f91r0]
  refine wL_boxN rfl ?_; rintro b1 h1 e1 s1 hb1 (B1 : Blk _ _ _ (eStamp t))
  simp (disch := first | exact Nat.le_of_ble_eq_true rfl | omega) only [AXR, AXB, J.dst, reduceIte, Nat.reduceEqDiff, Nat.reduceAdd, Nat.reduceMul, Nat.reduceLT, Nat.reduceLeDiff]
  rw [f91c1_eq]; simp (disch := first | exact Nat.le_of_ble_eq_true rfl | omega) only [AXR, AXB, J.dst, reduceIte, Nat.reduceEqDiff, Nat.reduceAdd, Nat.reduceMul, Nat.reduceLT, Nat.reduceLeDiff, f91r1, binV_sub]
  rw [f91c2_eq]
  unfold maxLen at hn
  rw [i64_wrap (by omega) (by omega)]
  refine loop_in (fun n σ h' => Ext h1 h' ∧ n ≤ vs.length ∧ σ = [(0, .slice a vs.length c), (3, ptr b1 0), (5, vi ((n : Int) - 1))] ∧ lastV vs t = lastK vs t n) vs.length ⟨Ext.refl _, Nat.le_refl _, rfl, rfl⟩ ?_
  rintro n σ h' ⟨e2, hnl, rfl, hl⟩ Q' hnx hex hrt _
  rw [f91c3_eq]; simp (disch := first | exact Nat.le_of_ble_eq_true rfl | omega) only [AXR, AXB, J.dst, reduceIte, Nat.reduceEqDiff, Nat.reduceAdd, Nat.reduceMul, Nat.reduceLT, Nat.reduceLeDiff, f91r2]
  rw [f91c4_eq]; simp (disch := first | exact Nat.le_of_ble_eq_true rfl | omega) only [AXR, AXB, J.dst, reduceIte, Nat.reduceEqDiff, Nat.reduceAdd, Nat.reduceMul, Nat.reduceLT, Nat.reduceLeDiff]
  refine ⟨fun h2 => ?_, fun h2 => ?_⟩
  · have hpos : 1 ≤ n := by have := of_decide_eq_true h2; omega
    obtain ⟨k, rfl⟩ : ∃ k, n = k + 1 := ⟨n - 1, by omega⟩
    have hk : ((k + 1 : Nat) : Int) - 1 = k := by omega
    obtain ⟨v, hv⟩ : ∃ v, vs[k]? = some v := ⟨vs[k], List.getElem?_eq_getElem (by omega)⟩
    obtain ⟨b, o, rfl, _, hrow⟩ := (S.ext (e1.trans e2)).elem eVer_len hv
    rw [hk, f91c5_eq, f91c6_eq]
    refine drw_lt ?_
    have B1' := B1.ext e2
    simp (disch := first | exact Nat.le_of_ble_eq_true rfl | omega) only [AXR, AXB, J.dst, reduceIte, Nat.reduceEqDiff, Nat.reduceAdd, Nat.reduceMul, Nat.reduceLT, Nat.reduceLeDiff, f91r3, B1'.rd, row_ver hrow, eStamp]
    refine ⟨B1'.lt, by omega, by omega, hrow.lt (by rw [eVer_len]; omega), ?_⟩
    refine less_ok t v.at_ _ ?_
    intro h3 e3
    refine ⟨kp_ext (Nat.le_refl _) e3, ?_⟩
    simp (disch := first | exact Nat.le_of_ble_eq_true rfl | omega) only [AXR, AXB, J.dst, reduceIte, Nat.reduceEqDiff, Nat.reduceAdd, Nat.reduceMul, Nat.reduceLT, Nat.reduceLeDiff]
    rw [f91c7_eq]; simp (disch := first | exact Nat.le_of_ble_eq_true rfl | omega) only [AXR, AXB, J.dst, reduceIte, Nat.reduceEqDiff, Nat.reduceAdd, Nat.reduceMul, Nat.reduceLT, Nat.reduceLeDiff]
    have hlk : lastK vs t (k + 1) = if Stamp.lt t v.at_ then lastK vs t k else (k : Int) := by
      simp [lastK, List.getD_eq_getElem?_getD, hv]
    refine ⟨fun h4 => ?_, fun h4 => ?_⟩
    · have h4' : Stamp.lt t v.at_ = false := by simpa using h4
      rw [f91c8_eq]; simp (disch := first | exact Nat.le_of_ble_eq_true rfl | omega) only [AXR, AXB, J.dst, reduceIte, Nat.reduceEqDiff, Nat.reduceAdd, Nat.reduceMul, Nat.reduceLT, Nat.reduceLeDiff, f91r4]
      refine hrt _ _ ?_
      simp (disch := first | exact Nat.le_of_ble_eq_true rfl | omega) only [AXR, AXB, J.dst, reduceIte, Nat.reduceEqDiff, Nat.reduceAdd, Nat.reduceMul, Nat.reduceLT, Nat.reduceLeDiff]
      rw [hlk, h4'] at hl
      rw [show (k : Int) = lastV vs t from hl.symm]
      exact hR _ (e1.trans (e2.trans e3))
    · have h4' : Stamp.lt t v.at_ = true := by simpa using h4
      rw [f91c9_eq]; simp (disch := first | exact Nat.le_of_ble_eq_true rfl | omega) only [AXR, AXB, J.dst, reduceIte, Nat.reduceEqDiff, Nat.reduceAdd, Nat.reduceMul, Nat.reduceLT, Nat.reduceLeDiff, f91r5, binV_sub]
      rw [i64_wrap (by omega) (by omega)]
      rw [hlk, h4'] at hl
      exact hnx k _ _ (by omega) ⟨e2.trans e3, by omega, rfl, hl⟩
  · have hz : n = 0 := by have := of_decide_eq_false h2; omega
    subst hz
    refine hex _ _ ?_
    rw [f91c10_eq]; simp (disch := first | exact Nat.le_of_ble_eq_true rfl | omega) only [AXR, AXB, J.dst, reduceIte, Nat.reduceEqDiff, Nat.reduceAdd, Nat.reduceMul, Nat.reduceLT, Nat.reduceLeDiff, f91r6]
    have : lastV vs t = -1 := hl
    rw [← this]
    exact hR _ (e1.trans e2)
end Go.Proofs.Ytefghfgmkndikaa
/-
  Walks: what a cell tells; the place of a key.
-/
namespace Go.Proofs.Ytefghfgmkndikaa
open Go Go.AX

theorem getD_of {α : Type} {l : List α} {k : Nat} {x d : α} (h : l[k]? = some x) : l.getD k d = x := by simp [List.getD_eq_getElem?_getD, h]
theorem get_ex {α : Type} {l : List α} {k : Nat} (h : k < l.length) : ∃ x, l[k]? = some x := ⟨l[k], List.getElem?_eq_getElem h⟩

theorem tells_ok {B : Nat → Prop} (x : CV) (c : Cell) (t : Stamp) (h : Heap) (S : CR B h x c) (hn : c.vers.length ≤ maxLen) {R : Value → Heap → Prop}
    (hR : ∀ h', Ext h h' → R (.tuple #[.string (tellV c.vers t).1, .bool (tellV c.vers t).2]) h') :
    CallsH Try.prog 89 [.agg (eCV x).toArray, .agg (eStamp t).toArray] h R := by
  refine f89ok (by simp) ?_
  simp (disch := first | exact Nat.le_of_ble_eq_true rfl | omega) only [AXR, AXB, J.dst, reduceIte, Nat.reduceEqDiff, Nat.reduceAdd, Nat.reduceMul, Nat.reduceLT, Nat.reduceLeDiff, f89r0, f89r1, f89r2, f89r3, f89r4, f89c4_eq, f89c5_eq, f89c3_eq, f89c2_eq, f89c1_eq, f89c0_eq]
  refine wL_boxN rfl ?_; rintro b1 h1 e1 s1 hb1 (B1 : Blk _ _ _ (eCV x))
  refine wL_boxN rfl ?_; rintro b2 h2 e2 s2 hb2 (B2 : Blk _ _ _ (eStamp t))
  replace B1 := B1.ext e2
  simp (disch := first | exact Nat.le_of_ble_eq_true rfl | omega) only [AXR, AXB, J.dst, reduceIte, Nat.reduceEqDiff, Nat.reduceAdd, Nat.reduceMul, Nat.reduceLT, Nat.reduceLeDiff, f89r0, f89r1, f89r2, f89r3, f89r4, f89c4_eq, f89c5_eq, f89c3_eq, f89c2_eq, f89c1_eq, f89c0_eq, B1.cel, B2.rd, eCV, eStamp, S.vn]
  refine last_ok c.vers t _ (S.vers.ext (e1.trans e2)) hn ?_
  intro h3 e3
  replace B1 := B1.ext e3
  simp (disch := first | exact Nat.le_of_ble_eq_true rfl | omega) only [AXR, AXB, J.dst, reduceIte, Nat.reduceEqDiff, Nat.reduceAdd, Nat.reduceMul, Nat.reduceLT, Nat.reduceLeDiff, f89r0, f89r1, f89r2, f89r3, f89r4, f89c4_eq, f89c5_eq, f89c3_eq, f89c2_eq, f89c1_eq, f89c0_eq, B1.cel, eCV]
  have hR := hR _ (e1.trans (e2.trans e3))
  have hb := lastV_le c.vers t
  by_cases hl : lastV c.vers t < 0
  · simp (disch := first | exact Nat.le_of_ble_eq_true rfl | omega) only [AXR, AXB, J.dst, reduceIte, Nat.reduceEqDiff, Nat.reduceAdd, Nat.reduceMul, Nat.reduceLT, Nat.reduceLeDiff, decide_eq_true hl]
    simpa [tellV, hl, noB] using hR
  obtain ⟨k, hk⟩ : ∃ k : Nat, lastV c.vers t = k := ⟨(lastV c.vers t).toNat, by omega⟩
  obtain ⟨v, hv⟩ := get_ex (show k < c.vers.length by omega)
  obtain ⟨b, o, ha, _, hrow⟩ := (S.vers.ext (e1.trans (e2.trans e3))).elem eVer_len hv
  rw [hk] at hb hl
  simp (disch := first | exact Nat.le_of_ble_eq_true rfl | omega) only [AXR, AXB, J.dst, reduceIte, Nat.reduceEqDiff, Nat.reduceAdd, Nat.reduceMul, Nat.reduceLT, Nat.reduceLeDiff, decide_eq_false hl, hk, ha, S.vn, row_ver hrow]
  have ht : tellV c.vers t = if v.drop then (noB, false) else (v.data, true) := by
    simp [tellV, hk, List.getD_eq_getElem?_getD, hv, hl]
  rw [ht] at hR
  refine ⟨by omega, by omega, fun hd => ?_, fun hd => ⟨by omega, by omega, ?_⟩⟩
  · simpa [hd, noB] using hR
  · simpa [hd] using hR

theorem of_ok {B : Nat → Prop} (x : CV) (c : Cell) (t : Stamp) (h : Heap) (S : CR B h x c) (hn : c.vers.length ≤ maxLen) {R : Value → Heap → Prop}
    (hR : ∀ h', Ext h h' → R (.tuple #[.string (tellV c.vers t).1, .bool (tellV c.vers t).2]) h') :
    CallsH Try.prog 107 [.agg (eCV x).toArray, .agg (eStamp t).toArray] h R := by
  refine f107ok (by simp) ?_
  simp (disch := first | exact Nat.le_of_ble_eq_true rfl | omega) only [AXR, AXB, J.dst, reduceIte, Nat.reduceEqDiff, Nat.reduceAdd, Nat.reduceMul, Nat.reduceLT, Nat.reduceLeDiff, f107r0, f107r1, f107r2, f107r3, f107r4, f107r5, f107r6, f107r7, f107r8, f107r9, f107r10, f107c10_eq, f107c9_eq, f107c8_eq, f107c7_eq, f107c11_eq, f107c6_eq, f107c5_eq, f107c4_eq, f107c14_eq, f107c15_eq, f107c13_eq, f107c12_eq, f107c3_eq, f107c2_eq, f107c1_eq, f107c0_eq]
  refine wL_boxN rfl ?_; rintro b1 h1 e1 s1 hb1 (B1 : Blk _ _ _ (eCV x))
  refine wL_boxN rfl ?_; rintro b2 h2 e2 s2 hb2 (B2 : Blk _ _ _ (eStamp t))
  replace B1 := B1.ext e2
  simp (disch := first | exact Nat.le_of_ble_eq_true rfl | omega) only [AXR, AXB, J.dst, reduceIte, Nat.reduceEqDiff, Nat.reduceAdd, Nat.reduceMul, Nat.reduceLT, Nat.reduceLeDiff, f107r0, f107r1, f107r2, f107r3, f107r4, f107r5, f107r6, f107r7, f107r8, f107r9, f107r10, f107c10_eq, f107c9_eq, f107c8_eq, f107c7_eq, f107c11_eq, f107c6_eq, f107c5_eq, f107c4_eq, f107c14_eq, f107c15_eq, f107c13_eq, f107c12_eq, f107c3_eq, f107c2_eq, f107c1_eq, f107c0_eq]
  unfold maxLen at hn
  refine loop_in (fun n σ h' => Ext h2 h' ∧ ∃ k : Nat, k + n = c.vers.length ∧ σ = [(2, ptr b1 0), (3, ptr b2 0), (6, .string (ofK c.vers t k).1), (7, .bool (ofK c.vers t k).2), (8, vi k)])
    c.vers.length ⟨Ext.refl _, 0, by omega, rfl⟩ ?_
  rintro n σ h' ⟨e3, k, hk, rfl⟩ Q' hnx hex hrt _
  replace B1 := B1.ext e3
  replace B2 := B2.ext e3
  simp (disch := first | exact Nat.le_of_ble_eq_true rfl | omega) only [AXR, AXB, J.dst, reduceIte, Nat.reduceEqDiff, Nat.reduceAdd, Nat.reduceMul, Nat.reduceLT, Nat.reduceLeDiff, f107r0, f107r1, f107r2, f107r3, f107r4, f107r5, f107r6, f107r7, f107r8, f107r9, f107r10, f107c10_eq, f107c9_eq, f107c8_eq, f107c7_eq, f107c11_eq, f107c6_eq, f107c5_eq, f107c4_eq, f107c14_eq, f107c15_eq, f107c13_eq, f107c12_eq, f107c3_eq, f107c2_eq, f107c1_eq, f107c0_eq, B1.cel, eCV, S.vn]
  refine ⟨fun h2 => ?_, fun h2 => ?_⟩
  · have hkl : k < c.vers.length := by have := of_decide_eq_true h2; omega
    obtain ⟨v, hv⟩ := get_ex hkl
    obtain ⟨b, o, ha, _, hrow⟩ := (S.vers.ext (e1.trans (e2.trans e3))).elem eVer_len hv
    simp (disch := first | exact Nat.le_of_ble_eq_true rfl | omega) only [AXR, AXB, J.dst, reduceIte, Nat.reduceEqDiff, Nat.reduceAdd, Nat.reduceMul, Nat.reduceLT, Nat.reduceLeDiff, f107r0, f107r1, f107r2, f107r3, f107r4, f107r5, f107r6, f107r7, f107r8, f107r9, f107r10, f107c10_eq, f107c9_eq, f107c8_eq, f107c7_eq, f107c11_eq, f107c6_eq, f107c5_eq, f107c4_eq, f107c14_eq, f107c15_eq, f107c13_eq, f107c12_eq, f107c3_eq, f107c2_eq, f107c1_eq, f107c0_eq, ha, row_ver hrow]
    refine ⟨by omega, by omega, ?_⟩
    refine wL_newN ?_; rintro b4 h4 e4 s4 hb4 B4
    refine wL_stN rfl rfl rfl B4 (by decide) (eVer_one v) ?_; intro h5 u5 (B5 : Blk _ _ _ (eVer v))
    have e5 := u5.ext e4 (by omega)
    replace B2 := B2.ext e5
    simp (disch := first | exact Nat.le_of_ble_eq_true rfl | omega) only [AXR, AXB, J.dst, reduceIte, Nat.reduceEqDiff, Nat.reduceAdd, Nat.reduceMul, Nat.reduceLT, Nat.reduceLeDiff, f107r0, f107r1, f107r2, f107r3, f107r4, f107r5, f107r6, f107r7, f107r8, f107r9, f107r10, f107c10_eq, f107c9_eq, f107c8_eq, f107c7_eq, f107c11_eq, f107c6_eq, f107c5_eq, f107c4_eq, f107c14_eq, f107c15_eq, f107c13_eq, f107c12_eq, f107c3_eq, f107c2_eq, f107c1_eq, f107c0_eq, B2.rd, B5.rd, eVer, eStamp]
    refine rless_ok t v.at_ _ ?_
    intro h6 e6
    replace B5 := B5.ext e6
    simp (disch := first | exact Nat.le_of_ble_eq_true rfl | omega) only [AXR, AXB, J.dst, reduceIte, Nat.reduceEqDiff, Nat.reduceAdd, Nat.reduceMul, Nat.reduceLT, Nat.reduceLeDiff, f107r0, f107r1, f107r2, f107r3, f107r4, f107r5, f107r6, f107r7, f107r8, f107r9, f107r10, f107c10_eq, f107c9_eq, f107c8_eq, f107c7_eq, f107c11_eq, f107c6_eq, f107c5_eq, f107c4_eq, f107c14_eq, f107c15_eq, f107c13_eq, f107c12_eq, f107c3_eq, f107c2_eq, f107c1_eq, f107c0_eq]
    have hok : ofK c.vers t (k + 1) = if Stamp.lt t v.at_ then ofK c.vers t k else (v.data, !v.drop) := by simp [ofK, List.getD_eq_getElem?_getD, hv]
    have hw : IntKind.i64.wrap ((k : Int) + 1) = ((k + 1 : Nat) : Int) := i64_wrap (by omega) (by omega)
    refine ⟨fun h7 => ?_, fun h7 => ?_⟩
    · refine drw_lt ?_
      simp (disch := first | exact Nat.le_of_ble_eq_true rfl | omega) only [AXR, AXB, J.dst, reduceIte, Nat.reduceEqDiff, Nat.reduceAdd, Nat.reduceMul, Nat.reduceLT, Nat.reduceLeDiff, f107r0, f107r1, f107r2, f107r3, f107r4, f107r5, f107r6, f107r7, f107r8, f107r9, f107r10, f107c10_eq, f107c9_eq, f107c8_eq, f107c7_eq, f107c11_eq, f107c6_eq, f107c5_eq, f107c4_eq, f107c14_eq, f107c15_eq, f107c13_eq, f107c12_eq, f107c3_eq, f107c2_eq, f107c1_eq, f107c0_eq, B5.cel, eVer, hw]
      have h7' : Stamp.lt t v.at_ = false := by simpa using h7
      refine ⟨by have := B5.lt; omega, by have := B5.lt; omega, hnx (n - 1) _ _ (by omega) ⟨e3.trans (e5.trans e6), k + 1, by omega, ?_⟩⟩
      rw [hok, h7']; rfl
    · have h7' : Stamp.lt t v.at_ = true := by simpa using h7
      rw [hw]
      refine hnx (n - 1) _ _ (by omega) ⟨e3.trans (e5.trans e6), k + 1, by omega, ?_⟩
      rw [hok, h7']; rfl
  · have hkl : k = c.vers.length := by have := of_decide_eq_false h2; omega
    refine hex _ _ ?_
    simp (disch := first | exact Nat.le_of_ble_eq_true rfl | omega) only [AXR, AXB, J.dst, reduceIte, Nat.reduceEqDiff, Nat.reduceAdd, Nat.reduceMul, Nat.reduceLT, Nat.reduceLeDiff, f107r0, f107r1, f107r2, f107r3, f107r4, f107r5, f107r6, f107r7, f107r8, f107r9, f107r10, f107c10_eq, f107c9_eq, f107c8_eq, f107c7_eq, f107c11_eq, f107c6_eq, f107c5_eq, f107c4_eq, f107c14_eq, f107c15_eq, f107c13_eq, f107c12_eq, f107c3_eq, f107c2_eq, f107c1_eq, f107c0_eq]
    have hR := hR _ (e1.trans (e2.trans e3))
    rw [← ofV_eq] at hR
    rw [hkl]
    refine ⟨fun h3 => ?_, fun h3 => ?_⟩
    · have h3' : (ofK c.vers t c.vers.length).2 = false := by simpa using h3
      simpa [ofV, h3', noB] using hR
    · have h3' : (ofK c.vers t c.vers.length).2 = true := by simpa using h3
      simpa [ofV, h3'] using hR

/-- The first place from k on whose key is the key. -/
theorem findK_eq (cs : List Cell) (key : ByteArray) (k : Nat) (hk : ∀ j c, j < k → cs[j]? = some c → c.key ≠ key) : (∀ c, cs[k]? = some c → c.key = key → findK cs key = k) ∧ (k = cs.length → findK cs key = -1) := by
  refine ⟨fun c hc he => ?_, fun he => ?_⟩
  · have : cs.findIdx? (fun c => decide (c.key = key)) = some k := by
      rw [List.findIdx?_eq_some_iff_getElem]
      have hl : k < cs.length := by
        rcases Nat.lt_or_ge k cs.length with h | h
        · exact h
        · rw [List.getElem?_eq_none h] at hc; cases hc
      rw [List.getElem?_eq_getElem hl] at hc
      cases hc
      refine ⟨hl, by simpa using he, fun j hj => ?_⟩
      simpa using hk j _ hj (List.getElem?_eq_getElem (by omega))
    simp [findK, this]
  · have : cs.findIdx? (fun c => decide (c.key = key)) = none := by
      rw [List.findIdx?_eq_none_iff]
      intro x hx
      obtain ⟨j, hj, rfl⟩ := List.mem_iff_getElem.1 hx
      simpa using hk j _ (by omega) (List.getElem?_eq_getElem hj)
    simp [findK, this]

theorem rfind_ok {B : Nat → Prop} {a : Option Addr} {cap : Nat} (cs : List Cell) (key : ByteArray) (h : Heap) (S : SlC B h a cs) (hn : cs.length ≤ maxLen) {R : Value → Heap → Prop}
    (hR : R (vi (findK cs key)) h) : CallsH Try.prog 108 [.slice a cs.length cap, .string key] h R := by
  refine f108ok (by simp) ?_
  simp (disch := first | exact Nat.le_of_ble_eq_true rfl | omega) only [AXR, AXB, J.dst, reduceIte, Nat.reduceEqDiff, Nat.reduceAdd, Nat.reduceMul, Nat.reduceLT, Nat.reduceLeDiff, f108r0, f108r1, f108r2, f108r3, f108r4, f108r5, f108r6, f108c8_eq, f108c7_eq, f108c6_eq, f108c9_eq, f108c5_eq, f108c4_eq, f108c3_eq, f108c10_eq, f108c2_eq, f108c1_eq, f108c0_eq]
  unfold maxLen at hn
  refine loop_in (fun n σ h' => h' = h ∧ ∃ k : Nat, k + n = cs.length ∧ σ = [(0, .slice a cs.length cap), (1, .string key), (5, vi k)] ∧ ∀ j c, j < k → cs[j]? = some c → c.key ≠ key)
    cs.length ⟨rfl, 0, by omega, rfl, by intros; omega⟩ ?_
  rintro n σ h' ⟨rfl, k, hk, rfl, hnk⟩ Q' hnx hex hrt _
  simp (disch := first | exact Nat.le_of_ble_eq_true rfl | omega) only [AXR, AXB, J.dst, reduceIte, Nat.reduceEqDiff, Nat.reduceAdd, Nat.reduceMul, Nat.reduceLT, Nat.reduceLeDiff, f108r0, f108r1, f108r2, f108r3, f108r4, f108r5, f108r6, f108c8_eq, f108c7_eq, f108c6_eq, f108c9_eq, f108c5_eq, f108c4_eq, f108c3_eq, f108c10_eq, f108c2_eq, f108c1_eq, f108c0_eq]
  have hfk := findK_eq cs key k hnk
  refine ⟨fun h2 => ?_, fun h2 => ?_⟩
  · have hkl : k < cs.length := by have := of_decide_eq_true h2; omega
    obtain ⟨c, hc⟩ := get_ex hkl
    obtain ⟨b, o, v, rfl, _, hrow, hcr⟩ := S.elem hc
    simp (disch := first | exact Nat.le_of_ble_eq_true rfl | omega) only [AXR, AXB, J.dst, reduceIte, Nat.reduceEqDiff, Nat.reduceAdd, Nat.reduceMul, Nat.reduceLT, Nat.reduceLeDiff, f108r0, f108r1, f108r2, f108r3, f108r4, f108r5, f108r6, f108c8_eq, f108c7_eq, f108c6_eq, f108c9_eq, f108c5_eq, f108c4_eq, f108c3_eq, f108c10_eq, f108c2_eq, f108c1_eq, f108c0_eq, row_cv hrow, keq_iff, hcr.key]
    refine ⟨by omega, by omega, fun h3 => ?_, fun h3 => ?_⟩
    · refine hrt _ _ ?_
      simp (disch := first | exact Nat.le_of_ble_eq_true rfl | omega) only [AXR, AXB, J.dst, reduceIte, Nat.reduceEqDiff, Nat.reduceAdd, Nat.reduceMul, Nat.reduceLT, Nat.reduceLeDiff]
      rw [hfk.1 c hc (by simpa using h3)] at hR
      exact hR
    · rw [i64_wrap (by omega) (by omega)]
      refine hnx (n - 1) _ _ (by omega) ⟨rfl, k + 1, by omega, rfl, ?_⟩
      intro j c' hj hc'
      rcases Nat.lt_or_ge j k with hlt | hge
      · exact hnk j c' hlt hc'
      · have : j = k := by omega
        subst this
        rw [hc] at hc'; cases hc'
        simpa using h3
  · have hkl : k = cs.length := by have := of_decide_eq_false h2; omega
    refine hex _ _ ?_
    try simp (disch := first | exact Nat.le_of_ble_eq_true rfl | omega) only [AXR, AXB, J.dst, reduceIte, Nat.reduceEqDiff, Nat.reduceAdd, Nat.reduceMul, Nat.reduceLT, Nat.reduceLeDiff, f108r0, f108r1, f108r2, f108r3, f108r4, f108r5, f108r6, f108c8_eq, f108c7_eq, f108c6_eq, f108c9_eq, f108c5_eq, f108c4_eq, f108c3_eq, f108c10_eq, f108c2_eq, f108c1_eq, f108c0_eq]
    rw [hfk.2 hkl] at hR
    exact hR
end Go.Proofs.Ytefghfgmkndikaa
/-
  Walks: strings' order, the search.
-/
namespace Go.AX
open Go
theorem raw_shr {P : Program} {o : Oper} {σ : Env} {h : Heap} {K : Value → Heap → Prop} {t yt : TypeId} {x y : Operand} {k yk : IntKind} {a b : Int} (ho : o.op = .binOp .shr t x y yt)
    (hx : evO σ x = some (.int k a)) (hy : evO σ y = some (.int yk b)) (h0 : 0 ≤ b) (h1 : b ≤ k.bits) (hK : K (.int k (a / 2 ^ b.toNat)) h) : RawW P o σ h K := by
  refine ⟨?_, ?_, ?_⟩
  · rw [ho]; intro u hu
    simp only [Op.operands, List.mem_toArray, List.mem_cons, List.not_mem_nil, or_false] at hu
    rcases hu with rfl | rfl
    · rw [hx]; rfl
    · rw [hy]; rfl
  · rw [ho]; intro cs b hh; cases hh
  · intro w hw
    refine ⟨.value (.int k (a / 2 ^ b.toNat)), _, w, ?_, rfl, Same.refl w, by rw [hw]; exact hK⟩
    simp [execOp, ho, hx, hy, eqGuard, binOp, shift_shr k yk a b h0 h1]
end Go.AX
namespace Go.Proofs.Ytefghfgmkndikaa
open Go Go.AX

theorem cmpStr_ok (a b : ByteArray) (h : Heap) {R : Value → Heap → Prop} (hR : R (vi (kcmp a b)) h) : CallsH Try.prog 139 [.string a, .string b] h R := by
  refine f139ok (by simp) ?_
  simp (disch := first | exact Nat.le_of_ble_eq_true rfl | omega) only [AXR, AXB, J.dst, reduceIte, Nat.reduceEqDiff, Nat.reduceAdd, Nat.reduceMul, Nat.reduceLT, Nat.reduceLeDiff, f139r0, f139r1, f139c1_eq, f139c0_eq]
  rw [wL_raw]
  refine raw_ext (f := 153) (e := Extern.BytealgCompare.compare) (vs := [.string a, .string b]) (v := vi (kcmp a b)) rfl Try.func153 (by kernel_rfl) (by kernel_rfl) (by kernel_rfl) (by kernel_rfl) (by rfl) (fun w _ => ?_) ?_
  · have := Lib.run_compareString (P := Try.prog) a b w
    rw [← ByteArray.toList_eq, ← ByteArray.toList_eq, cmp_kcmp] at this
    exact this
  refine ⟨trivial, ?_⟩
  simp (disch := first | exact Nat.le_of_ble_eq_true rfl | omega) only [AXR, AXB, J.dst, reduceIte, Nat.reduceEqDiff, Nat.reduceAdd, Nat.reduceMul, Nat.reduceLT, Nat.reduceLeDiff, f139r0, f139r1, f139c1_eq, f139c0_eq]
  exact hR

theorem strCmp_ok (a b : ByteArray) (h : Heap) {R : Value → Heap → Prop} (hR : R (vi (kcmp a b)) h) : CallsH Try.prog 118 [.string a, .string b] h R := by
  refine f118ok (by simp) ?_
  simp (disch := first | exact Nat.le_of_ble_eq_true rfl | omega) only [AXR, AXB, J.dst, reduceIte, Nat.reduceEqDiff, Nat.reduceAdd, Nat.reduceMul, Nat.reduceLT, Nat.reduceLeDiff, f118r0, f118r1, f118c1_eq, f118c0_eq]
  refine cmpStr_ok a b h ?_
  exact hR

theorem key_ok (x : CV) (key : ByteArray) (h : Heap) {R : Value → Heap → Prop} (hR : ∀ h', Ext h h' → R (vi (kcmp x.key key)) h') : CallsH Try.prog 117 [.agg (eCV x).toArray, .string key] h R := by
  refine f117ok (by simp) ?_
  simp (disch := first | exact Nat.le_of_ble_eq_true rfl | omega) only [AXR, AXB, J.dst, reduceIte, Nat.reduceEqDiff, Nat.reduceAdd, Nat.reduceMul, Nat.reduceLT, Nat.reduceLeDiff, f117r0, f117r1, f117c1_eq, f117c0_eq]
  refine wL_boxN rfl ?_; rintro b1 h1 e1 s1 hb1 (B1 : Blk _ _ _ (eCV x))
  simp (disch := first | exact Nat.le_of_ble_eq_true rfl | omega) only [AXR, AXB, J.dst, reduceIte, Nat.reduceEqDiff, Nat.reduceAdd, Nat.reduceMul, Nat.reduceLT, Nat.reduceLeDiff, f117r0, f117r1, f117c1_eq, f117c0_eq, B1.cel, eCV]
  refine strCmp_ok _ _ _ ?_
  exact hR _ e1

/-- Where the keys rise: what is ahead of one that is ahead is ahead. -/
theorem sorted_get {cs : List Cell} (S : Sorted cs) {p q : Nat} {c d : Cell} (hp : cs[p]? = some c) (hq : cs[q]? = some d) (hpq : p < q) : klt c.key d.key = true := by
  obtain ⟨h1, rfl⟩ := List.getElem?_eq_some_iff.1 hp
  obtain ⟨h2, rfl⟩ := List.getElem?_eq_some_iff.1 hq
  exact List.pairwise_iff_getElem.1 S p q h1 h2 hpq
theorem sorted_lt_key {cs : List Cell} (S : Sorted cs) {p q : Nat} {c d : Cell} {key : ByteArray} (hp : cs[p]? = some c) (hq : cs[q]? = some d) (hpq : p ≤ q) (hd : klt d.key key = true) : klt c.key key = true := by
  rcases Nat.lt_or_ge p q with h | h
  · exact klt_trans (sorted_get S hp hq h) hd
  · have : p = q := by omega
    subst this; rw [hp] at hq; cases hq; exact hd
theorem lbK_eq (key : ByteArray) : ∀ (cs : List Cell) (i : Nat), i ≤ cs.length → (∀ p c, p < i → cs[p]? = some c → klt c.key key = true) → (∀ c, cs[i]? = some c → klt c.key key = false) → lbK cs key = i
  | [], i, h, _, _ => by have : i = 0 := by simpa using h
                         subst this; rfl
  | c :: cs, 0, _, _, h => by
    have := h c rfl
    simp [lbK, List.takeWhile, this]
  | c :: cs, i + 1, hl, h, h' => by
    have h0 := h 0 c (by omega) rfl
    have := lbK_eq key cs i (by simpa using hl) (fun p d hp hd => h (p + 1) d (by omega) (by simpa using hd)) (fun d hd => h' d (by simpa using hd))
    unfold lbK at this ⊢
    simp [List.takeWhile, h0, this]
theorem lbK_le (cs : List Cell) (key : ByteArray) : lbK cs key ≤ cs.length := by unfold lbK; exact List.Sublist.length_le (List.takeWhile_sublist _)
theorem kcmp_lt (a b : ByteArray) : kcmp a b < 0 ↔ klt a b = true := by
  unfold kcmp; split
  · simp_all
  · split <;> simp_all
theorem kcmp_eq (a b : ByteArray) : kcmp a b = 0 ↔ a = b := by
  unfold kcmp
  rcases klt_total a b with h | h | h
  · simp [h, klt_ne h]
  · subst h; simp [klt_irrefl]
  · simp [h, klt_asymm h, (klt_ne h).symm]

theorem search_ok {B : Nat → Prop} {a : Option Addr} {cap : Nat} (cs : List Cell) (key : ByteArray) (h : Heap) (S : SlC B h a cs) (hs : Sorted cs) (hn : cs.length ≤ maxLen) {R : Value → Heap → Prop}
    (hR : ∀ h', Ext h h' → R (.tuple #[vi (lbK cs key), .bool (hasK cs key)]) h') : CallsH Try.prog 116 [.slice a cs.length cap, .string key, .func (.func 117) #[] #[]] h R := by
  refine f116ok (by simp) ?_
  simp (disch := first | exact Nat.le_of_ble_eq_true rfl | omega) only [AXR, AXB, J.dst, reduceIte, Nat.reduceEqDiff, Nat.reduceAdd, Nat.reduceMul, Nat.reduceLT, Nat.reduceLeDiff, f116r0, f116r1, f116r2, f116r3, f116r4, f116r5, f116r6, f116r7, f116r8, f116c10_eq, f116c11_eq, f116c9_eq, f116c8_eq, f116c7_eq, f116c6_eq, f116c5_eq, f116c4_eq, f116c12_eq, f116c3_eq, f116c2_eq, f116c1_eq, f116c0_eq]
  unfold maxLen at hn
  refine loop_in (fun n σ h' => Ext h h' ∧ ∃ i j : Nat, j = i + n ∧ j ≤ cs.length ∧ σ = [(0, .slice a cs.length cap), (1, .string key), (2, .func (.func 117) #[] #[]), (8, vi cs.length), (9, vi i), (10, vi j)] ∧
      (∀ p c, p < i → cs[p]? = some c → klt c.key key = true) ∧ (∀ c, cs[j]? = some c → klt c.key key = false))
    cs.length ⟨Ext.refl _, 0, cs.length, by omega, by omega, rfl, by intros; omega, by simp⟩ ?_
  rintro n σ h' ⟨e1, i, j, hj, hjl, rfl, hlo, hhi⟩ Q' hnx hex hrt _
  simp (disch := first | exact Nat.le_of_ble_eq_true rfl | omega) only [AXR, AXB, J.dst, reduceIte, Nat.reduceEqDiff, Nat.reduceAdd, Nat.reduceMul, Nat.reduceLT, Nat.reduceLeDiff, f116r0, f116r1, f116r2, f116r3, f116r4, f116r5, f116r6, f116r7, f116r8, f116c10_eq, f116c11_eq, f116c9_eq, f116c8_eq, f116c7_eq, f116c6_eq, f116c5_eq, f116c4_eq, f116c12_eq, f116c3_eq, f116c2_eq, f116c1_eq, f116c0_eq]
  refine ⟨fun h2 => ?_, fun h2 => ?_⟩
  · have hij : i < j := by have := of_decide_eq_true h2; omega
    rw [wL_raw]
    refine raw_shr rfl rfl rfl (by decide) (by decide) ?_
    refine ⟨trivial, ?_⟩
    have hmid : IntKind.i64.wrap (IntKind.u64.wrap (IntKind.i64.wrap ((i : Int) + j)) / 2 ^ (1 : Int).toNat) = (((i + j) / 2 : Nat) : Int) := by
      have : IntKind.u64.wrap (IntKind.i64.wrap ((i : Int) + j)) = (i : Int) + j := by unfold IntKind.wrap IntKind.bits IntKind.signed; simp; omega
      rw [this]
      have e2 : ((i : Int) + j) / 2 ^ (1 : Int).toNat = (((i + j) / 2 : Nat) : Int) := by
        show ((i : Int) + j) / 2 = _
        omega
      rw [e2]
      exact i64_wrap (by omega) (by omega)
    simp (disch := first | exact Nat.le_of_ble_eq_true rfl | omega) only [AXR, AXB, J.dst, reduceIte, Nat.reduceEqDiff, Nat.reduceAdd, Nat.reduceMul, Nat.reduceLT, Nat.reduceLeDiff, f116r0, f116r1, f116r2, f116r3, f116r4, f116r5, f116r6, f116r7, f116r8, f116c10_eq, f116c11_eq, f116c9_eq, f116c8_eq, f116c7_eq, f116c6_eq, f116c5_eq, f116c4_eq, f116c12_eq, f116c3_eq, f116c2_eq, f116c1_eq, f116c0_eq, hmid]
    obtain ⟨m, hm⟩ : ∃ m, m = (i + j) / 2 := ⟨_, rfl⟩
    rw [← hm]
    obtain ⟨c, hc⟩ := get_ex (show m < cs.length by omega)
    obtain ⟨b, o, v, rfl, _, hrow, hcr⟩ := (S.ext e1).elem hc
    simp (disch := first | exact Nat.le_of_ble_eq_true rfl | omega) only [AXR, AXB, J.dst, reduceIte, Nat.reduceEqDiff, Nat.reduceAdd, Nat.reduceMul, Nat.reduceLT, Nat.reduceLeDiff, f116r0, f116r1, f116r2, f116r3, f116r4, f116r5, f116r6, f116r7, f116r8, f116c10_eq, f116c11_eq, f116c9_eq, f116c8_eq, f116c7_eq, f116c6_eq, f116c5_eq, f116c4_eq, f116c12_eq, f116c3_eq, f116c2_eq, f116c1_eq, f116c0_eq, row_cv hrow]
    refine ⟨by omega, by omega, ?_⟩
    refine wL_cav _ _ _ _ _ _ _ rfl rfl f117cal ?_
    refine key_ok v key _ ?_
    intro h3 e3
    refine ⟨trivial, ?_⟩
    simp (disch := first | exact Nat.le_of_ble_eq_true rfl | omega) only [AXR, AXB, J.dst, reduceIte, Nat.reduceEqDiff, Nat.reduceAdd, Nat.reduceMul, Nat.reduceLT, Nat.reduceLeDiff, f116r0, f116r1, f116r2, f116r3, f116r4, f116r5, f116r6, f116r7, f116r8, f116c10_eq, f116c11_eq, f116c9_eq, f116c8_eq, f116c7_eq, f116c6_eq, f116c5_eq, f116c4_eq, f116c12_eq, f116c3_eq, f116c2_eq, f116c1_eq, f116c0_eq, hcr.key]
    have hk := kcmp_lt c.key key
    refine ⟨fun h4 => ?_, fun h4 => ?_⟩
    · have h4 : klt c.key key = true := by simpa [hk] using h4
      rw [i64_wrap (by omega) (by omega)]
      exact hnx (j - (m + 1)) _ _ (by omega) ⟨e1.trans e3, m + 1, j, by omega, hjl, rfl, fun p d hp hd => sorted_lt_key hs hd hc (by omega) h4, hhi⟩
    · have h4 : klt c.key key = false := by
        have := of_decide_eq_false h4
        rw [hk] at this; simpa using this
      refine hnx (m - i) _ _ (by omega) ⟨e1.trans e3, i, m, by omega, by omega, rfl, hlo, ?_⟩
      intro d hd; rw [hc] at hd; cases hd; exact h4
  · have hij : i = j := by have := of_decide_eq_false h2; omega
    subst hij
    refine hex _ _ ?_
    simp (disch := first | exact Nat.le_of_ble_eq_true rfl | omega) only [AXR, AXB, J.dst, reduceIte, Nat.reduceEqDiff, Nat.reduceAdd, Nat.reduceMul, Nat.reduceLT, Nat.reduceLeDiff, f116r0, f116r1, f116r2, f116r3, f116r4, f116r5, f116r6, f116r7, f116r8, f116c10_eq, f116c11_eq, f116c9_eq, f116c8_eq, f116c7_eq, f116c6_eq, f116c5_eq, f116c4_eq, f116c12_eq, f116c3_eq, f116c2_eq, f116c1_eq, f116c0_eq]
    have hlb := lbK_eq key cs i hjl hlo hhi
    refine ⟨fun h3 => ?_, fun h3 => ?_⟩
    · obtain ⟨c, hc⟩ := get_ex (show i < cs.length by have := of_decide_eq_true h3; omega)
      obtain ⟨b, o, v, rfl, _, hrow, hcr⟩ := (S.ext e1).elem hc
      simp (disch := first | exact Nat.le_of_ble_eq_true rfl | omega) only [AXR, AXB, J.dst, reduceIte, Nat.reduceEqDiff, Nat.reduceAdd, Nat.reduceMul, Nat.reduceLT, Nat.reduceLeDiff, f116r0, f116r1, f116r2, f116r3, f116r4, f116r5, f116r6, f116r7, f116r8, f116c10_eq, f116c11_eq, f116c9_eq, f116c8_eq, f116c7_eq, f116c6_eq, f116c5_eq, f116c4_eq, f116c12_eq, f116c3_eq, f116c2_eq, f116c1_eq, f116c0_eq, row_cv hrow]
      refine ⟨by omega, by have := of_decide_eq_true h3; omega, ?_⟩
      refine wL_cav _ _ _ _ _ _ _ rfl rfl f117cal ?_
      refine key_ok v key _ ?_
      intro h4 e4
      refine ⟨trivial, ?_⟩
      simp (disch := first | exact Nat.le_of_ble_eq_true rfl | omega) only [AXR, AXB, J.dst, reduceIte, Nat.reduceEqDiff, Nat.reduceAdd, Nat.reduceMul, Nat.reduceLT, Nat.reduceLeDiff, f116r0, f116r1, f116r2, f116r3, f116r4, f116r5, f116r6, f116r7, f116r8, f116c10_eq, f116c11_eq, f116c9_eq, f116c8_eq, f116c7_eq, f116c6_eq, f116c5_eq, f116c4_eq, f116c12_eq, f116c3_eq, f116c2_eq, f116c1_eq, f116c0_eq, hcr.key]
      have hh : hasK cs key = (kcmp c.key key == 0) := by
        have := kcmp_eq c.key key
        rw [Bool.eq_iff_iff]
        simp [hasK, hlb, hc, this]
      have := hR _ (e1.trans e4)
      rw [hlb, hh] at this
      exact this
    · have hh : hasK cs key = false := by
        have : cs[i]? = none := List.getElem?_eq_none (by have := of_decide_eq_false h3; omega)
        simp [hasK, hlb, this]
      have := hR _ e1
      rw [hlb, hh] at this
      exact this

theorem find_ok {B : Nat → Prop} {a : Option Addr} {cap : Nat} (cs : List Cell) (key : ByteArray) (h : Heap) (S : SlC B h a cs) (hs : Sorted cs) (hn : cs.length ≤ maxLen) {R : Value → Heap → Prop}
    (hR : ∀ h', Ext h h' → R (.tuple #[vi (lbK cs key), .bool (hasK cs key)]) h') : CallsH Try.prog 87 [.slice a cs.length cap, .string key] h R := by
  refine f87ok (by simp) ?_
  simp (disch := first | exact Nat.le_of_ble_eq_true rfl | omega) only [AXR, AXB, J.dst, reduceIte, Nat.reduceEqDiff, Nat.reduceAdd, Nat.reduceMul, Nat.reduceLT, Nat.reduceLeDiff, f87r0, f87r1, f87c1_eq, f87c0_eq]
  refine search_ok cs key h S hs hn ?_
  intro h1 e1
  try simp (disch := first | exact Nat.le_of_ble_eq_true rfl | omega) only [AXR, AXB, J.dst, reduceIte, Nat.reduceEqDiff, Nat.reduceAdd, Nat.reduceMul, Nat.reduceLT, Nat.reduceLeDiff, f87r0, f87r1, f87c1_eq, f87c0_eq]
  exact hR _ e1

end Go.Proofs.Ytefghfgmkndikaa
/-
  Walks: what cells tell.
-/
namespace Go.Proofs.Ytefghfgmkndikaa
open Go Go.AX

/-- Get by the key's place. -/
def getK (cs : List Cell) (key : ByteArray) (t : Stamp) : ByteArray × Bool := match cs[lbK cs key]? with | some c => if c.key = key then tellV c.vers t else (noB, false) | none => (noB, false)
/-- All rows of versions may be counted. -/
def Fit (cs : List Cell) : Prop := ∀ c ∈ cs, c.vers.length ≤ maxLen
theorem Fit.get {cs : List Cell} (F : Fit cs) {i : Nat} {c : Cell} (h : cs[i]? = some c) : c.vers.length ≤ maxLen := F c (List.mem_of_getElem? h)

theorem get_ok {B : Nat → Prop} {a : Option Addr} {cap : Nat} (cs : List Cell) (key : ByteArray) (t : Stamp) (h : Heap) (S : SlC B h a cs) (hs : Sorted cs) (hn : cs.length ≤ maxLen) (F : Fit cs) {R : Value → Heap → Prop}
    (hR : ∀ h', Ext h h' → R (.tuple #[.string (getK cs key t).1, .bool (getK cs key t).2]) h') : CallsH Try.prog 41 [.slice a cs.length cap, .string key, .agg (eStamp t).toArray] h R := by
  refine f41ok (by simp) ?_
  simp (disch := first | exact Nat.le_of_ble_eq_true rfl | omega) only [AXR, AXB, J.dst, reduceIte, Nat.reduceEqDiff, Nat.reduceAdd, Nat.reduceMul, Nat.reduceLT, Nat.reduceLeDiff, f41r0, f41r1, f41r2, f41r3, f41r4, f41c4_eq, f41c5_eq, f41c3_eq, f41c2_eq, f41c1_eq, f41c0_eq]
  refine wL_boxN rfl ?_; rintro b1 h1 e1 s1 hb1 (B1 : Blk _ _ _ (eStamp t))
  simp (disch := first | exact Nat.le_of_ble_eq_true rfl | omega) only [AXR, AXB, J.dst, reduceIte, Nat.reduceEqDiff, Nat.reduceAdd, Nat.reduceMul, Nat.reduceLT, Nat.reduceLeDiff, f41r0, f41r1, f41r2, f41r3, f41r4, f41c4_eq, f41c5_eq, f41c3_eq, f41c2_eq, f41c1_eq, f41c0_eq]
  refine find_ok cs key _ (S.ext e1) hs hn ?_
  intro h2 e2
  replace B1 := B1.ext e2
  simp (disch := first | exact Nat.le_of_ble_eq_true rfl | omega) only [AXR, AXB, J.dst, reduceIte, Nat.reduceEqDiff, Nat.reduceAdd, Nat.reduceMul, Nat.reduceLT, Nat.reduceLeDiff, f41r0, f41r1, f41r2, f41r3, f41r4, f41c4_eq, f41c5_eq, f41c3_eq, f41c2_eq, f41c1_eq, f41c0_eq]
  refine ⟨fun h3 => ?_, fun h3 => ?_⟩
  · have : getK cs key t = (noB, false) := by
      unfold getK
      unfold hasK at h3
      split
      · rename_i c hc; rw [hc] at h3; rw [if_neg (by simpa using h3)]
      · rfl
    have hR := hR _ (e1.trans e2)
    rw [this] at hR
    exact hR
  · refine drw_lt ?_
    have hk : hasK cs key = true := by simpa using h3
    unfold hasK at hk
    split at hk
    · rename_i c hc
      obtain ⟨b, o, v, rfl, _, hrow, hcr⟩ := (S.ext (e1.trans e2)).elem hc
      have hlt : lbK cs key < cs.length := (List.getElem?_eq_some_iff.1 hc).1
      simp (disch := first | exact Nat.le_of_ble_eq_true rfl | omega) only [AXR, AXB, J.dst, reduceIte, Nat.reduceEqDiff, Nat.reduceAdd, Nat.reduceMul, Nat.reduceLT, Nat.reduceLeDiff, f41r0, f41r1, f41r2, f41r3, f41r4, f41c4_eq, f41c5_eq, f41c3_eq, f41c2_eq, f41c1_eq, f41c0_eq, row_cv hrow, B1.rd, eStamp]
      refine ⟨by omega, by omega, hrow.lt (by rw [eCV_len]; omega), B1.lt, ?_⟩
      refine tells_ok v c t _ hcr (F.get hc) ?_
      intro h4 e4
      refine ⟨kp_ext (Nat.le_refl _) e4, ?_⟩
      simp (disch := first | exact Nat.le_of_ble_eq_true rfl | omega) only [AXR, AXB, J.dst, reduceIte, Nat.reduceEqDiff, Nat.reduceAdd, Nat.reduceMul, Nat.reduceLT, Nat.reduceLeDiff, f41r0, f41r1, f41r2, f41r3, f41r4, f41c4_eq, f41c5_eq, f41c3_eq, f41c2_eq, f41c1_eq, f41c0_eq]
      have hR := hR _ (e1.trans (e2.trans e4))
      have : getK cs key t = tellV c.vers t := by unfold getK; rw [hc]; simp only [if_pos (of_decide_eq_true hk)]
      rw [this] at hR
      exact hR
    · cases hk

def rgetK (cs : List Cell) (key : ByteArray) (t : Stamp) : ByteArray × Bool := if findK cs key < 0 then (noB, false) else tellV (cs.getD (findK cs key).toNat default).vers t
theorem findK_lt (cs : List Cell) (key : ByteArray) : findK cs key < cs.length := by
  unfold findK
  split
  · rename_i i hi
    obtain ⟨h, _⟩ := List.findIdx?_eq_some_iff_getElem.1 hi
    omega
  · omega

theorem rget_ok {B : Nat → Prop} {a : Option Addr} {cap : Nat} (cs : List Cell) (key : ByteArray) (t : Stamp) (h : Heap) (S : SlC B h a cs) (hn : cs.length ≤ maxLen) (F : Fit cs) {R : Value → Heap → Prop}
    (hR : ∀ h', Ext h h' → R (.tuple #[.string (rgetK cs key t).1, .bool (rgetK cs key t).2]) h') : CallsH Try.prog 72 [.slice a cs.length cap, .string key, .agg (eStamp t).toArray] h R := by
  refine f72ok (by simp) ?_
  simp (disch := first | exact Nat.le_of_ble_eq_true rfl | omega) only [AXR, AXB, J.dst, reduceIte, Nat.reduceEqDiff, Nat.reduceAdd, Nat.reduceMul, Nat.reduceLT, Nat.reduceLeDiff, f72r0, f72r1, f72r2, f72r3, f72r4, f72c4_eq, f72c5_eq, f72c3_eq, f72c2_eq, f72c1_eq, f72c0_eq]
  refine wL_boxN rfl ?_; rintro b1 h1 e1 s1 hb1 (B1 : Blk _ _ _ (eStamp t))
  simp (disch := first | exact Nat.le_of_ble_eq_true rfl | omega) only [AXR, AXB, J.dst, reduceIte, Nat.reduceEqDiff, Nat.reduceAdd, Nat.reduceMul, Nat.reduceLT, Nat.reduceLeDiff, f72r0, f72r1, f72r2, f72r3, f72r4, f72c4_eq, f72c5_eq, f72c3_eq, f72c2_eq, f72c1_eq, f72c0_eq]
  refine rfind_ok cs key _ (S.ext e1) hn ?_
  simp (disch := first | exact Nat.le_of_ble_eq_true rfl | omega) only [AXR, AXB, J.dst, reduceIte, Nat.reduceEqDiff, Nat.reduceAdd, Nat.reduceMul, Nat.reduceLT, Nat.reduceLeDiff, f72r0, f72r1, f72r2, f72r3, f72r4, f72c4_eq, f72c5_eq, f72c3_eq, f72c2_eq, f72c1_eq, f72c0_eq]
  refine ⟨fun h3 => ?_, fun h3 => ?_⟩
  · have : rgetK cs key t = (noB, false) := by unfold rgetK; rw [if_pos (of_decide_eq_true h3)]
    have hR := hR _ e1
    rw [this] at hR
    exact hR
  · refine drw_lt ?_
    have h3 := of_decide_eq_false h3
    have hb := findK_lt cs key
    obtain ⟨k, hk⟩ : ∃ k : Nat, findK cs key = k := ⟨(findK cs key).toNat, by omega⟩
    rw [hk] at hb h3
    obtain ⟨c, hc⟩ := get_ex (show k < cs.length by omega)
    obtain ⟨b, o, v, rfl, _, hrow, hcr⟩ := (S.ext e1).elem hc
    simp (disch := first | exact Nat.le_of_ble_eq_true rfl | omega) only [AXR, AXB, J.dst, reduceIte, Nat.reduceEqDiff, Nat.reduceAdd, Nat.reduceMul, Nat.reduceLT, Nat.reduceLeDiff, f72r0, f72r1, f72r2, f72r3, f72r4, f72c4_eq, f72c5_eq, f72c3_eq, f72c2_eq, f72c1_eq, f72c0_eq, hk, row_cv hrow, B1.rd, eStamp]
    refine ⟨by omega, by omega, hrow.lt (by rw [eCV_len]; omega), B1.lt, ?_⟩
    refine of_ok v c t _ hcr (F.get hc) ?_
    intro h4 e4
    refine ⟨kp_ext (Nat.le_refl _) e4, ?_⟩
    simp (disch := first | exact Nat.le_of_ble_eq_true rfl | omega) only [AXR, AXB, J.dst, reduceIte, Nat.reduceEqDiff, Nat.reduceAdd, Nat.reduceMul, Nat.reduceLT, Nat.reduceLeDiff, f72r0, f72r1, f72r2, f72r3, f72r4, f72c4_eq, f72c5_eq, f72c3_eq, f72c2_eq, f72c1_eq, f72c0_eq]
    have hR := hR _ (e1.trans e4)
    have : rgetK cs key t = tellV c.vers t := by unfold rgetK; rw [hk, if_neg h3, Int.toNat_natCast, getD_of hc]
    rw [this] at hR
    exact hR
end Go.Proofs.Ytefghfgmkndikaa
/-
  Walks: slices.Insert of one element, slices.Clone.
-/
namespace Go.AX
open Go
theorem Own.room {lo : Nat} {h : Heap} {e s : Nat} {a : Option Addr} {n c : Nat} {xs : List Value} (O : Own lo h e s a n c xs) : n ≤ c ∧ c ≤ maxLen := by
  rcases O.2 with ⟨_, h1, h2⟩ | ⟨g, cur, _, _, _, h1, h2, _⟩
  · subst h1; subst h2; exact ⟨Nat.le_refl _, Nat.zero_le _⟩
  · exact ⟨h1, h2⟩
theorem Own.blk {lo : Nat} {h : Heap} {e s : Nat} {a : Option Addr} {n c : Nat} {xs : List Value} (O : Own lo h e s a n c xs) (hn : 0 < c) : ∃ g cur, a = some ⟨g, 0, none⟩ ∧ lo ≤ g ∧ Blk h g e cur ∧ cur.length = c * s ∧ cur.take (n * s) = xs := by
  rcases O.2 with ⟨_, _, h2⟩ | ⟨g, cur, rfl, h1, h2, h3, h4, h5, h6⟩
  · omega
  · exact ⟨g, cur.toList, rfl, h1, by unfold Blk; simpa using h2, by simpa using h5, h6⟩
theorem Own.of_blk {lo : Nat} {h : Heap} {e s g n c : Nat} {xs cur : List Value} (hg : lo ≤ g) (B : Blk h g e cur) (hc : cur.length = c * s) (hn : n ≤ c) (hm : c ≤ maxLen) (hx : cur.take (n * s) = xs) : Own lo h e s (some ⟨g, 0, none⟩) n c xs := by
  have hle : n * s ≤ c * s := Nat.mul_le_mul_right _ hn
  refine ⟨by rw [← hx, List.length_take]; omega, .inr ⟨g, cur.toArray, rfl, hg, B, hn, hm, by simpa using hc, by simpa using hx⟩⟩
/-- The new element in its place: shifted in place. -/
theorem ins_shift {cur xs news : List Value} {i n c s : Nat} (hi : i < n) (hc : n + 1 ≤ c) (hl : cur.length = c * s) (hx : cur.take (n * s) = xs) (hn : news.length = s) :
    (((cur.take ((i + 1) * s) ++ (xs.drop (i * s)) ++ cur.drop ((i + 1) * s + (xs.drop (i * s)).length)).take (i * s) ++ news ++
      (cur.take ((i + 1) * s) ++ (xs.drop (i * s)) ++ cur.drop ((i + 1) * s + (xs.drop (i * s)).length)).drop (i * s + news.length)).take ((n + 1) * s)) = xs.take (i * s) ++ news ++ xs.drop (i * s) := by
  have h1 : i * s ≤ n * s := Nat.mul_le_mul_right _ (by omega)
  have h2 : (n + 1) * s ≤ c * s := Nat.mul_le_mul_right _ hc
  have e1 : (i + 1) * s = i * s + s := by rw [Nat.add_mul]; omega
  have e2 : (n + 1) * s = n * s + s := by rw [Nat.add_mul]; omega
  have e3 : (i + 1) * s ≤ n * s := Nat.mul_le_mul_right _ hi
  have hxl : xs.length = n * s := by rw [← hx, List.length_take]; omega
  have hd : (xs.drop (i * s)).length = n * s - i * s := by rw [List.length_drop, hxl]
  apply List.ext_getElem?
  intro j
  rw [hd, hn]
  simp only [List.getElem?_take, List.getElem?_append, List.getElem?_drop, List.length_take, List.length_append, List.length_drop, hl, hxl, hn, ← hx]
  generalize i * s = p at *
  generalize n * s = q at *
  generalize c * s = r at *
  simp only [e1, e2] at *
  repeat' split
  all_goals first | omega | rfl | (congr 1; omega) | skip
  all_goals try (exfalso; omega)
theorem ins_grow {xs news zs : List Value} {i n s : Nat} (hi : i ≤ n) (hxl : xs.length = n * s) (hn : news.length = s) (hz : (n + 1) * s ≤ i * s + zs.length) :
    ((((xs.take (i * s) ++ zs).take (i * s) ++ news ++ (xs.take (i * s) ++ zs).drop (i * s + news.length)).take ((i + 1) * s) ++ xs.drop (i * s) ++
      ((xs.take (i * s) ++ zs).take (i * s) ++ news ++ (xs.take (i * s) ++ zs).drop (i * s + news.length)).drop ((i + 1) * s + (xs.drop (i * s)).length)).take ((n + 1) * s)) = xs.take (i * s) ++ news ++ xs.drop (i * s) := by
  have h1 : i * s ≤ n * s := Nat.mul_le_mul_right _ hi
  have e1 : (i + 1) * s = i * s + s := by rw [Nat.add_mul]; omega
  have e2 : (n + 1) * s = n * s + s := by rw [Nat.add_mul]; omega
  apply List.ext_getElem?
  intro j
  simp only [List.getElem?_take, List.getElem?_append, List.getElem?_drop, List.length_take, List.length_append, List.length_drop, hxl, hn]
  generalize i * s = p at *
  generalize n * s = q at *
  simp only [e1, e2] at *
  repeat' split
  all_goals first | omega | rfl | (congr 1; omega) | skip
  all_goals first | (exfalso; omega) | (rw [List.getElem?_eq_none (by omega)])
end Go.AX
namespace Go.Proofs.Ytefghfgmkndikaa
open Go Go.AX

theorem slT101 : slT Try.prog 101 108 4 40 = true := by kernel_rfl
theorem slT74 : slT Try.prog 74 103 12 128 = true := by kernel_rfl
theorem slT45 : slT Try.prog 45 99 2 32 = true := by kernel_rfl

/-- slices.Insert of one element. -/
theorem insV_ok {lo : Nat} {a : Option Addr} {n c i vb : Nat} {xs news : List Value} (h : Heap) (O : Own lo h 108 4 a n c xs) (hlo : lo ≤ h.size) (hi : i ≤ n) (hb : (n + 1) * 40 ≤ 140737488355328) (V : Blk h vb 108 news) (hnl : news.length = 4)
    (h1x : ∀ v ∈ xs, v.oneCell' = true) (h1n : ∀ v ∈ news, v.oneCell' = true) (hvb : a = none ∨ some vb ≠ ob a) (hlt : n < maxLen) {R : Value → Heap → Prop}
    (hR : ∀ a' c' h', Own lo h' 108 4 a' (n + 1) c' (xs.take (i * 4) ++ news ++ xs.drop (i * 4)) → Gr (ob a) h h' → (ob a' = ob a ∨ ∃ k, ob a' = some k ∧ h.size ≤ k) → R (.slice a' (n + 1) c') h') :
    CallsH Try.prog 115 [.slice a n c, vi i, sl vb 0 1 1] h R := by
  obtain ⟨hr1, hr2⟩ := O.room
  have hxl := O.1
  unfold maxLen at *
  refine f115ok (by simp) ?_
  (try simp (disch := first | exact Nat.le_of_ble_eq_true rfl | omega) only [AXR, AXB, J.dst, reduceIte, Nat.reduceEqDiff, Nat.reduceAdd, Nat.reduceMul, Nat.reduceLT, Nat.reduceLeDiff]); rw [f115c0_eq]; (try simp (disch := first | exact Nat.le_of_ble_eq_true rfl | omega) only [AXR, AXB, J.dst, reduceIte, Nat.reduceEqDiff, Nat.reduceAdd, Nat.reduceMul, Nat.reduceLT, Nat.reduceLeDiff, f115r0, f115r1, f115r2, f115r3, f115r4, f115r5, f115r6, f115r7, f115r8, f115r9, f115r10, f115r11, f115r12, f115r13, f115r14, f115r15, f115r16, f115r17, f115r18, f115r19, f115r20]); rw [f115c1_eq]; (try simp (disch := first | exact Nat.le_of_ble_eq_true rfl | omega) only [AXR, AXB, J.dst, reduceIte, Nat.reduceEqDiff, Nat.reduceAdd, Nat.reduceMul, Nat.reduceLT, Nat.reduceLeDiff, f115r0, f115r1, f115r2, f115r3, f115r4, f115r5, f115r6, f115r7, f115r8, f115r9, f115r10, f115r11, f115r12, f115r13, f115r14, f115r15, f115r16, f115r17, f115r18, f115r19, f115r20])
  refine slc_lo' (l := i) hi hr1 ?_
  intro a0 _
  (try simp (disch := first | exact Nat.le_of_ble_eq_true rfl | omega) only [AXR, AXB, J.dst, reduceIte, Nat.reduceEqDiff, Nat.reduceAdd, Nat.reduceMul, Nat.reduceLT, Nat.reduceLeDiff]); rw [f115c2_eq]; (try simp (disch := first | exact Nat.le_of_ble_eq_true rfl | omega) only [AXR, AXB, J.dst, reduceIte, Nat.reduceEqDiff, Nat.reduceAdd, Nat.reduceMul, Nat.reduceLT, Nat.reduceLeDiff, f115r0, f115r1, f115r2, f115r3, f115r4, f115r5, f115r6, f115r7, f115r8, f115r9, f115r10, f115r11, f115r12, f115r13, f115r14, f115r15, f115r16, f115r17, f115r18, f115r19, f115r20]); rw [f115c3_eq]; (try simp (disch := first | exact Nat.le_of_ble_eq_true rfl | omega) only [AXR, AXB, J.dst, reduceIte, Nat.reduceEqDiff, Nat.reduceAdd, Nat.reduceMul, Nat.reduceLT, Nat.reduceLeDiff, f115r0, f115r1, f115r2, f115r3, f115r4, f115r5, f115r6, f115r7, f115r8, f115r9, f115r10, f115r11, f115r12, f115r13, f115r14, f115r15, f115r16, f115r17, f115r18, f115r19, f115r20]); rw [f115c4_eq]; (try simp (disch := first | exact Nat.le_of_ble_eq_true rfl | omega) only [AXR, AXB, J.dst, reduceIte, Nat.reduceEqDiff, Nat.reduceAdd, Nat.reduceMul, Nat.reduceLT, Nat.reduceLeDiff, f115r0, f115r1, f115r2, f115r3, f115r4, f115r5, f115r6, f115r7, f115r8, f115r9, f115r10, f115r11, f115r12, f115r13, f115r14, f115r15, f115r16, f115r17, f115r18, f115r19, f115r20])
  rw [show (((1 : Nat) : Int) == 0) = false from rfl, br_false]
  (try simp (disch := first | exact Nat.le_of_ble_eq_true rfl | omega) only [AXR, AXB, J.dst, reduceIte, Nat.reduceEqDiff, Nat.reduceAdd, Nat.reduceMul, Nat.reduceLT, Nat.reduceLeDiff]); rw [f115c6_eq]; (try simp (disch := first | exact Nat.le_of_ble_eq_true rfl | omega) only [AXR, AXB, J.dst, reduceIte, Nat.reduceEqDiff, Nat.reduceAdd, Nat.reduceMul, Nat.reduceLT, Nat.reduceLeDiff, f115r0, f115r1, f115r2, f115r3, f115r4, f115r5, f115r6, f115r7, f115r8, f115r9, f115r10, f115r11, f115r12, f115r13, f115r14, f115r15, f115r16, f115r17, f115r18, f115r19, f115r20]); rw [f115c7_eq]; (try simp (disch := first | exact Nat.le_of_ble_eq_true rfl | omega) only [AXR, AXB, J.dst, reduceIte, Nat.reduceEqDiff, Nat.reduceAdd, Nat.reduceMul, Nat.reduceLT, Nat.reduceLeDiff, f115r0, f115r1, f115r2, f115r3, f115r4, f115r5, f115r6, f115r7, f115r8, f115r9, f115r10, f115r11, f115r12, f115r13, f115r14, f115r15, f115r16, f115r17, f115r18, f115r19, f115r20]); rw [f115c8_eq]; (try simp (disch := first | exact Nat.le_of_ble_eq_true rfl | omega) only [AXR, AXB, J.dst, reduceIte, Nat.reduceEqDiff, Nat.reduceAdd, Nat.reduceMul, Nat.reduceLT, Nat.reduceLeDiff, f115r0, f115r1, f115r2, f115r3, f115r4, f115r5, f115r6, f115r7, f115r8, f115r9, f115r10, f115r11, f115r12, f115r13, f115r14, f115r15, f115r16, f115r17, f115r18, f115r19, f115r20])
  refine ⟨fun h1 => ?_, fun h1 => ?_⟩
  · have hin : i = n := by have := eq_of_beq h1; omega
    subst hin
    (try simp (disch := first | exact Nat.le_of_ble_eq_true rfl | omega) only [AXR, AXB, J.dst, reduceIte, Nat.reduceEqDiff, Nat.reduceAdd, Nat.reduceMul, Nat.reduceLT, Nat.reduceLeDiff]); rw [f115c9_eq]; (try simp (disch := first | exact Nat.le_of_ble_eq_true rfl | omega) only [AXR, AXB, J.dst, reduceIte, Nat.reduceEqDiff, Nat.reduceAdd, Nat.reduceMul, Nat.reduceLT, Nat.reduceLeDiff, f115r0, f115r1, f115r2, f115r3, f115r4, f115r5, f115r6, f115r7, f115r8, f115r9, f115r10, f115r11, f115r12, f115r13, f115r14, f115r15, f115r16, f115r17, f115r18, f115r19, f115r20])
    rw [wL_raw]
    refine raw_append slT101 rfl rfl rfl O (by omega) (.inr ⟨vb, 0, rfl, V.row⟩) h1n (by unfold maxLen; omega) hb hlo ?_
    intro a' c' h' O' G' A'
    refine ⟨trivial, ?_⟩
    try simp (disch := first | exact Nat.le_of_ble_eq_true rfl | omega) only [AXR, AXB, J.dst, reduceIte, Nat.reduceEqDiff, Nat.reduceAdd, Nat.reduceMul, Nat.reduceLT, Nat.reduceLeDiff]
    refine hR _ _ _ ?_ G' A'
    have e1 : xs.take (i * 4) = xs := List.take_of_length_le (by omega)
    have e2 : xs.drop (i * 4) = [] := List.drop_of_length_le (by omega)
    rw [e1, e2, List.append_nil] at *
    exact O'
  have hin : i < n := by
    have : (i : Int) ≠ n := by simpa using h1
    omega
  obtain ⟨g, cur, rfl, hg, G, hcl, hct⟩ := O.blk (by omega)
  have hvb : vb ≠ g := by
    rcases hvb with hv | hv
    · cases hv
    · exact fun e => hv (by rw [e]; rfl)
  have hw : IntKind.i64.wrap ((n : Int) + ((1 : Nat) : Int)) = ((n + 1 : Nat) : Int) := i64_wrap (by omega) (by omega)
  have hwi : IntKind.i64.wrap ((i : Int) + ((1 : Nat) : Int)) = ((i + 1 : Nat) : Int) := i64_wrap (by omega) (by omega)
  have hwd : IntKind.i64.wrap (((n + 1 : Nat) : Int) - (i : Int)) = ((n + 1 - i : Nat) : Int) := by rw [i64_wrap (by omega) (by omega)]; omega
  (try simp (disch := first | exact Nat.le_of_ble_eq_true rfl | omega) only [AXR, AXB, J.dst, reduceIte, Nat.reduceEqDiff, Nat.reduceAdd, Nat.reduceMul, Nat.reduceLT, Nat.reduceLeDiff]); rw [f115c10_eq]; (try simp (disch := first | exact Nat.le_of_ble_eq_true rfl | omega) only [AXR, AXB, J.dst, reduceIte, Nat.reduceEqDiff, Nat.reduceAdd, Nat.reduceMul, Nat.reduceLT, Nat.reduceLeDiff, f115r0, f115r1, f115r2, f115r3, f115r4, f115r5, f115r6, f115r7, f115r8, f115r9, f115r10, f115r11, f115r12, f115r13, f115r14, f115r15, f115r16, f115r17, f115r18, f115r19, f115r20, hw]); rw [f115c11_eq]; (try simp (disch := first | exact Nat.le_of_ble_eq_true rfl | omega) only [AXR, AXB, J.dst, reduceIte, Nat.reduceEqDiff, Nat.reduceAdd, Nat.reduceMul, Nat.reduceLT, Nat.reduceLeDiff, f115r0, f115r1, f115r2, f115r3, f115r4, f115r5, f115r6, f115r7, f115r8, f115r9, f115r10, f115r11, f115r12, f115r13, f115r14, f115r15, f115r16, f115r17, f115r18, f115r19, f115r20, hw])
  refine ⟨fun h2 => ?_, fun h2 => ?_⟩
  · have hroom : c < n + 1 := by have := of_decide_eq_true h2; omega
    (try simp (disch := first | exact Nat.le_of_ble_eq_true rfl | omega) only [AXR, AXB, J.dst, reduceIte, Nat.reduceEqDiff, Nat.reduceAdd, Nat.reduceMul, Nat.reduceLT, Nat.reduceLeDiff]); rw [f115c12_eq]; (try simp (disch := first | exact Nat.le_of_ble_eq_true rfl | omega) only [AXR, AXB, J.dst, reduceIte, Nat.reduceEqDiff, Nat.reduceAdd, Nat.reduceMul, Nat.reduceLT, Nat.reduceLeDiff, f115r0, f115r1, f115r2, f115r3, f115r4, f115r5, f115r6, f115r7, f115r8, f115r9, f115r10, f115r11, f115r12, f115r13, f115r14, f115r15, f115r16, f115r17, f115r18, f115r19, f115r20])
    refine slc_hi (u := i) (by omega) ?_
    simp (disch := first | exact Nat.le_of_ble_eq_true rfl | omega) only [AXR, AXB, J.dst, reduceIte, Nat.reduceEqDiff, Nat.reduceAdd, Nat.reduceMul, Nat.reduceLT, Nat.reduceLeDiff, hw, hwd]
    rw [wL_raw]
    have hrow : Row h g 0 (xs.take (i * 4)) := by
      obtain ⟨g', e, _, hr⟩ := O.row (by omega)
      cases e
      have := hr.sub 0 (i * 4)
      simpa using this
    have hsum : i + (n + 1 - i) = n + 1 := by omega
    refine raw_zeros (kn := .i64) slT101 (by kernel_rfl) rfl (k := n + 1 - i) (n := i) rfl rfl hrow (by rw [List.length_take]; omega) (by omega) (by omega) (by unfold maxLen; omega) (by rw [hsum]; exact hb) ?_
    intro h3 c3 zs e3 s3 hc3 hm3 hz3 B3
    rw [hsum] at hc3 ⊢
    unfold maxLen at hm3
    refine ⟨trivial, ?_⟩
    try simp (disch := first | exact Nat.le_of_ble_eq_true rfl | omega) only [AXR, AXB, J.dst, reduceIte, Nat.reduceEqDiff, Nat.reduceAdd, Nat.reduceMul, Nat.reduceLT, Nat.reduceLeDiff]
    (try simp (disch := first | exact Nat.le_of_ble_eq_true rfl | omega) only [AXR, AXB, J.dst, reduceIte, Nat.reduceEqDiff, Nat.reduceAdd, Nat.reduceMul, Nat.reduceLT, Nat.reduceLeDiff]); rw [f115c13_eq]; (try simp (disch := first | exact Nat.le_of_ble_eq_true rfl | omega) only [AXR, AXB, J.dst, reduceIte, Nat.reduceEqDiff, Nat.reduceAdd, Nat.reduceMul, Nat.reduceLT, Nat.reduceLeDiff, f115r0, f115r1, f115r2, f115r3, f115r4, f115r5, f115r6, f115r7, f115r8, f115r9, f115r10, f115r11, f115r12, f115r13, f115r14, f115r15, f115r16, f115r17, f115r18, f115r19, f115r20])
    refine slc_lo (l := i) (by omega) (by omega) (by omega) ?_
    try simp (disch := first | exact Nat.le_of_ble_eq_true rfl | omega) only [AXR, AXB, J.dst, reduceIte, Nat.reduceEqDiff, Nat.reduceAdd, Nat.reduceMul, Nat.reduceLT, Nat.reduceLeDiff]
    rw [wL_raw]
    have V3 := V.ext e3
    have hgs := G.lt
    have hvs := V.lt
    have hl3 : (xs.take (i * 4) ++ zs).length = c3 * 4 := by
      rw [List.length_append, List.length_take, hz3]
      omega
    refine raw_copy slT101 rfl rfl rfl B3 (cs := news) (by rw [hnl, Nat.min_eq_left (by omega)]) V3.row (by rw [hl3, hnl]; omega) h1n ?_
    intro h4 u4 B4
    refine ⟨trivial, ?_⟩
    try simp (disch := first | exact Nat.le_of_ble_eq_true rfl | omega) only [AXR, AXB, J.dst, reduceIte, Nat.reduceEqDiff, Nat.reduceAdd, Nat.reduceMul, Nat.reduceLT, Nat.reduceLeDiff]
    (try simp (disch := first | exact Nat.le_of_ble_eq_true rfl | omega) only [AXR, AXB, J.dst, reduceIte, Nat.reduceEqDiff, Nat.reduceAdd, Nat.reduceMul, Nat.reduceLT, Nat.reduceLeDiff]); rw [f115c14_eq]; (try simp (disch := first | exact Nat.le_of_ble_eq_true rfl | omega) only [AXR, AXB, J.dst, reduceIte, Nat.reduceEqDiff, Nat.reduceAdd, Nat.reduceMul, Nat.reduceLT, Nat.reduceLeDiff, f115r0, f115r1, f115r2, f115r3, f115r4, f115r5, f115r6, f115r7, f115r8, f115r9, f115r10, f115r11, f115r12, f115r13, f115r14, f115r15, f115r16, f115r17, f115r18, f115r19, f115r20])
    refine ⟨fun _ => False, fun b hb => hb.elim, ?_⟩
    simp (disch := first | exact Nat.le_of_ble_eq_true rfl | omega) only [AXR, AXB, J.dst, reduceIte, Nat.reduceEqDiff, Nat.reduceAdd, Nat.reduceMul, Nat.reduceLT, Nat.reduceLeDiff, f115r11, hwi]
    refine slc_lo (l := i + 1) (by omega) (by omega) (by omega) ?_
    try simp (disch := first | exact Nat.le_of_ble_eq_true rfl | omega) only [AXR, AXB, J.dst, reduceIte, Nat.reduceEqDiff, Nat.reduceAdd, Nat.reduceMul, Nat.reduceLT, Nat.reduceLeDiff]
    refine slc_lo (l := i) (by omega) (by omega) (by omega) ?_
    try simp (disch := first | exact Nat.le_of_ble_eq_true rfl | omega) only [AXR, AXB, J.dst, reduceIte, Nat.reduceEqDiff, Nat.reduceAdd, Nat.reduceMul, Nat.reduceLT, Nat.reduceLeDiff]
    rw [wL_raw]
    have hrow4 : Row h4 g (0 + i * 4) (xs.drop (i * 4)) := by
      obtain ⟨g', e, _, hr⟩ := O.row (by omega)
      cases e
      have := (hr.ext e3).sub (i * 4) (n * 4 - i * 4)
      rw [List.take_of_length_le (by rw [List.length_drop]; omega)] at this
      exact this.at_ (u4.ne g (by omega))
    have hdl : (xs.drop (i * 4)).length = n * 4 - i * 4 := by rw [List.length_drop]; omega
    refine raw_copy slT101 rfl rfl rfl B4 (cs := xs.drop (i * 4)) (by rw [hdl, Nat.min_eq_left (by omega)]; omega) hrow4 ?_ (fun v hv => h1x v (List.mem_of_mem_drop hv)) ?_
    · rw [hdl]
      simp only [List.length_append, List.length_take, List.length_drop, hnl] at hl3 ⊢
      omega
    intro h5 u5 B5
    refine ⟨fun b hb => hb.elim, ?_⟩
    try simp (disch := first | exact Nat.le_of_ble_eq_true rfl | omega) only [AXR, AXB, J.dst, reduceIte, Nat.reduceEqDiff, Nat.reduceAdd, Nat.reduceMul, Nat.reduceLT, Nat.reduceLeDiff]
    (try simp (disch := first | exact Nat.le_of_ble_eq_true rfl | omega) only [AXR, AXB, J.dst, reduceIte, Nat.reduceEqDiff, Nat.reduceAdd, Nat.reduceMul, Nat.reduceLT, Nat.reduceLeDiff]); rw [f115c15_eq]; (try simp (disch := first | exact Nat.le_of_ble_eq_true rfl | omega) only [AXR, AXB, J.dst, reduceIte, Nat.reduceEqDiff, Nat.reduceAdd, Nat.reduceMul, Nat.reduceLT, Nat.reduceLeDiff, f115r0, f115r1, f115r2, f115r3, f115r4, f115r5, f115r6, f115r7, f115r8, f115r9, f115r10, f115r11, f115r12, f115r13, f115r14, f115r15, f115r16, f115r17, f115r18, f115r19, f115r20])
    simp only [Nat.zero_add] at B5
    have hcl5 : ∀ {l m : List Value} {p : Nat}, p + m.length ≤ l.length → (l.take p ++ m ++ l.drop (p + m.length)).length = l.length := fun h => by simp; omega
    have hl4 := hcl5 (l := xs.take (i * 4) ++ zs) (m := news) (p := i * 4) (by rw [hl3, hnl]; omega)
    refine hR _ _ _ (Own.of_blk hlo B5 ?_ hc3 (by unfold maxLen; omega) (ins_grow (by omega) hxl hnl ?_)) ((u5.ext (u4.ext e3 (Nat.le_refl _)) (Nat.le_refl _)).gr _) (.inr ⟨_, rfl, Nat.le_refl _⟩)
    · rw [hcl5 (by rw [hl4, hl3, hdl]; omega), hl4, hl3]
    · rw [hz3]; omega
  · have hroom : n + 1 ≤ c := by have := of_decide_eq_false h2; omega
    (try simp (disch := first | exact Nat.le_of_ble_eq_true rfl | omega) only [AXR, AXB, J.dst, reduceIte, Nat.reduceEqDiff, Nat.reduceAdd, Nat.reduceMul, Nat.reduceLT, Nat.reduceLeDiff]); rw [f115c16_eq]; (try simp (disch := first | exact Nat.le_of_ble_eq_true rfl | omega) only [AXR, AXB, J.dst, reduceIte, Nat.reduceEqDiff, Nat.reduceAdd, Nat.reduceMul, Nat.reduceLT, Nat.reduceLeDiff, f115r0, f115r1, f115r2, f115r3, f115r4, f115r5, f115r6, f115r7, f115r8, f115r9, f115r10, f115r11, f115r12, f115r13, f115r14, f115r15, f115r16, f115r17, f115r18, f115r19, f115r20, hw])
    refine slc_hi (u := n + 1) (by omega) ?_
    try simp (disch := first | exact Nat.le_of_ble_eq_true rfl | omega) only [AXR, AXB, J.dst, reduceIte, Nat.reduceEqDiff, Nat.reduceAdd, Nat.reduceMul, Nat.reduceLT, Nat.reduceLeDiff]
    (try simp (disch := first | exact Nat.le_of_ble_eq_true rfl | omega) only [AXR, AXB, J.dst, reduceIte, Nat.reduceEqDiff, Nat.reduceAdd, Nat.reduceMul, Nat.reduceLT, Nat.reduceLeDiff]); rw [f115c17_eq]; (try simp (disch := first | exact Nat.le_of_ble_eq_true rfl | omega) only [AXR, AXB, J.dst, reduceIte, Nat.reduceEqDiff, Nat.reduceAdd, Nat.reduceMul, Nat.reduceLT, Nat.reduceLeDiff, f115r0, f115r1, f115r2, f115r3, f115r4, f115r5, f115r6, f115r7, f115r8, f115r9, f115r10, f115r11, f115r12, f115r13, f115r14, f115r15, f115r16, f115r17, f115r18, f115r19, f115r20, hwi])
    refine slc_lo (l := i + 1) (by omega) (by omega) (by omega) ?_
    try simp (disch := first | exact Nat.le_of_ble_eq_true rfl | omega) only [AXR, AXB, J.dst, reduceIte, Nat.reduceEqDiff, Nat.reduceAdd, Nat.reduceMul, Nat.reduceLT, Nat.reduceLeDiff]
    rw [wL_raw]
    refine raw_overlaps slT101 rfl Try.func137 (by kernel_rfl) (by kernel_rfl) (by kernel_rfl) (tR := 4) (by kernel_rfl) rfl rfl V G hvb (by omega) ?_
    refine ⟨trivial, ?_⟩
    try simp (disch := first | exact Nat.le_of_ble_eq_true rfl | omega) only [AXR, AXB, J.dst, reduceIte, Nat.reduceEqDiff, Nat.reduceAdd, Nat.reduceMul, Nat.reduceLT, Nat.reduceLeDiff]
    (try simp (disch := first | exact Nat.le_of_ble_eq_true rfl | omega) only [AXR, AXB, J.dst, reduceIte, Nat.reduceEqDiff, Nat.reduceAdd, Nat.reduceMul, Nat.reduceLT, Nat.reduceLeDiff]); rw [f115c18_eq]; (try simp (disch := first | exact Nat.le_of_ble_eq_true rfl | omega) only [AXR, AXB, J.dst, reduceIte, Nat.reduceEqDiff, Nat.reduceAdd, Nat.reduceMul, Nat.reduceLT, Nat.reduceLeDiff, f115r0, f115r1, f115r2, f115r3, f115r4, f115r5, f115r6, f115r7, f115r8, f115r9, f115r10, f115r11, f115r12, f115r13, f115r14, f115r15, f115r16, f115r17, f115r18, f115r19, f115r20])
    (try simp (disch := first | exact Nat.le_of_ble_eq_true rfl | omega) only [AXR, AXB, J.dst, reduceIte, Nat.reduceEqDiff, Nat.reduceAdd, Nat.reduceMul, Nat.reduceLT, Nat.reduceLeDiff]); rw [f115c19_eq]; (try simp (disch := first | exact Nat.le_of_ble_eq_true rfl | omega) only [AXR, AXB, J.dst, reduceIte, Nat.reduceEqDiff, Nat.reduceAdd, Nat.reduceMul, Nat.reduceLT, Nat.reduceLeDiff, f115r0, f115r1, f115r2, f115r3, f115r4, f115r5, f115r6, f115r7, f115r8, f115r9, f115r10, f115r11, f115r12, f115r13, f115r14, f115r15, f115r16, f115r17, f115r18, f115r19, f115r20])
    refine ⟨fun _ => False, fun b hb => hb.elim, ?_⟩
    simp (disch := first | exact Nat.le_of_ble_eq_true rfl | omega) only [AXR, AXB, J.dst, reduceIte, Nat.reduceEqDiff, Nat.reduceAdd, Nat.reduceMul, Nat.reduceLT, Nat.reduceLeDiff, f115r15, hwi]
    refine slc_lo (l := i + 1) (by omega) (by omega) (by omega) ?_
    try simp (disch := first | exact Nat.le_of_ble_eq_true rfl | omega) only [AXR, AXB, J.dst, reduceIte, Nat.reduceEqDiff, Nat.reduceAdd, Nat.reduceMul, Nat.reduceLT, Nat.reduceLeDiff]
    refine slc_lo (l := i) (by omega) (by omega) (by omega) ?_
    try simp (disch := first | exact Nat.le_of_ble_eq_true rfl | omega) only [AXR, AXB, J.dst, reduceIte, Nat.reduceEqDiff, Nat.reduceAdd, Nat.reduceMul, Nat.reduceLT, Nat.reduceLeDiff]
    rw [wL_raw]
    have hcx : (cur.take (n * 4)).length = n * 4 := by rw [hct, hxl]
    have hcn : n * 4 ≤ cur.length := by rw [hcl]; omega
    have hrow : Row h g (0 + i * 4) (xs.drop (i * 4)) := by
      obtain ⟨g', e, _, hr⟩ := O.row (by omega)
      cases e
      have := hr.sub (i * 4) (n * 4 - i * 4)
      rw [List.take_of_length_le (by rw [List.length_drop]; omega)] at this
      exact this
    have hdl : (xs.drop (i * 4)).length = n * 4 - i * 4 := by rw [List.length_drop]; omega
    refine raw_copy slT101 rfl rfl rfl G (cs := xs.drop (i * 4)) (by rw [hdl, Nat.min_eq_right (by omega)]; omega) hrow (by rw [hdl, hcl]; omega) (fun v hv => h1x v (List.mem_of_mem_drop hv)) ?_
    intro h3 u3 B3
    refine ⟨fun b hb => hb.elim, ?_⟩
    try simp (disch := first | exact Nat.le_of_ble_eq_true rfl | omega) only [AXR, AXB, J.dst, reduceIte, Nat.reduceEqDiff, Nat.reduceAdd, Nat.reduceMul, Nat.reduceLT, Nat.reduceLeDiff]
    have hcl5 : ∀ {l m : List Value} {p : Nat}, p + m.length ≤ l.length → (l.take p ++ m ++ l.drop (p + m.length)).length = l.length := fun h => by simp; omega
    (try simp (disch := first | exact Nat.le_of_ble_eq_true rfl | omega) only [AXR, AXB, J.dst, reduceIte, Nat.reduceEqDiff, Nat.reduceAdd, Nat.reduceMul, Nat.reduceLT, Nat.reduceLeDiff]); rw [f115c20_eq]; (try simp (disch := first | exact Nat.le_of_ble_eq_true rfl | omega) only [AXR, AXB, J.dst, reduceIte, Nat.reduceEqDiff, Nat.reduceAdd, Nat.reduceMul, Nat.reduceLT, Nat.reduceLeDiff, f115r0, f115r1, f115r2, f115r3, f115r4, f115r5, f115r6, f115r7, f115r8, f115r9, f115r10, f115r11, f115r12, f115r13, f115r14, f115r15, f115r16, f115r17, f115r18, f115r19, f115r20])
    refine slc_lo (l := i) (by omega) (by omega) (by omega) ?_
    try simp (disch := first | exact Nat.le_of_ble_eq_true rfl | omega) only [AXR, AXB, J.dst, reduceIte, Nat.reduceEqDiff, Nat.reduceAdd, Nat.reduceMul, Nat.reduceLT, Nat.reduceLeDiff]
    rw [wL_raw]
    have V3 := u3.blk V hvb
    simp only [Nat.zero_add] at B3 ⊢
    have hl3 := hcl5 (l := cur) (m := xs.drop (i * 4)) (p := (i + 1) * 4) (by rw [hdl, hcl]; omega)
    refine raw_copy slT101 rfl rfl rfl B3 (cs := news) (by rw [hnl, Nat.min_eq_left (by omega)]) V3.row (by rw [hl3, hnl, hcl]; omega) h1n ?_
    intro h4 u4 B4
    refine ⟨trivial, ?_⟩
    try simp (disch := first | exact Nat.le_of_ble_eq_true rfl | omega) only [AXR, AXB, J.dst, reduceIte, Nat.reduceEqDiff, Nat.reduceAdd, Nat.reduceMul, Nat.reduceLT, Nat.reduceLeDiff]
    (try simp (disch := first | exact Nat.le_of_ble_eq_true rfl | omega) only [AXR, AXB, J.dst, reduceIte, Nat.reduceEqDiff, Nat.reduceAdd, Nat.reduceMul, Nat.reduceLT, Nat.reduceLeDiff]); rw [f115c21_eq]; (try simp (disch := first | exact Nat.le_of_ble_eq_true rfl | omega) only [AXR, AXB, J.dst, reduceIte, Nat.reduceEqDiff, Nat.reduceAdd, Nat.reduceMul, Nat.reduceLT, Nat.reduceLeDiff, f115r0, f115r1, f115r2, f115r3, f115r4, f115r5, f115r6, f115r7, f115r8, f115r9, f115r10, f115r11, f115r12, f115r13, f115r14, f115r15, f115r16, f115r17, f115r18, f115r19, f115r20])
    refine hR _ _ _ (Own.of_blk hg B4 ?_ hroom (by unfold maxLen; omega) (ins_shift hin hroom hcl hct hnl)) (u3.gr.trans u4.gr) (.inl rfl)
    rw [hcl5 (by rw [hl3, hnl, hcl]; omega), hl3, hcl]
end Go.Proofs.Ytefghfgmkndikaa
/-
  Walks: slices.Insert of one cell.
-/
namespace Go.Proofs.Ytefghfgmkndikaa
open Go Go.AX

/-- slices.Insert of one element. -/
theorem insC_ok {lo : Nat} {a : Option Addr} {n c i vb : Nat} {xs news : List Value} (h : Heap) (O : Own lo h 103 12 a n c xs) (hlo : lo ≤ h.size) (hi : i ≤ n) (hb : (n + 1) * 128 ≤ 140737488355328) (V : Blk h vb 103 news) (hnl : news.length = 12)
    (h1x : ∀ v ∈ xs, v.oneCell' = true) (h1n : ∀ v ∈ news, v.oneCell' = true) (hvb : a = none ∨ some vb ≠ ob a) (hlt : n < maxLen) {R : Value → Heap → Prop}
    (hR : ∀ a' c' h', Own lo h' 103 12 a' (n + 1) c' (xs.take (i * 12) ++ news ++ xs.drop (i * 12)) → Gr (ob a) h h' → (ob a' = ob a ∨ ∃ k, ob a' = some k ∧ h.size ≤ k) → R (.slice a' (n + 1) c') h') :
    CallsH Try.prog 88 [.slice a n c, vi i, sl vb 0 1 1] h R := by
  obtain ⟨hr1, hr2⟩ := O.room
  have hxl := O.1
  unfold maxLen at *
  refine f88ok (by simp) ?_
  (try simp (disch := first | exact Nat.le_of_ble_eq_true rfl | omega) only [AXR, AXB, J.dst, reduceIte, Nat.reduceEqDiff, Nat.reduceAdd, Nat.reduceMul, Nat.reduceLT, Nat.reduceLeDiff]); rw [f88c0_eq]; (try simp (disch := first | exact Nat.le_of_ble_eq_true rfl | omega) only [AXR, AXB, J.dst, reduceIte, Nat.reduceEqDiff, Nat.reduceAdd, Nat.reduceMul, Nat.reduceLT, Nat.reduceLeDiff, f88r0, f88r1, f88r2, f88r3, f88r4, f88r5, f88r6, f88r7, f88r8, f88r9, f88r10, f88r11, f88r12, f88r13, f88r14, f88r15, f88r16, f88r17, f88r18, f88r19, f88r20]); rw [f88c1_eq]; (try simp (disch := first | exact Nat.le_of_ble_eq_true rfl | omega) only [AXR, AXB, J.dst, reduceIte, Nat.reduceEqDiff, Nat.reduceAdd, Nat.reduceMul, Nat.reduceLT, Nat.reduceLeDiff, f88r0, f88r1, f88r2, f88r3, f88r4, f88r5, f88r6, f88r7, f88r8, f88r9, f88r10, f88r11, f88r12, f88r13, f88r14, f88r15, f88r16, f88r17, f88r18, f88r19, f88r20])
  refine slc_lo' (l := i) hi hr1 ?_
  intro a0 _
  (try simp (disch := first | exact Nat.le_of_ble_eq_true rfl | omega) only [AXR, AXB, J.dst, reduceIte, Nat.reduceEqDiff, Nat.reduceAdd, Nat.reduceMul, Nat.reduceLT, Nat.reduceLeDiff]); rw [f88c2_eq]; (try simp (disch := first | exact Nat.le_of_ble_eq_true rfl | omega) only [AXR, AXB, J.dst, reduceIte, Nat.reduceEqDiff, Nat.reduceAdd, Nat.reduceMul, Nat.reduceLT, Nat.reduceLeDiff, f88r0, f88r1, f88r2, f88r3, f88r4, f88r5, f88r6, f88r7, f88r8, f88r9, f88r10, f88r11, f88r12, f88r13, f88r14, f88r15, f88r16, f88r17, f88r18, f88r19, f88r20]); rw [f88c3_eq]; (try simp (disch := first | exact Nat.le_of_ble_eq_true rfl | omega) only [AXR, AXB, J.dst, reduceIte, Nat.reduceEqDiff, Nat.reduceAdd, Nat.reduceMul, Nat.reduceLT, Nat.reduceLeDiff, f88r0, f88r1, f88r2, f88r3, f88r4, f88r5, f88r6, f88r7, f88r8, f88r9, f88r10, f88r11, f88r12, f88r13, f88r14, f88r15, f88r16, f88r17, f88r18, f88r19, f88r20]); rw [f88c4_eq]; (try simp (disch := first | exact Nat.le_of_ble_eq_true rfl | omega) only [AXR, AXB, J.dst, reduceIte, Nat.reduceEqDiff, Nat.reduceAdd, Nat.reduceMul, Nat.reduceLT, Nat.reduceLeDiff, f88r0, f88r1, f88r2, f88r3, f88r4, f88r5, f88r6, f88r7, f88r8, f88r9, f88r10, f88r11, f88r12, f88r13, f88r14, f88r15, f88r16, f88r17, f88r18, f88r19, f88r20])
  rw [show (((1 : Nat) : Int) == 0) = false from rfl, br_false]
  (try simp (disch := first | exact Nat.le_of_ble_eq_true rfl | omega) only [AXR, AXB, J.dst, reduceIte, Nat.reduceEqDiff, Nat.reduceAdd, Nat.reduceMul, Nat.reduceLT, Nat.reduceLeDiff]); rw [f88c6_eq]; (try simp (disch := first | exact Nat.le_of_ble_eq_true rfl | omega) only [AXR, AXB, J.dst, reduceIte, Nat.reduceEqDiff, Nat.reduceAdd, Nat.reduceMul, Nat.reduceLT, Nat.reduceLeDiff, f88r0, f88r1, f88r2, f88r3, f88r4, f88r5, f88r6, f88r7, f88r8, f88r9, f88r10, f88r11, f88r12, f88r13, f88r14, f88r15, f88r16, f88r17, f88r18, f88r19, f88r20]); rw [f88c7_eq]; (try simp (disch := first | exact Nat.le_of_ble_eq_true rfl | omega) only [AXR, AXB, J.dst, reduceIte, Nat.reduceEqDiff, Nat.reduceAdd, Nat.reduceMul, Nat.reduceLT, Nat.reduceLeDiff, f88r0, f88r1, f88r2, f88r3, f88r4, f88r5, f88r6, f88r7, f88r8, f88r9, f88r10, f88r11, f88r12, f88r13, f88r14, f88r15, f88r16, f88r17, f88r18, f88r19, f88r20]); rw [f88c8_eq]; (try simp (disch := first | exact Nat.le_of_ble_eq_true rfl | omega) only [AXR, AXB, J.dst, reduceIte, Nat.reduceEqDiff, Nat.reduceAdd, Nat.reduceMul, Nat.reduceLT, Nat.reduceLeDiff, f88r0, f88r1, f88r2, f88r3, f88r4, f88r5, f88r6, f88r7, f88r8, f88r9, f88r10, f88r11, f88r12, f88r13, f88r14, f88r15, f88r16, f88r17, f88r18, f88r19, f88r20])
  refine ⟨fun h1 => ?_, fun h1 => ?_⟩
  · have hin : i = n := by have := eq_of_beq h1; omega
    subst hin
    (try simp (disch := first | exact Nat.le_of_ble_eq_true rfl | omega) only [AXR, AXB, J.dst, reduceIte, Nat.reduceEqDiff, Nat.reduceAdd, Nat.reduceMul, Nat.reduceLT, Nat.reduceLeDiff]); rw [f88c9_eq]; (try simp (disch := first | exact Nat.le_of_ble_eq_true rfl | omega) only [AXR, AXB, J.dst, reduceIte, Nat.reduceEqDiff, Nat.reduceAdd, Nat.reduceMul, Nat.reduceLT, Nat.reduceLeDiff, f88r0, f88r1, f88r2, f88r3, f88r4, f88r5, f88r6, f88r7, f88r8, f88r9, f88r10, f88r11, f88r12, f88r13, f88r14, f88r15, f88r16, f88r17, f88r18, f88r19, f88r20])
    rw [wL_raw]
    refine raw_append slT74 rfl rfl rfl O (by omega) (.inr ⟨vb, 0, rfl, V.row⟩) h1n (by unfold maxLen; omega) hb hlo ?_
    intro a' c' h' O' G' A'
    refine ⟨trivial, ?_⟩
    try simp (disch := first | exact Nat.le_of_ble_eq_true rfl | omega) only [AXR, AXB, J.dst, reduceIte, Nat.reduceEqDiff, Nat.reduceAdd, Nat.reduceMul, Nat.reduceLT, Nat.reduceLeDiff]
    refine hR _ _ _ ?_ G' A'
    have e1 : xs.take (i * 12) = xs := List.take_of_length_le (by omega)
    have e2 : xs.drop (i * 12) = [] := List.drop_of_length_le (by omega)
    rw [e1, e2, List.append_nil] at *
    exact O'
  have hin : i < n := by
    have : (i : Int) ≠ n := by simpa using h1
    omega
  obtain ⟨g, cur, rfl, hg, G, hcl, hct⟩ := O.blk (by omega)
  have hvb : vb ≠ g := by
    rcases hvb with hv | hv
    · cases hv
    · exact fun e => hv (by rw [e]; rfl)
  have hw : IntKind.i64.wrap ((n : Int) + ((1 : Nat) : Int)) = ((n + 1 : Nat) : Int) := i64_wrap (by omega) (by omega)
  have hwi : IntKind.i64.wrap ((i : Int) + ((1 : Nat) : Int)) = ((i + 1 : Nat) : Int) := i64_wrap (by omega) (by omega)
  have hwd : IntKind.i64.wrap (((n + 1 : Nat) : Int) - (i : Int)) = ((n + 1 - i : Nat) : Int) := by rw [i64_wrap (by omega) (by omega)]; omega
  (try simp (disch := first | exact Nat.le_of_ble_eq_true rfl | omega) only [AXR, AXB, J.dst, reduceIte, Nat.reduceEqDiff, Nat.reduceAdd, Nat.reduceMul, Nat.reduceLT, Nat.reduceLeDiff]); rw [f88c10_eq]; (try simp (disch := first | exact Nat.le_of_ble_eq_true rfl | omega) only [AXR, AXB, J.dst, reduceIte, Nat.reduceEqDiff, Nat.reduceAdd, Nat.reduceMul, Nat.reduceLT, Nat.reduceLeDiff, f88r0, f88r1, f88r2, f88r3, f88r4, f88r5, f88r6, f88r7, f88r8, f88r9, f88r10, f88r11, f88r12, f88r13, f88r14, f88r15, f88r16, f88r17, f88r18, f88r19, f88r20, hw]); rw [f88c11_eq]; (try simp (disch := first | exact Nat.le_of_ble_eq_true rfl | omega) only [AXR, AXB, J.dst, reduceIte, Nat.reduceEqDiff, Nat.reduceAdd, Nat.reduceMul, Nat.reduceLT, Nat.reduceLeDiff, f88r0, f88r1, f88r2, f88r3, f88r4, f88r5, f88r6, f88r7, f88r8, f88r9, f88r10, f88r11, f88r12, f88r13, f88r14, f88r15, f88r16, f88r17, f88r18, f88r19, f88r20, hw])
  refine ⟨fun h2 => ?_, fun h2 => ?_⟩
  · have hroom : c < n + 1 := by have := of_decide_eq_true h2; omega
    (try simp (disch := first | exact Nat.le_of_ble_eq_true rfl | omega) only [AXR, AXB, J.dst, reduceIte, Nat.reduceEqDiff, Nat.reduceAdd, Nat.reduceMul, Nat.reduceLT, Nat.reduceLeDiff]); rw [f88c12_eq]; (try simp (disch := first | exact Nat.le_of_ble_eq_true rfl | omega) only [AXR, AXB, J.dst, reduceIte, Nat.reduceEqDiff, Nat.reduceAdd, Nat.reduceMul, Nat.reduceLT, Nat.reduceLeDiff, f88r0, f88r1, f88r2, f88r3, f88r4, f88r5, f88r6, f88r7, f88r8, f88r9, f88r10, f88r11, f88r12, f88r13, f88r14, f88r15, f88r16, f88r17, f88r18, f88r19, f88r20])
    refine slc_hi (u := i) (by omega) ?_
    simp (disch := first | exact Nat.le_of_ble_eq_true rfl | omega) only [AXR, AXB, J.dst, reduceIte, Nat.reduceEqDiff, Nat.reduceAdd, Nat.reduceMul, Nat.reduceLT, Nat.reduceLeDiff, hw, hwd]
    rw [wL_raw]
    have hrow : Row h g 0 (xs.take (i * 12)) := by
      obtain ⟨g', e, _, hr⟩ := O.row (by omega)
      cases e
      have := hr.sub 0 (i * 12)
      simpa using this
    have hsum : i + (n + 1 - i) = n + 1 := by omega
    refine raw_zeros (kn := .i64) slT74 (by kernel_rfl) rfl (k := n + 1 - i) (n := i) rfl rfl hrow (by rw [List.length_take]; omega) (by omega) (by omega) (by unfold maxLen; omega) (by rw [hsum]; exact hb) ?_
    intro h3 c3 zs e3 s3 hc3 hm3 hz3 B3
    rw [hsum] at hc3 ⊢
    unfold maxLen at hm3
    refine ⟨trivial, ?_⟩
    try simp (disch := first | exact Nat.le_of_ble_eq_true rfl | omega) only [AXR, AXB, J.dst, reduceIte, Nat.reduceEqDiff, Nat.reduceAdd, Nat.reduceMul, Nat.reduceLT, Nat.reduceLeDiff]
    (try simp (disch := first | exact Nat.le_of_ble_eq_true rfl | omega) only [AXR, AXB, J.dst, reduceIte, Nat.reduceEqDiff, Nat.reduceAdd, Nat.reduceMul, Nat.reduceLT, Nat.reduceLeDiff]); rw [f88c13_eq]; (try simp (disch := first | exact Nat.le_of_ble_eq_true rfl | omega) only [AXR, AXB, J.dst, reduceIte, Nat.reduceEqDiff, Nat.reduceAdd, Nat.reduceMul, Nat.reduceLT, Nat.reduceLeDiff, f88r0, f88r1, f88r2, f88r3, f88r4, f88r5, f88r6, f88r7, f88r8, f88r9, f88r10, f88r11, f88r12, f88r13, f88r14, f88r15, f88r16, f88r17, f88r18, f88r19, f88r20])
    refine slc_lo (l := i) (by omega) (by omega) (by omega) ?_
    try simp (disch := first | exact Nat.le_of_ble_eq_true rfl | omega) only [AXR, AXB, J.dst, reduceIte, Nat.reduceEqDiff, Nat.reduceAdd, Nat.reduceMul, Nat.reduceLT, Nat.reduceLeDiff]
    rw [wL_raw]
    have V3 := V.ext e3
    have hgs := G.lt
    have hvs := V.lt
    have hl3 : (xs.take (i * 12) ++ zs).length = c3 * 12 := by
      rw [List.length_append, List.length_take, hz3]
      omega
    refine raw_copy slT74 rfl rfl rfl B3 (cs := news) (by rw [hnl, Nat.min_eq_left (by omega)]) V3.row (by rw [hl3, hnl]; omega) h1n ?_
    intro h4 u4 B4
    refine ⟨trivial, ?_⟩
    try simp (disch := first | exact Nat.le_of_ble_eq_true rfl | omega) only [AXR, AXB, J.dst, reduceIte, Nat.reduceEqDiff, Nat.reduceAdd, Nat.reduceMul, Nat.reduceLT, Nat.reduceLeDiff]
    (try simp (disch := first | exact Nat.le_of_ble_eq_true rfl | omega) only [AXR, AXB, J.dst, reduceIte, Nat.reduceEqDiff, Nat.reduceAdd, Nat.reduceMul, Nat.reduceLT, Nat.reduceLeDiff]); rw [f88c14_eq]; (try simp (disch := first | exact Nat.le_of_ble_eq_true rfl | omega) only [AXR, AXB, J.dst, reduceIte, Nat.reduceEqDiff, Nat.reduceAdd, Nat.reduceMul, Nat.reduceLT, Nat.reduceLeDiff, f88r0, f88r1, f88r2, f88r3, f88r4, f88r5, f88r6, f88r7, f88r8, f88r9, f88r10, f88r11, f88r12, f88r13, f88r14, f88r15, f88r16, f88r17, f88r18, f88r19, f88r20])
    refine ⟨fun _ => False, fun b hb => hb.elim, ?_⟩
    simp (disch := first | exact Nat.le_of_ble_eq_true rfl | omega) only [AXR, AXB, J.dst, reduceIte, Nat.reduceEqDiff, Nat.reduceAdd, Nat.reduceMul, Nat.reduceLT, Nat.reduceLeDiff, f88r11, hwi]
    refine slc_lo (l := i + 1) (by omega) (by omega) (by omega) ?_
    try simp (disch := first | exact Nat.le_of_ble_eq_true rfl | omega) only [AXR, AXB, J.dst, reduceIte, Nat.reduceEqDiff, Nat.reduceAdd, Nat.reduceMul, Nat.reduceLT, Nat.reduceLeDiff]
    refine slc_lo (l := i) (by omega) (by omega) (by omega) ?_
    try simp (disch := first | exact Nat.le_of_ble_eq_true rfl | omega) only [AXR, AXB, J.dst, reduceIte, Nat.reduceEqDiff, Nat.reduceAdd, Nat.reduceMul, Nat.reduceLT, Nat.reduceLeDiff]
    rw [wL_raw]
    have hrow4 : Row h4 g (0 + i * 12) (xs.drop (i * 12)) := by
      obtain ⟨g', e, _, hr⟩ := O.row (by omega)
      cases e
      have := (hr.ext e3).sub (i * 12) (n * 12 - i * 12)
      rw [List.take_of_length_le (by rw [List.length_drop]; omega)] at this
      exact this.at_ (u4.ne g (by omega))
    have hdl : (xs.drop (i * 12)).length = n * 12 - i * 12 := by rw [List.length_drop]; omega
    refine raw_copy slT74 rfl rfl rfl B4 (cs := xs.drop (i * 12)) (by rw [hdl, Nat.min_eq_left (by omega)]; omega) hrow4 ?_ (fun v hv => h1x v (List.mem_of_mem_drop hv)) ?_
    · rw [hdl]
      simp only [List.length_append, List.length_take, List.length_drop, hnl] at hl3 ⊢
      omega
    intro h5 u5 B5
    refine ⟨fun b hb => hb.elim, ?_⟩
    try simp (disch := first | exact Nat.le_of_ble_eq_true rfl | omega) only [AXR, AXB, J.dst, reduceIte, Nat.reduceEqDiff, Nat.reduceAdd, Nat.reduceMul, Nat.reduceLT, Nat.reduceLeDiff]
    (try simp (disch := first | exact Nat.le_of_ble_eq_true rfl | omega) only [AXR, AXB, J.dst, reduceIte, Nat.reduceEqDiff, Nat.reduceAdd, Nat.reduceMul, Nat.reduceLT, Nat.reduceLeDiff]); rw [f88c15_eq]; (try simp (disch := first | exact Nat.le_of_ble_eq_true rfl | omega) only [AXR, AXB, J.dst, reduceIte, Nat.reduceEqDiff, Nat.reduceAdd, Nat.reduceMul, Nat.reduceLT, Nat.reduceLeDiff, f88r0, f88r1, f88r2, f88r3, f88r4, f88r5, f88r6, f88r7, f88r8, f88r9, f88r10, f88r11, f88r12, f88r13, f88r14, f88r15, f88r16, f88r17, f88r18, f88r19, f88r20])
    simp only [Nat.zero_add] at B5
    have hcl5 : ∀ {l m : List Value} {p : Nat}, p + m.length ≤ l.length → (l.take p ++ m ++ l.drop (p + m.length)).length = l.length := fun h => by simp; omega
    have hl4 := hcl5 (l := xs.take (i * 12) ++ zs) (m := news) (p := i * 12) (by rw [hl3, hnl]; omega)
    refine hR _ _ _ (Own.of_blk hlo B5 ?_ hc3 (by unfold maxLen; omega) (ins_grow (by omega) hxl hnl ?_)) ((u5.ext (u4.ext e3 (Nat.le_refl _)) (Nat.le_refl _)).gr _) (.inr ⟨_, rfl, Nat.le_refl _⟩)
    · rw [hcl5 (by rw [hl4, hl3, hdl]; omega), hl4, hl3]
    · rw [hz3]; omega
  · have hroom : n + 1 ≤ c := by have := of_decide_eq_false h2; omega
    (try simp (disch := first | exact Nat.le_of_ble_eq_true rfl | omega) only [AXR, AXB, J.dst, reduceIte, Nat.reduceEqDiff, Nat.reduceAdd, Nat.reduceMul, Nat.reduceLT, Nat.reduceLeDiff]); rw [f88c16_eq]; (try simp (disch := first | exact Nat.le_of_ble_eq_true rfl | omega) only [AXR, AXB, J.dst, reduceIte, Nat.reduceEqDiff, Nat.reduceAdd, Nat.reduceMul, Nat.reduceLT, Nat.reduceLeDiff, f88r0, f88r1, f88r2, f88r3, f88r4, f88r5, f88r6, f88r7, f88r8, f88r9, f88r10, f88r11, f88r12, f88r13, f88r14, f88r15, f88r16, f88r17, f88r18, f88r19, f88r20, hw])
    refine slc_hi (u := n + 1) (by omega) ?_
    try simp (disch := first | exact Nat.le_of_ble_eq_true rfl | omega) only [AXR, AXB, J.dst, reduceIte, Nat.reduceEqDiff, Nat.reduceAdd, Nat.reduceMul, Nat.reduceLT, Nat.reduceLeDiff]
    (try simp (disch := first | exact Nat.le_of_ble_eq_true rfl | omega) only [AXR, AXB, J.dst, reduceIte, Nat.reduceEqDiff, Nat.reduceAdd, Nat.reduceMul, Nat.reduceLT, Nat.reduceLeDiff]); rw [f88c17_eq]; (try simp (disch := first | exact Nat.le_of_ble_eq_true rfl | omega) only [AXR, AXB, J.dst, reduceIte, Nat.reduceEqDiff, Nat.reduceAdd, Nat.reduceMul, Nat.reduceLT, Nat.reduceLeDiff, f88r0, f88r1, f88r2, f88r3, f88r4, f88r5, f88r6, f88r7, f88r8, f88r9, f88r10, f88r11, f88r12, f88r13, f88r14, f88r15, f88r16, f88r17, f88r18, f88r19, f88r20, hwi])
    refine slc_lo (l := i + 1) (by omega) (by omega) (by omega) ?_
    try simp (disch := first | exact Nat.le_of_ble_eq_true rfl | omega) only [AXR, AXB, J.dst, reduceIte, Nat.reduceEqDiff, Nat.reduceAdd, Nat.reduceMul, Nat.reduceLT, Nat.reduceLeDiff]
    rw [wL_raw]
    refine raw_overlaps slT74 rfl Try.func119 (by kernel_rfl) (by kernel_rfl) (by kernel_rfl) (tR := 4) (by kernel_rfl) rfl rfl V G hvb (by omega) ?_
    refine ⟨trivial, ?_⟩
    try simp (disch := first | exact Nat.le_of_ble_eq_true rfl | omega) only [AXR, AXB, J.dst, reduceIte, Nat.reduceEqDiff, Nat.reduceAdd, Nat.reduceMul, Nat.reduceLT, Nat.reduceLeDiff]
    (try simp (disch := first | exact Nat.le_of_ble_eq_true rfl | omega) only [AXR, AXB, J.dst, reduceIte, Nat.reduceEqDiff, Nat.reduceAdd, Nat.reduceMul, Nat.reduceLT, Nat.reduceLeDiff]); rw [f88c18_eq]; (try simp (disch := first | exact Nat.le_of_ble_eq_true rfl | omega) only [AXR, AXB, J.dst, reduceIte, Nat.reduceEqDiff, Nat.reduceAdd, Nat.reduceMul, Nat.reduceLT, Nat.reduceLeDiff, f88r0, f88r1, f88r2, f88r3, f88r4, f88r5, f88r6, f88r7, f88r8, f88r9, f88r10, f88r11, f88r12, f88r13, f88r14, f88r15, f88r16, f88r17, f88r18, f88r19, f88r20])
    (try simp (disch := first | exact Nat.le_of_ble_eq_true rfl | omega) only [AXR, AXB, J.dst, reduceIte, Nat.reduceEqDiff, Nat.reduceAdd, Nat.reduceMul, Nat.reduceLT, Nat.reduceLeDiff]); rw [f88c19_eq]; (try simp (disch := first | exact Nat.le_of_ble_eq_true rfl | omega) only [AXR, AXB, J.dst, reduceIte, Nat.reduceEqDiff, Nat.reduceAdd, Nat.reduceMul, Nat.reduceLT, Nat.reduceLeDiff, f88r0, f88r1, f88r2, f88r3, f88r4, f88r5, f88r6, f88r7, f88r8, f88r9, f88r10, f88r11, f88r12, f88r13, f88r14, f88r15, f88r16, f88r17, f88r18, f88r19, f88r20])
    refine ⟨fun _ => False, fun b hb => hb.elim, ?_⟩
    simp (disch := first | exact Nat.le_of_ble_eq_true rfl | omega) only [AXR, AXB, J.dst, reduceIte, Nat.reduceEqDiff, Nat.reduceAdd, Nat.reduceMul, Nat.reduceLT, Nat.reduceLeDiff, f88r15, hwi]
    refine slc_lo (l := i + 1) (by omega) (by omega) (by omega) ?_
    try simp (disch := first | exact Nat.le_of_ble_eq_true rfl | omega) only [AXR, AXB, J.dst, reduceIte, Nat.reduceEqDiff, Nat.reduceAdd, Nat.reduceMul, Nat.reduceLT, Nat.reduceLeDiff]
    refine slc_lo (l := i) (by omega) (by omega) (by omega) ?_
    try simp (disch := first | exact Nat.le_of_ble_eq_true rfl | omega) only [AXR, AXB, J.dst, reduceIte, Nat.reduceEqDiff, Nat.reduceAdd, Nat.reduceMul, Nat.reduceLT, Nat.reduceLeDiff]
    rw [wL_raw]
    have hcx : (cur.take (n * 12)).length = n * 12 := by rw [hct, hxl]
    have hcn : n * 12 ≤ cur.length := by rw [hcl]; omega
    have hrow : Row h g (0 + i * 12) (xs.drop (i * 12)) := by
      obtain ⟨g', e, _, hr⟩ := O.row (by omega)
      cases e
      have := hr.sub (i * 12) (n * 12 - i * 12)
      rw [List.take_of_length_le (by rw [List.length_drop]; omega)] at this
      exact this
    have hdl : (xs.drop (i * 12)).length = n * 12 - i * 12 := by rw [List.length_drop]; omega
    refine raw_copy slT74 rfl rfl rfl G (cs := xs.drop (i * 12)) (by rw [hdl, Nat.min_eq_right (by omega)]; omega) hrow (by rw [hdl, hcl]; omega) (fun v hv => h1x v (List.mem_of_mem_drop hv)) ?_
    intro h3 u3 B3
    refine ⟨fun b hb => hb.elim, ?_⟩
    try simp (disch := first | exact Nat.le_of_ble_eq_true rfl | omega) only [AXR, AXB, J.dst, reduceIte, Nat.reduceEqDiff, Nat.reduceAdd, Nat.reduceMul, Nat.reduceLT, Nat.reduceLeDiff]
    have hcl5 : ∀ {l m : List Value} {p : Nat}, p + m.length ≤ l.length → (l.take p ++ m ++ l.drop (p + m.length)).length = l.length := fun h => by simp; omega
    (try simp (disch := first | exact Nat.le_of_ble_eq_true rfl | omega) only [AXR, AXB, J.dst, reduceIte, Nat.reduceEqDiff, Nat.reduceAdd, Nat.reduceMul, Nat.reduceLT, Nat.reduceLeDiff]); rw [f88c20_eq]; (try simp (disch := first | exact Nat.le_of_ble_eq_true rfl | omega) only [AXR, AXB, J.dst, reduceIte, Nat.reduceEqDiff, Nat.reduceAdd, Nat.reduceMul, Nat.reduceLT, Nat.reduceLeDiff, f88r0, f88r1, f88r2, f88r3, f88r4, f88r5, f88r6, f88r7, f88r8, f88r9, f88r10, f88r11, f88r12, f88r13, f88r14, f88r15, f88r16, f88r17, f88r18, f88r19, f88r20])
    refine slc_lo (l := i) (by omega) (by omega) (by omega) ?_
    try simp (disch := first | exact Nat.le_of_ble_eq_true rfl | omega) only [AXR, AXB, J.dst, reduceIte, Nat.reduceEqDiff, Nat.reduceAdd, Nat.reduceMul, Nat.reduceLT, Nat.reduceLeDiff]
    rw [wL_raw]
    have V3 := u3.blk V hvb
    simp only [Nat.zero_add] at B3 ⊢
    have hl3 := hcl5 (l := cur) (m := xs.drop (i * 12)) (p := (i + 1) * 12) (by rw [hdl, hcl]; omega)
    refine raw_copy slT74 rfl rfl rfl B3 (cs := news) (by rw [hnl, Nat.min_eq_left (by omega)]) V3.row (by rw [hl3, hnl, hcl]; omega) h1n ?_
    intro h4 u4 B4
    refine ⟨trivial, ?_⟩
    try simp (disch := first | exact Nat.le_of_ble_eq_true rfl | omega) only [AXR, AXB, J.dst, reduceIte, Nat.reduceEqDiff, Nat.reduceAdd, Nat.reduceMul, Nat.reduceLT, Nat.reduceLeDiff]
    (try simp (disch := first | exact Nat.le_of_ble_eq_true rfl | omega) only [AXR, AXB, J.dst, reduceIte, Nat.reduceEqDiff, Nat.reduceAdd, Nat.reduceMul, Nat.reduceLT, Nat.reduceLeDiff]); rw [f88c21_eq]; (try simp (disch := first | exact Nat.le_of_ble_eq_true rfl | omega) only [AXR, AXB, J.dst, reduceIte, Nat.reduceEqDiff, Nat.reduceAdd, Nat.reduceMul, Nat.reduceLT, Nat.reduceLeDiff, f88r0, f88r1, f88r2, f88r3, f88r4, f88r5, f88r6, f88r7, f88r8, f88r9, f88r10, f88r11, f88r12, f88r13, f88r14, f88r15, f88r16, f88r17, f88r18, f88r19, f88r20])
    refine hR _ _ _ (Own.of_blk hg B4 ?_ hroom (by unfold maxLen; omega) (ins_shift hin hroom hcl hct hnl)) (u3.gr.trans u4.gr) (.inl rfl)
    rw [hcl5 (by rw [hl3, hnl, hcl]; omega), hl3, hcl]
end Go.Proofs.Ytefghfgmkndikaa
