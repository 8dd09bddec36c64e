/-
  Walks: the order of stamps, the last version, what a cell tells.
-/
import Derived.Test.YtefghfgmkndikaaGA
set_option linter.unusedSimpArgs false
set_option linter.unusedVariables false
namespace Go.Proofs.Ytefghfgmkndikaa
open Go Go.AX

theorem isNaN_ok (a : Int) (h : Heap) {R : Value → Heap → Prop} (hR : R (.bool false) h) : CallsH Try.prog 141 [vi a] h R := by
  refine f141ok (by simp) ?_
  rw [f141c0_eq]
  simp (disch := first | exact Nat.le_of_ble_eq_true rfl | omega) only [AXR, AXB, J.dst, reduceIte, Nat.reduceEqDiff, Nat.reduceAdd, Nat.reduceMul, Nat.reduceLT, Nat.reduceLeDiff, f141r0]
  rw [f141c1_eq]
  simp (disch := first | exact Nat.le_of_ble_eq_true rfl | omega) only [AXR, AXB, J.dst, reduceIte, Nat.reduceEqDiff, Nat.reduceAdd, Nat.reduceMul, Nat.reduceLT, Nat.reduceLeDiff, f141r1]
  exact hR

def cmpI (a b : Int) : Int := if a < b then -1 else if b < a then 1 else 0

theorem compare_ok (a b : Int) (h : Heap) {R : Value → Heap → Prop} (hR : R (vi (cmpI a b)) h) : CallsH Try.prog 122 [vi a, vi b] h R := by
  refine f122ok (by simp) ?_
  rw [f122c0_eq]; simp (disch := first | exact Nat.le_of_ble_eq_true rfl | omega) only [AXR, AXB, J.dst, reduceIte, Nat.reduceEqDiff, Nat.reduceAdd, Nat.reduceMul, Nat.reduceLT, Nat.reduceLeDiff, f122r0]
  rw [f122c1_eq]; simp (disch := first | exact Nat.le_of_ble_eq_true rfl | omega) only [AXR, AXB, J.dst, reduceIte, Nat.reduceEqDiff, Nat.reduceAdd, Nat.reduceMul, Nat.reduceLT, Nat.reduceLeDiff, f122r1]
  refine isNaN_ok _ _ ?_
  rw [f122c2_eq]; simp (disch := first | exact Nat.le_of_ble_eq_true rfl | omega) only [AXR, AXB, J.dst, reduceIte, Nat.reduceEqDiff, Nat.reduceAdd, Nat.reduceMul, Nat.reduceLT, Nat.reduceLeDiff, f122r2]
  refine isNaN_ok _ _ ?_
  rw [f122c3_eq]; simp (disch := first | exact Nat.le_of_ble_eq_true rfl | omega) only [AXR, AXB, J.dst, reduceIte, Nat.reduceEqDiff, Nat.reduceAdd, Nat.reduceMul, Nat.reduceLT, Nat.reduceLeDiff, f122r3]
  rw [f122c4_eq]; simp (disch := first | exact Nat.le_of_ble_eq_true rfl | omega) only [AXR, AXB, J.dst, reduceIte, Nat.reduceEqDiff, Nat.reduceAdd, Nat.reduceMul, Nat.reduceLT, Nat.reduceLeDiff]
  rw [f122c9_eq]; simp (disch := first | exact Nat.le_of_ble_eq_true rfl | omega) only [AXR, AXB, J.dst, reduceIte, Nat.reduceEqDiff, Nat.reduceAdd, Nat.reduceMul, Nat.reduceLT, Nat.reduceLeDiff, f122r7]
  rw [f122c10_eq]; simp (disch := first | exact Nat.le_of_ble_eq_true rfl | omega) only [AXR, AXB, J.dst, reduceIte, Nat.reduceEqDiff, Nat.reduceAdd, Nat.reduceMul, Nat.reduceLT, Nat.reduceLeDiff]
  rw [f122c12_eq]; simp (disch := first | exact Nat.le_of_ble_eq_true rfl | omega) only [AXR, AXB, J.dst, reduceIte, Nat.reduceEqDiff, Nat.reduceAdd, Nat.reduceMul, Nat.reduceLT, Nat.reduceLeDiff, f122r9]
  rw [f122c13_eq]; simp (disch := first | exact Nat.le_of_ble_eq_true rfl | omega) only [AXR, AXB, J.dst, reduceIte, Nat.reduceEqDiff, Nat.reduceAdd, Nat.reduceMul, Nat.reduceLT, Nat.reduceLeDiff]
  refine ⟨fun h1 => ?_, fun h1 => ?_⟩
  · rw [f122c14_eq]; simp (disch := first | exact Nat.le_of_ble_eq_true rfl | omega) only [AXR, AXB, J.dst, reduceIte, Nat.reduceEqDiff, Nat.reduceAdd, Nat.reduceMul, Nat.reduceLT, Nat.reduceLeDiff, f122r10]
    simpa [cmpI, of_decide_eq_true h1] using hR
  rw [f122c15_eq]; simp (disch := first | exact Nat.le_of_ble_eq_true rfl | omega) only [AXR, AXB, J.dst, reduceIte, Nat.reduceEqDiff, Nat.reduceAdd, Nat.reduceMul, Nat.reduceLT, Nat.reduceLeDiff, f122r11]
  rw [f122c16_eq]; simp (disch := first | exact Nat.le_of_ble_eq_true rfl | omega) only [AXR, AXB, J.dst, reduceIte, Nat.reduceEqDiff, Nat.reduceAdd, Nat.reduceMul, Nat.reduceLT, Nat.reduceLeDiff]
  refine ⟨fun h2 => ?_, fun h2 => ?_⟩
  · rw [f122c17_eq]; simp (disch := first | exact Nat.le_of_ble_eq_true rfl | omega) only [AXR, AXB, J.dst, reduceIte, Nat.reduceEqDiff, Nat.reduceAdd, Nat.reduceMul, Nat.reduceLT, Nat.reduceLeDiff, f122r12]
    simpa [cmpI, of_decide_eq_false h1, of_decide_eq_true h2] using hR
  rw [f122c18_eq]; simp (disch := first | exact Nat.le_of_ble_eq_true rfl | omega) only [AXR, AXB, J.dst, reduceIte, Nat.reduceEqDiff, Nat.reduceAdd, Nat.reduceMul, Nat.reduceLT, Nat.reduceLeDiff, f122r13]
  have h3 : ¬ b < a := of_decide_eq_false h2
  simpa [cmpI, of_decide_eq_false h1, h3] using hR

def orI (x y : Int) : Int := if x = 0 then y else x

theorem or_ok (x y : Int) (b : Nat) (h : Heap) (h0 : cel h b 0 = some (vi x)) (h1 : cel h b 1 = some (vi y)) {R : Value → Heap → Prop} (hR : R (vi (orI x y)) h) :
    CallsH Try.prog 121 [sl b 0 2 2] h R := by
  refine f121ok (by simp) ?_
  rw [f121c0_eq]; simp (disch := first | exact Nat.le_of_ble_eq_true rfl | omega) only [AXR, AXB, J.dst, reduceIte, Nat.reduceEqDiff, Nat.reduceAdd, Nat.reduceMul, Nat.reduceLT, Nat.reduceLeDiff, f121r0]
  rw [f121c1_eq]; simp (disch := first | exact Nat.le_of_ble_eq_true rfl | omega) only [AXR, AXB, J.dst, reduceIte, Nat.reduceEqDiff, Nat.reduceAdd, Nat.reduceMul, Nat.reduceLT, Nat.reduceLeDiff, f121r1]
  rw [f121c2_eq]; simp (disch := first | exact Nat.le_of_ble_eq_true rfl | omega) only [AXR, AXB, J.dst, reduceIte, Nat.reduceEqDiff, Nat.reduceAdd, Nat.reduceMul, Nat.reduceLT, Nat.reduceLeDiff, f121r2]
  rw [f121c3_eq]
  refine loop_in (fun n σ h' => h' = h ∧ ∃ k : Nat, k + n = 2 ∧ σ = [(3, vi 0), (6, sl b 0 2 2), (7, vi 2), (8, vi k)] ∧ (1 ≤ k → x = 0) ∧ (2 ≤ k → y = 0)) 2 ⟨rfl, 0, rfl, rfl, by omega, by omega⟩ ?_
  rintro n σ h' ⟨rfl, k, hk, rfl, hx, hy⟩ Q' hn he hr _
  rw [f121c4_eq]; simp (disch := first | exact Nat.le_of_ble_eq_true rfl | omega) only [AXR, AXB, J.dst, reduceIte, Nat.reduceEqDiff, Nat.reduceAdd, Nat.reduceMul, Nat.reduceLT, Nat.reduceLeDiff, f121r3]
  rw [f121c5_eq]; simp (disch := first | exact Nat.le_of_ble_eq_true rfl | omega) only [AXR, AXB, J.dst, reduceIte, Nat.reduceEqDiff, Nat.reduceAdd, Nat.reduceMul, Nat.reduceLT, Nat.reduceLeDiff]
  refine ⟨fun h2 => ?_, fun h2 => ?_⟩
  · have hlt : k < 2 := by have := of_decide_eq_true h2; omega
    rw [f121c6_eq, f121c7_eq]
    have hcel : cel h' b (0 + k * 1) = some (vi (if k = 0 then x else y)) := by
      have : k = 0 ∨ k = 1 := by omega
      rcases this with rfl | rfl
      · simpa using h0
      · simpa using h1
    simp (disch := first | exact Nat.le_of_ble_eq_true rfl | omega) only [AXR, AXB, J.dst, reduceIte, Nat.reduceEqDiff, Nat.reduceAdd, Nat.reduceMul, Nat.reduceLT, Nat.reduceLeDiff, f121r4, hcel]
    refine ⟨by omega, by omega, ?_⟩
    rw [f121c8_eq]; simp (disch := first | exact Nat.le_of_ble_eq_true rfl | omega) only [AXR, AXB, J.dst, reduceIte, Nat.reduceEqDiff, Nat.reduceAdd, Nat.reduceMul, Nat.reduceLT, Nat.reduceLeDiff, f121r5, binV_neq]
    rw [f121c9_eq]; simp (disch := first | exact Nat.le_of_ble_eq_true rfl | omega) only [AXR, AXB, J.dst, reduceIte, Nat.reduceEqDiff, Nat.reduceAdd, Nat.reduceMul, Nat.reduceLT, Nat.reduceLeDiff]
    refine ⟨fun h3 => ?_, fun h3 => ?_⟩
    · rw [f121c10_eq]; simp (disch := first | exact Nat.le_of_ble_eq_true rfl | omega) only [AXR, AXB, J.dst, reduceIte, Nat.reduceEqDiff, Nat.reduceAdd, Nat.reduceMul, Nat.reduceLT, Nat.reduceLeDiff, f121r6]
      refine hr _ _ ?_
      simp (disch := first | exact Nat.le_of_ble_eq_true rfl | omega) only [AXR, AXB, J.dst, reduceIte, Nat.reduceEqDiff, Nat.reduceAdd, Nat.reduceMul, Nat.reduceLT, Nat.reduceLeDiff]
      have : (if k = 0 then x else y) = orI x y := by
        have h3' : (if k = 0 then x else y) ≠ 0 := by simpa using h3
        by_cases h0 : k = 0
        · subst h0; simp [orI] at h3' ⊢; simp [h3']
        · have : k = 1 := by omega
          subst this; simp [orI, hx]
      rw [← this] at hR
      exact hR
    · have h3' : (if k = 0 then x else y) = 0 := by simpa using h3
      rw [f121c11_eq]; simp (disch := first | exact Nat.le_of_ble_eq_true rfl | omega) only [AXR, AXB, J.dst, reduceIte, Nat.reduceEqDiff, Nat.reduceAdd, Nat.reduceMul, Nat.reduceLT, Nat.reduceLeDiff, f121r7]
      have hw : IntKind.i64.wrap (k + 1) = ((k + 1 : Nat) : Int) := by
        have : k = 0 ∨ k = 1 := by omega
        rcases this with rfl | rfl <;> rfl
      rw [hw]
      refine hn (n - 1) _ _ (by omega) ⟨rfl, k + 1, by omega, rfl, fun _ => ?_, fun _ => ?_⟩
      · by_cases h0 : k = 0
        · simpa [h0] using h3'
        · exact hx (by omega)
      · have : k = 1 := by omega
        simpa [this] using h3'
  · have hge : k = 2 := by have := of_decide_eq_false h2; omega
    subst hge
    refine he _ _ ?_
    rw [f121c12_eq]; simp (disch := first | exact Nat.le_of_ble_eq_true rfl | omega) only [AXR, AXB, J.dst, reduceIte, Nat.reduceEqDiff, Nat.reduceAdd, Nat.reduceMul, Nat.reduceLT, Nat.reduceLeDiff, f121r8]
    simpa [orI, hx, hy] using hR

theorem less_or (a b c d : Int) : (orI (cmpI a c) (cmpI b d) < 0) ↔ Stamp.lt ⟨a, b⟩ ⟨c, d⟩ = true := by
  unfold orI cmpI Stamp.lt
  simp
  split <;> rename_i h <;> (repeat' split) <;> omega

theorem less_ok (s t : Stamp) (h : Heap) {R : Value → Heap → Prop} (hR : ∀ h', Ext h h' → R (.bool (Stamp.lt s t)) h') :
    CallsH Try.prog 90 [.agg (eStamp s).toArray, .agg (eStamp t).toArray] h R := by
  refine f90ok (by simp) ?_
  rw [f90c0_eq]; simp (disch := first | exact Nat.le_of_ble_eq_true rfl | omega) only [AXR, AXB, J.dst, reduceIte, Nat.reduceEqDiff, Nat.reduceAdd, Nat.reduceMul, Nat.reduceLT, Nat.reduceLeDiff, f90r0]
  refine wL_boxN rfl ?_; intro b1 h1 e1 s1 hb1 B1
  refine wL_boxN rfl ?_; intro b2 h2 e2 s2 hb2 B2
  have B1 := B1.ext e2
  simp (disch := first | exact Nat.le_of_ble_eq_true rfl | omega) only [AXR, AXB, J.dst, reduceIte, Nat.reduceEqDiff, Nat.reduceAdd, Nat.reduceMul, Nat.reduceLT, Nat.reduceLeDiff]
  rw [f90c1_eq]
  refine drw_lt ?_
  simp (disch := first | exact Nat.le_of_ble_eq_true rfl | omega) only [AXR, AXB, J.dst, reduceIte, Nat.reduceEqDiff, Nat.reduceAdd, Nat.reduceMul, Nat.reduceLT, Nat.reduceLeDiff, f90r1, B1.cel, B2.cel, cells_agg, eStamp]
  refine ⟨by omega, by omega, by omega, by omega, ?_⟩
  refine compare_ok _ _ _ ⟨kp_ext (by omega) (Ext.refl _), ?_⟩
  refine compare_ok _ _ _ ⟨kp_ext (by omega) (Ext.refl _), ?_⟩
  refine wL_bslD rfl (by omega) ?_; intro b3 h3 e3 s3 hb3 B3
  simp (disch := first | exact Nat.le_of_ble_eq_true rfl | omega) only [AXR, AXB, J.dst, reduceIte, Nat.reduceEqDiff, Nat.reduceAdd, Nat.reduceMul, Nat.reduceLT, Nat.reduceLeDiff]
  refine or_ok (cmpI s.wall t.wall) (cmpI s.tie t.tie) _ _ (by rw [B3.cel]; rfl) (by rw [B3.cel]; rfl) ⟨kp_ext (by omega) (Ext.refl _), ?_⟩
  simp (disch := first | exact Nat.le_of_ble_eq_true rfl | omega) only [AXR, AXB, J.dst, reduceIte, Nat.reduceEqDiff, Nat.reduceAdd, Nat.reduceMul, Nat.reduceLT, Nat.reduceLeDiff, binV_lss]
  have hl := less_or s.wall s.tie t.wall t.tie
  have : decide (orI (cmpI s.wall t.wall) (cmpI s.tie t.tie) < 0) = Stamp.lt s t := by
    rw [Bool.eq_iff_iff]; simpa using hl
  rw [this]
  exact hR _ ((e1.trans e2).trans e3)

/-- The reference's. -/
theorem rless_ok (s t : Stamp) (h : Heap) {R : Value → Heap → Prop} (hR : ∀ h', Ext h h' → R (.bool (Stamp.lt s t)) h') :
    CallsH Try.prog 42 [.agg (eStamp s).toArray, .agg (eStamp t).toArray] h R := by
  refine f42ok (by simp) ?_
  rw [f42c0_eq]; simp (disch := first | exact Nat.le_of_ble_eq_true rfl | omega) only [AXR, AXB, J.dst, reduceIte, Nat.reduceEqDiff, Nat.reduceAdd, Nat.reduceMul, Nat.reduceLT, Nat.reduceLeDiff, f42r0]
  refine wL_boxN rfl ?_; intro b1 h1 e1 s1 hb1 B1
  refine wL_boxN rfl ?_; intro b2 h2 e2 s2 hb2 B2
  have B1 := B1.ext e2
  simp (disch := first | exact Nat.le_of_ble_eq_true rfl | omega) only [AXR, AXB, J.dst, reduceIte, Nat.reduceEqDiff, Nat.reduceAdd, Nat.reduceMul, Nat.reduceLT, Nat.reduceLeDiff]
  rw [f42c1_eq]
  simp (disch := first | exact Nat.le_of_ble_eq_true rfl | omega) only [AXR, AXB, J.dst, reduceIte, Nat.reduceEqDiff, Nat.reduceAdd, Nat.reduceMul, Nat.reduceLT, Nat.reduceLeDiff, f42r1, B1.cel, B2.cel, cells_agg, eStamp]
  have e := e1.trans e2
  refine ⟨fun h1 => ?_, fun h1 => ?_⟩
  · have : Stamp.lt s t = true := by simp [Stamp.lt, h1]
    rw [← this]; exact hR _ e
  · refine ⟨fun h2 => ?_, fun h2 => ?_⟩
    · have : Stamp.lt s t = decide (s.tie < t.tie) := by
        have h2' : s.wall = t.wall := by simpa using h2
        simp [Stamp.lt, h2']
      rw [← this]; exact hR _ e
    · have : Stamp.lt s t = false := by
        have h2' : s.wall ≠ t.wall := by simpa using h2
        have h1' : ¬ s.wall < t.wall := by simpa using h1
        simp [Stamp.lt, h1', h2']
      rw [← this]; exact hR _ e

theorem i64_wrap {n : Int} (h0 : -9223372036854775808 ≤ n) (h1 : n ≤ 9223372036854775807) : IntKind.i64.wrap n = n := by
  unfold IntKind.wrap IntKind.bits IntKind.signed; simp; omega

theorem last_ok {B : Nat → Prop} {a : Option Addr} {c : Nat} (vs : List Ver) (t : Stamp) (h : Heap) (S : SlF B h eVer a vs) (hn : vs.length ≤ maxLen) {R : Value → Heap → Prop} (hR : ∀ h', Ext h h' → R (vi (lastV vs t)) h') :
    CallsH Try.prog 91 [.slice a vs.length c, .agg (eStamp t).toArray] h R := by
  refine f91ok (by simp) ?_
  rw [f91c0_eq]; simp (disch := first | exact Nat.le_of_ble_eq_true rfl | omega) only [AXR, AXB, J.dst, reduceIte, Nat.reduceEqDiff, Nat.reduceAdd, Nat.reduceMul, Nat.reduceLT, Nat.reduceLeDiff, f91r0]
  refine wL_boxN rfl ?_; rintro b1 h1 e1 s1 hb1 (B1 : Blk _ _ _ (eStamp t))
  simp (disch := first | exact Nat.le_of_ble_eq_true rfl | omega) only [AXR, AXB, J.dst, reduceIte, Nat.reduceEqDiff, Nat.reduceAdd, Nat.reduceMul, Nat.reduceLT, Nat.reduceLeDiff]
  rw [f91c1_eq]; simp (disch := first | exact Nat.le_of_ble_eq_true rfl | omega) only [AXR, AXB, J.dst, reduceIte, Nat.reduceEqDiff, Nat.reduceAdd, Nat.reduceMul, Nat.reduceLT, Nat.reduceLeDiff, f91r1, binV_sub]
  rw [f91c2_eq]
  unfold maxLen at hn
  rw [i64_wrap (by omega) (by omega)]
  refine loop_in (fun n σ h' => Ext h1 h' ∧ n ≤ vs.length ∧ σ = [(0, .slice a vs.length c), (3, ptr b1 0), (5, vi ((n : Int) - 1))] ∧ lastV vs t = lastK vs t n) vs.length ⟨Ext.refl _, Nat.le_refl _, rfl, rfl⟩ ?_
  rintro n σ h' ⟨e2, hnl, rfl, hl⟩ Q' hnx hex hrt _
  rw [f91c3_eq]; simp (disch := first | exact Nat.le_of_ble_eq_true rfl | omega) only [AXR, AXB, J.dst, reduceIte, Nat.reduceEqDiff, Nat.reduceAdd, Nat.reduceMul, Nat.reduceLT, Nat.reduceLeDiff, f91r2]
  rw [f91c4_eq]; simp (disch := first | exact Nat.le_of_ble_eq_true rfl | omega) only [AXR, AXB, J.dst, reduceIte, Nat.reduceEqDiff, Nat.reduceAdd, Nat.reduceMul, Nat.reduceLT, Nat.reduceLeDiff]
  refine ⟨fun h2 => ?_, fun h2 => ?_⟩
  · have hpos : 1 ≤ n := by have := of_decide_eq_true h2; omega
    obtain ⟨k, rfl⟩ : ∃ k, n = k + 1 := ⟨n - 1, by omega⟩
    have hk : ((k + 1 : Nat) : Int) - 1 = k := by omega
    obtain ⟨v, hv⟩ : ∃ v, vs[k]? = some v := ⟨vs[k], List.getElem?_eq_getElem (by omega)⟩
    obtain ⟨b, o, rfl, _, hrow⟩ := (S.ext (e1.trans e2)).elem eVer_len hv
    rw [hk, f91c5_eq, f91c6_eq]
    refine drw_lt ?_
    have B1' := B1.ext e2
    simp (disch := first | exact Nat.le_of_ble_eq_true rfl | omega) only [AXR, AXB, J.dst, reduceIte, Nat.reduceEqDiff, Nat.reduceAdd, Nat.reduceMul, Nat.reduceLT, Nat.reduceLeDiff, f91r3, B1'.rd, row_ver hrow, eStamp]
    refine ⟨B1'.lt, by omega, by omega, hrow.lt (by rw [eVer_len]; omega), ?_⟩
    refine less_ok t v.at_ _ ?_
    intro h3 e3
    refine ⟨kp_ext (Nat.le_refl _) e3, ?_⟩
    simp (disch := first | exact Nat.le_of_ble_eq_true rfl | omega) only [AXR, AXB, J.dst, reduceIte, Nat.reduceEqDiff, Nat.reduceAdd, Nat.reduceMul, Nat.reduceLT, Nat.reduceLeDiff]
    rw [f91c7_eq]; simp (disch := first | exact Nat.le_of_ble_eq_true rfl | omega) only [AXR, AXB, J.dst, reduceIte, Nat.reduceEqDiff, Nat.reduceAdd, Nat.reduceMul, Nat.reduceLT, Nat.reduceLeDiff]
    have hlk : lastK vs t (k + 1) = if Stamp.lt t v.at_ then lastK vs t k else (k : Int) := by
      simp [lastK, List.getD_eq_getElem?_getD, hv]
    refine ⟨fun h4 => ?_, fun h4 => ?_⟩
    · have h4' : Stamp.lt t v.at_ = false := by simpa using h4
      rw [f91c8_eq]; simp (disch := first | exact Nat.le_of_ble_eq_true rfl | omega) only [AXR, AXB, J.dst, reduceIte, Nat.reduceEqDiff, Nat.reduceAdd, Nat.reduceMul, Nat.reduceLT, Nat.reduceLeDiff, f91r4]
      refine hrt _ _ ?_
      simp (disch := first | exact Nat.le_of_ble_eq_true rfl | omega) only [AXR, AXB, J.dst, reduceIte, Nat.reduceEqDiff, Nat.reduceAdd, Nat.reduceMul, Nat.reduceLT, Nat.reduceLeDiff]
      rw [hlk, h4'] at hl
      rw [show (k : Int) = lastV vs t from hl.symm]
      exact hR _ (e1.trans (e2.trans e3))
    · have h4' : Stamp.lt t v.at_ = true := by simpa using h4
      rw [f91c9_eq]; simp (disch := first | exact Nat.le_of_ble_eq_true rfl | omega) only [AXR, AXB, J.dst, reduceIte, Nat.reduceEqDiff, Nat.reduceAdd, Nat.reduceMul, Nat.reduceLT, Nat.reduceLeDiff, f91r5, binV_sub]
      rw [i64_wrap (by omega) (by omega)]
      rw [hlk, h4'] at hl
      exact hnx k _ _ (by omega) ⟨e2.trans e3, by omega, rfl, hl⟩
  · have hz : n = 0 := by have := of_decide_eq_false h2; omega
    subst hz
    refine hex _ _ ?_
    rw [f91c10_eq]; simp (disch := first | exact Nat.le_of_ble_eq_true rfl | omega) only [AXR, AXB, J.dst, reduceIte, Nat.reduceEqDiff, Nat.reduceAdd, Nat.reduceMul, Nat.reduceLT, Nat.reduceLeDiff, f91r6]
    have : lastV vs t = -1 := hl
    rw [← this]
    exact hR _ (e1.trans e2)
end Go.Proofs.Ytefghfgmkndikaa
