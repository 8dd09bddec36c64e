/-
  Walks: what a cell tells; the place of a key.
-/
import Derived.Test.YtefghfgmkndikaaW1
set_option linter.unusedSimpArgs false
set_option linter.unusedVariables false
namespace Go.Proofs.Ytefghfgmkndikaa
open Go Go.AX

theorem getD_of {α : Type} {l : List α} {k : Nat} {x d : α} (h : l[k]? = some x) : l.getD k d = x := by simp [List.getD_eq_getElem?_getD, h]
theorem get_ex {α : Type} {l : List α} {k : Nat} (h : k < l.length) : ∃ x, l[k]? = some x := ⟨l[k], List.getElem?_eq_getElem h⟩

theorem tells_ok {B : Nat → Prop} (x : CV) (c : Cell) (t : Stamp) (h : Heap) (S : CR B h x c) (hn : c.vers.length ≤ maxLen) {R : Value → Heap → Prop}
    (hR : ∀ h', Ext h h' → R (.tuple #[.string (tellV c.vers t).1, .bool (tellV c.vers t).2]) h') :
    CallsH Try.prog 89 [.agg (eCV x).toArray, .agg (eStamp t).toArray] h R := by
  refine f89ok (by simp) ?_
  simp (disch := first | exact Nat.le_of_ble_eq_true rfl | omega) only [AXR, AXB, J.dst, reduceIte, Nat.reduceEqDiff, Nat.reduceAdd, Nat.reduceMul, Nat.reduceLT, Nat.reduceLeDiff, f89r0, f89r1, f89r2, f89r3, f89r4, f89c4_eq, f89c5_eq, f89c3_eq, f89c2_eq, f89c1_eq, f89c0_eq]
  refine wL_boxN rfl ?_; rintro b1 h1 e1 s1 hb1 (B1 : Blk _ _ _ (eCV x))
  refine wL_boxN rfl ?_; rintro b2 h2 e2 s2 hb2 (B2 : Blk _ _ _ (eStamp t))
  replace B1 := B1.ext e2
  simp (disch := first | exact Nat.le_of_ble_eq_true rfl | omega) only [AXR, AXB, J.dst, reduceIte, Nat.reduceEqDiff, Nat.reduceAdd, Nat.reduceMul, Nat.reduceLT, Nat.reduceLeDiff, f89r0, f89r1, f89r2, f89r3, f89r4, f89c4_eq, f89c5_eq, f89c3_eq, f89c2_eq, f89c1_eq, f89c0_eq, B1.cel, B2.rd, eCV, eStamp, S.vn]
  refine last_ok c.vers t _ (S.vers.ext (e1.trans e2)) hn ?_
  intro h3 e3
  replace B1 := B1.ext e3
  simp (disch := first | exact Nat.le_of_ble_eq_true rfl | omega) only [AXR, AXB, J.dst, reduceIte, Nat.reduceEqDiff, Nat.reduceAdd, Nat.reduceMul, Nat.reduceLT, Nat.reduceLeDiff, f89r0, f89r1, f89r2, f89r3, f89r4, f89c4_eq, f89c5_eq, f89c3_eq, f89c2_eq, f89c1_eq, f89c0_eq, B1.cel, eCV]
  have hR := hR _ (e1.trans (e2.trans e3))
  have hb := lastV_le c.vers t
  by_cases hl : lastV c.vers t < 0
  · simp (disch := first | exact Nat.le_of_ble_eq_true rfl | omega) only [AXR, AXB, J.dst, reduceIte, Nat.reduceEqDiff, Nat.reduceAdd, Nat.reduceMul, Nat.reduceLT, Nat.reduceLeDiff, decide_eq_true hl]
    simpa [tellV, hl, noB] using hR
  obtain ⟨k, hk⟩ : ∃ k : Nat, lastV c.vers t = k := ⟨(lastV c.vers t).toNat, by omega⟩
  obtain ⟨v, hv⟩ := get_ex (show k < c.vers.length by omega)
  obtain ⟨b, o, ha, _, hrow⟩ := (S.vers.ext (e1.trans (e2.trans e3))).elem eVer_len hv
  rw [hk] at hb hl
  simp (disch := first | exact Nat.le_of_ble_eq_true rfl | omega) only [AXR, AXB, J.dst, reduceIte, Nat.reduceEqDiff, Nat.reduceAdd, Nat.reduceMul, Nat.reduceLT, Nat.reduceLeDiff, decide_eq_false hl, hk, ha, S.vn, row_ver hrow]
  have ht : tellV c.vers t = if v.drop then (noB, false) else (v.data, true) := by
    simp [tellV, hk, List.getD_eq_getElem?_getD, hv, hl]
  rw [ht] at hR
  refine ⟨by omega, by omega, fun hd => ?_, fun hd => ⟨by omega, by omega, ?_⟩⟩
  · simpa [hd, noB] using hR
  · simpa [hd] using hR

theorem of_ok {B : Nat → Prop} (x : CV) (c : Cell) (t : Stamp) (h : Heap) (S : CR B h x c) (hn : c.vers.length ≤ maxLen) {R : Value → Heap → Prop}
    (hR : ∀ h', Ext h h' → R (.tuple #[.string (tellV c.vers t).1, .bool (tellV c.vers t).2]) h') :
    CallsH Try.prog 107 [.agg (eCV x).toArray, .agg (eStamp t).toArray] h R := by
  refine f107ok (by simp) ?_
  simp (disch := first | exact Nat.le_of_ble_eq_true rfl | omega) only [AXR, AXB, J.dst, reduceIte, Nat.reduceEqDiff, Nat.reduceAdd, Nat.reduceMul, Nat.reduceLT, Nat.reduceLeDiff, f107r0, f107r1, f107r2, f107r3, f107r4, f107r5, f107r6, f107r7, f107r8, f107r9, f107r10, f107c10_eq, f107c9_eq, f107c8_eq, f107c7_eq, f107c11_eq, f107c6_eq, f107c5_eq, f107c4_eq, f107c14_eq, f107c15_eq, f107c13_eq, f107c12_eq, f107c3_eq, f107c2_eq, f107c1_eq, f107c0_eq]
  refine wL_boxN rfl ?_; rintro b1 h1 e1 s1 hb1 (B1 : Blk _ _ _ (eCV x))
  refine wL_boxN rfl ?_; rintro b2 h2 e2 s2 hb2 (B2 : Blk _ _ _ (eStamp t))
  replace B1 := B1.ext e2
  simp (disch := first | exact Nat.le_of_ble_eq_true rfl | omega) only [AXR, AXB, J.dst, reduceIte, Nat.reduceEqDiff, Nat.reduceAdd, Nat.reduceMul, Nat.reduceLT, Nat.reduceLeDiff, f107r0, f107r1, f107r2, f107r3, f107r4, f107r5, f107r6, f107r7, f107r8, f107r9, f107r10, f107c10_eq, f107c9_eq, f107c8_eq, f107c7_eq, f107c11_eq, f107c6_eq, f107c5_eq, f107c4_eq, f107c14_eq, f107c15_eq, f107c13_eq, f107c12_eq, f107c3_eq, f107c2_eq, f107c1_eq, f107c0_eq]
  unfold maxLen at hn
  refine loop_in (fun n σ h' => Ext h2 h' ∧ ∃ k : Nat, k + n = c.vers.length ∧ σ = [(2, ptr b1 0), (3, ptr b2 0), (6, .string (ofK c.vers t k).1), (7, .bool (ofK c.vers t k).2), (8, vi k)])
    c.vers.length ⟨Ext.refl _, 0, by omega, rfl⟩ ?_
  rintro n σ h' ⟨e3, k, hk, rfl⟩ Q' hnx hex hrt _
  replace B1 := B1.ext e3
  replace B2 := B2.ext e3
  simp (disch := first | exact Nat.le_of_ble_eq_true rfl | omega) only [AXR, AXB, J.dst, reduceIte, Nat.reduceEqDiff, Nat.reduceAdd, Nat.reduceMul, Nat.reduceLT, Nat.reduceLeDiff, f107r0, f107r1, f107r2, f107r3, f107r4, f107r5, f107r6, f107r7, f107r8, f107r9, f107r10, f107c10_eq, f107c9_eq, f107c8_eq, f107c7_eq, f107c11_eq, f107c6_eq, f107c5_eq, f107c4_eq, f107c14_eq, f107c15_eq, f107c13_eq, f107c12_eq, f107c3_eq, f107c2_eq, f107c1_eq, f107c0_eq, B1.cel, eCV, S.vn]
  refine ⟨fun h2 => ?_, fun h2 => ?_⟩
  · have hkl : k < c.vers.length := by have := of_decide_eq_true h2; omega
    obtain ⟨v, hv⟩ := get_ex hkl
    obtain ⟨b, o, ha, _, hrow⟩ := (S.vers.ext (e1.trans (e2.trans e3))).elem eVer_len hv
    simp (disch := first | exact Nat.le_of_ble_eq_true rfl | omega) only [AXR, AXB, J.dst, reduceIte, Nat.reduceEqDiff, Nat.reduceAdd, Nat.reduceMul, Nat.reduceLT, Nat.reduceLeDiff, f107r0, f107r1, f107r2, f107r3, f107r4, f107r5, f107r6, f107r7, f107r8, f107r9, f107r10, f107c10_eq, f107c9_eq, f107c8_eq, f107c7_eq, f107c11_eq, f107c6_eq, f107c5_eq, f107c4_eq, f107c14_eq, f107c15_eq, f107c13_eq, f107c12_eq, f107c3_eq, f107c2_eq, f107c1_eq, f107c0_eq, ha, row_ver hrow]
    refine ⟨by omega, by omega, ?_⟩
    refine wL_newN ?_; rintro b4 h4 e4 s4 hb4 B4
    refine wL_stN rfl rfl rfl B4 (by decide) (eVer_one v) ?_; intro h5 u5 (B5 : Blk _ _ _ (eVer v))
    have e5 := u5.ext e4 (by omega)
    replace B2 := B2.ext e5
    simp (disch := first | exact Nat.le_of_ble_eq_true rfl | omega) only [AXR, AXB, J.dst, reduceIte, Nat.reduceEqDiff, Nat.reduceAdd, Nat.reduceMul, Nat.reduceLT, Nat.reduceLeDiff, f107r0, f107r1, f107r2, f107r3, f107r4, f107r5, f107r6, f107r7, f107r8, f107r9, f107r10, f107c10_eq, f107c9_eq, f107c8_eq, f107c7_eq, f107c11_eq, f107c6_eq, f107c5_eq, f107c4_eq, f107c14_eq, f107c15_eq, f107c13_eq, f107c12_eq, f107c3_eq, f107c2_eq, f107c1_eq, f107c0_eq, B2.rd, B5.rd, eVer, eStamp]
    refine rless_ok t v.at_ _ ?_
    intro h6 e6
    replace B5 := B5.ext e6
    simp (disch := first | exact Nat.le_of_ble_eq_true rfl | omega) only [AXR, AXB, J.dst, reduceIte, Nat.reduceEqDiff, Nat.reduceAdd, Nat.reduceMul, Nat.reduceLT, Nat.reduceLeDiff, f107r0, f107r1, f107r2, f107r3, f107r4, f107r5, f107r6, f107r7, f107r8, f107r9, f107r10, f107c10_eq, f107c9_eq, f107c8_eq, f107c7_eq, f107c11_eq, f107c6_eq, f107c5_eq, f107c4_eq, f107c14_eq, f107c15_eq, f107c13_eq, f107c12_eq, f107c3_eq, f107c2_eq, f107c1_eq, f107c0_eq]
    have hok : ofK c.vers t (k + 1) = if Stamp.lt t v.at_ then ofK c.vers t k else (v.data, !v.drop) := by simp [ofK, List.getD_eq_getElem?_getD, hv]
    have hw : IntKind.i64.wrap ((k : Int) + 1) = ((k + 1 : Nat) : Int) := i64_wrap (by omega) (by omega)
    refine ⟨fun h7 => ?_, fun h7 => ?_⟩
    · refine drw_lt ?_
      simp (disch := first | exact Nat.le_of_ble_eq_true rfl | omega) only [AXR, AXB, J.dst, reduceIte, Nat.reduceEqDiff, Nat.reduceAdd, Nat.reduceMul, Nat.reduceLT, Nat.reduceLeDiff, f107r0, f107r1, f107r2, f107r3, f107r4, f107r5, f107r6, f107r7, f107r8, f107r9, f107r10, f107c10_eq, f107c9_eq, f107c8_eq, f107c7_eq, f107c11_eq, f107c6_eq, f107c5_eq, f107c4_eq, f107c14_eq, f107c15_eq, f107c13_eq, f107c12_eq, f107c3_eq, f107c2_eq, f107c1_eq, f107c0_eq, B5.cel, eVer, hw]
      have h7' : Stamp.lt t v.at_ = false := by simpa using h7
      refine ⟨by have := B5.lt; omega, by have := B5.lt; omega, hnx (n - 1) _ _ (by omega) ⟨e3.trans (e5.trans e6), k + 1, by omega, ?_⟩⟩
      rw [hok, h7']; rfl
    · have h7' : Stamp.lt t v.at_ = true := by simpa using h7
      rw [hw]
      refine hnx (n - 1) _ _ (by omega) ⟨e3.trans (e5.trans e6), k + 1, by omega, ?_⟩
      rw [hok, h7']; rfl
  · have hkl : k = c.vers.length := by have := of_decide_eq_false h2; omega
    refine hex _ _ ?_
    simp (disch := first | exact Nat.le_of_ble_eq_true rfl | omega) only [AXR, AXB, J.dst, reduceIte, Nat.reduceEqDiff, Nat.reduceAdd, Nat.reduceMul, Nat.reduceLT, Nat.reduceLeDiff, f107r0, f107r1, f107r2, f107r3, f107r4, f107r5, f107r6, f107r7, f107r8, f107r9, f107r10, f107c10_eq, f107c9_eq, f107c8_eq, f107c7_eq, f107c11_eq, f107c6_eq, f107c5_eq, f107c4_eq, f107c14_eq, f107c15_eq, f107c13_eq, f107c12_eq, f107c3_eq, f107c2_eq, f107c1_eq, f107c0_eq]
    have hR := hR _ (e1.trans (e2.trans e3))
    rw [← ofV_eq] at hR
    rw [hkl]
    refine ⟨fun h3 => ?_, fun h3 => ?_⟩
    · have h3' : (ofK c.vers t c.vers.length).2 = false := by simpa using h3
      simpa [ofV, h3', noB] using hR
    · have h3' : (ofK c.vers t c.vers.length).2 = true := by simpa using h3
      simpa [ofV, h3'] using hR

/-- The first place from k on whose key is the key. -/
theorem findK_eq (cs : List Cell) (key : ByteArray) (k : Nat) (hk : ∀ j c, j < k → cs[j]? = some c → c.key ≠ key) : (∀ c, cs[k]? = some c → c.key = key → findK cs key = k) ∧ (k = cs.length → findK cs key = -1) := by
  refine ⟨fun c hc he => ?_, fun he => ?_⟩
  · have : cs.findIdx? (fun c => decide (c.key = key)) = some k := by
      rw [List.findIdx?_eq_some_iff_getElem]
      have hl : k < cs.length := by
        rcases Nat.lt_or_ge k cs.length with h | h
        · exact h
        · rw [List.getElem?_eq_none h] at hc; cases hc
      rw [List.getElem?_eq_getElem hl] at hc
      cases hc
      refine ⟨hl, by simpa using he, fun j hj => ?_⟩
      simpa using hk j _ hj (List.getElem?_eq_getElem (by omega))
    simp [findK, this]
  · have : cs.findIdx? (fun c => decide (c.key = key)) = none := by
      rw [List.findIdx?_eq_none_iff]
      intro x hx
      obtain ⟨j, hj, rfl⟩ := List.mem_iff_getElem.1 hx
      simpa using hk j _ (by omega) (List.getElem?_eq_getElem hj)
    simp [findK, this]

theorem rfind_ok {B : Nat → Prop} {a : Option Addr} {cap : Nat} (cs : List Cell) (key : ByteArray) (h : Heap) (S : SlC B h a cs) (hn : cs.length ≤ maxLen) {R : Value → Heap → Prop}
    (hR : R (vi (findK cs key)) h) : CallsH Try.prog 108 [.slice a cs.length cap, .string key] h R := by
  refine f108ok (by simp) ?_
  simp (disch := first | exact Nat.le_of_ble_eq_true rfl | omega) only [AXR, AXB, J.dst, reduceIte, Nat.reduceEqDiff, Nat.reduceAdd, Nat.reduceMul, Nat.reduceLT, Nat.reduceLeDiff, f108r0, f108r1, f108r2, f108r3, f108r4, f108r5, f108r6, f108c8_eq, f108c7_eq, f108c6_eq, f108c9_eq, f108c5_eq, f108c4_eq, f108c3_eq, f108c10_eq, f108c2_eq, f108c1_eq, f108c0_eq]
  unfold maxLen at hn
  refine loop_in (fun n σ h' => h' = h ∧ ∃ k : Nat, k + n = cs.length ∧ σ = [(0, .slice a cs.length cap), (1, .string key), (5, vi k)] ∧ ∀ j c, j < k → cs[j]? = some c → c.key ≠ key)
    cs.length ⟨rfl, 0, by omega, rfl, by intros; omega⟩ ?_
  rintro n σ h' ⟨rfl, k, hk, rfl, hnk⟩ Q' hnx hex hrt _
  simp (disch := first | exact Nat.le_of_ble_eq_true rfl | omega) only [AXR, AXB, J.dst, reduceIte, Nat.reduceEqDiff, Nat.reduceAdd, Nat.reduceMul, Nat.reduceLT, Nat.reduceLeDiff, f108r0, f108r1, f108r2, f108r3, f108r4, f108r5, f108r6, f108c8_eq, f108c7_eq, f108c6_eq, f108c9_eq, f108c5_eq, f108c4_eq, f108c3_eq, f108c10_eq, f108c2_eq, f108c1_eq, f108c0_eq]
  have hfk := findK_eq cs key k hnk
  refine ⟨fun h2 => ?_, fun h2 => ?_⟩
  · have hkl : k < cs.length := by have := of_decide_eq_true h2; omega
    obtain ⟨c, hc⟩ := get_ex hkl
    obtain ⟨b, o, v, rfl, _, hrow, hcr⟩ := S.elem hc
    simp (disch := first | exact Nat.le_of_ble_eq_true rfl | omega) only [AXR, AXB, J.dst, reduceIte, Nat.reduceEqDiff, Nat.reduceAdd, Nat.reduceMul, Nat.reduceLT, Nat.reduceLeDiff, f108r0, f108r1, f108r2, f108r3, f108r4, f108r5, f108r6, f108c8_eq, f108c7_eq, f108c6_eq, f108c9_eq, f108c5_eq, f108c4_eq, f108c3_eq, f108c10_eq, f108c2_eq, f108c1_eq, f108c0_eq, row_cv hrow, keq_iff, hcr.key]
    refine ⟨by omega, by omega, fun h3 => ?_, fun h3 => ?_⟩
    · refine hrt _ _ ?_
      simp (disch := first | exact Nat.le_of_ble_eq_true rfl | omega) only [AXR, AXB, J.dst, reduceIte, Nat.reduceEqDiff, Nat.reduceAdd, Nat.reduceMul, Nat.reduceLT, Nat.reduceLeDiff]
      rw [hfk.1 c hc (by simpa using h3)] at hR
      exact hR
    · rw [i64_wrap (by omega) (by omega)]
      refine hnx (n - 1) _ _ (by omega) ⟨rfl, k + 1, by omega, rfl, ?_⟩
      intro j c' hj hc'
      rcases Nat.lt_or_ge j k with hlt | hge
      · exact hnk j c' hlt hc'
      · have : j = k := by omega
        subst this
        rw [hc] at hc'; cases hc'
        simpa using h3
  · have hkl : k = cs.length := by have := of_decide_eq_false h2; omega
    refine hex _ _ ?_
    try simp (disch := first | exact Nat.le_of_ble_eq_true rfl | omega) only [AXR, AXB, J.dst, reduceIte, Nat.reduceEqDiff, Nat.reduceAdd, Nat.reduceMul, Nat.reduceLT, Nat.reduceLeDiff, f108r0, f108r1, f108r2, f108r3, f108r4, f108r5, f108r6, f108c8_eq, f108c7_eq, f108c6_eq, f108c9_eq, f108c5_eq, f108c4_eq, f108c3_eq, f108c10_eq, f108c2_eq, f108c1_eq, f108c0_eq]
    rw [hfk.2 hkl] at hR
    exact hR
end Go.Proofs.Ytefghfgmkndikaa
