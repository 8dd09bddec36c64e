/-
  The law MvccTrims: its walk.
-/
import Derived.Test.YtefghfgmkndikaaPS
import Derived.Test.YtefghfgmkndikaaGL10
set_option linter.unusedSimpArgs false
set_option linter.unusedVariables false
namespace Go.Proofs.Ytefghfgmkndikaa
open Go Go.AX

theorem one_stamp (t : Stamp) : ∀ v ∈ eStamp t, v.oneCell' = true := by
  intro v hv; simp only [eStamp, List.mem_cons, List.not_mem_nil, or_false] at hv
  rcases hv with rfl | rfl <;> rfl
theorem trims_ok {B : Nat → Prop} {a : Option Addr} {c : Nat} (ops : List Op8) (below t0 : Stamp) (s : Spn) (h : Heap) (S : SlF B h eOp8 a ops) (hn : ops.length ≤ maxLen) {R : Value → Heap → Prop}
    (hR : ∀ h', Ext h h' → R (.bool true) h') : CallsH Try.prog 10 [.slice a ops.length c, .agg (eStamp below).toArray, .agg (eStamp t0).toArray, .agg (eSpn s).toArray] h R := by
  refine f10ok (by simp) ?_
  (try simp (config := { maxSteps := 1000000 }) (disch := first | exact Nat.le_of_ble_eq_true rfl | omega) only [AXS, AXB, J.dst, reduceIte, Nat.reduceEqDiff, Nat.reduceAdd, Nat.reduceMul, Nat.reduceLT, Nat.reduceLeDiff]); rw [f10c0_eq]; (try simp (config := { maxSteps := 1000000 }) (disch := first | exact Nat.le_of_ble_eq_true rfl | omega) only [AXS, AXB, J.dst, reduceIte, Nat.reduceEqDiff, Nat.reduceAdd, Nat.reduceMul, Nat.reduceLT, Nat.reduceLeDiff, f10r0, f10r1, f10r2, f10r3, f10r4, f10r5, f10r6, f10r7, f10r8, f10r9, f10r10, f10r11, f10r12, f10r13, f10r14, f10r15, f10r16, f10r17, f10r18, f10r19, f10r20, f10r21, f10r22])
  refine wL_boxN rfl ?_; rintro b1 h1 e1 s1 hb1 (B1 : Blk _ _ _ (eStamp below))
  refine wL_boxN rfl ?_; rintro b2 h2 e2 s2 hb2 (B2 : Blk _ _ _ (eStamp t0))
  refine wL_boxN rfl ?_; rintro b3 h3 e3 s3 hb3 (B3 : Blk _ _ _ (eSpn s))
  replace B1 := B1.ext (e2.trans e3); replace B2 := B2.ext e3
  have e03 := e1.trans (e2.trans e3)
  have hs1 := e1.size
  have hs2 := e2.size
  (try simp (config := { maxSteps := 1000000 }) (disch := first | exact Nat.le_of_ble_eq_true rfl | omega) only [AXS, AXB, J.dst, reduceIte, Nat.reduceEqDiff, Nat.reduceAdd, Nat.reduceMul, Nat.reduceLT, Nat.reduceLeDiff]); rw [f10c1_eq]; (try simp (config := { maxSteps := 1000000 }) (disch := first | exact Nat.le_of_ble_eq_true rfl | omega) only [AXS, AXB, J.dst, reduceIte, Nat.reduceEqDiff, Nat.reduceAdd, Nat.reduceMul, Nat.reduceLT, Nat.reduceLeDiff, f10r0, f10r1, f10r2, f10r3, f10r4, f10r5, f10r6, f10r7, f10r8, f10r9, f10r10, f10r11, f10r12, f10r13, f10r14, f10r15, f10r16, f10r17, f10r18, f10r19, f10r20, f10r21, f10r22])
  refine begun_ok _ ?_
  intro h4 e4
  refine ⟨trivial, ?_⟩
  replace B1 := B1.ext e4; replace B2 := B2.ext e4; replace B3 := B3.ext e4
  have e04 := e03.trans e4
  have S4 := S.ext e04
  (try simp (config := { maxSteps := 1000000 }) (disch := first | exact Nat.le_of_ble_eq_true rfl | omega) only [AXS, AXB, J.dst, reduceIte, Nat.reduceEqDiff, Nat.reduceAdd, Nat.reduceMul, Nat.reduceLT, Nat.reduceLeDiff]); rw [f10c2_eq]; (try simp (config := { maxSteps := 1000000 }) (disch := first | exact Nat.le_of_ble_eq_true rfl | omega) only [AXS, AXB, J.dst, reduceIte, Nat.reduceEqDiff, Nat.reduceAdd, Nat.reduceMul, Nat.reduceLT, Nat.reduceLeDiff, f10r0, f10r1, f10r2, f10r3, f10r4, f10r5, f10r6, f10r7, f10r8, f10r9, f10r10, f10r11, f10r12, f10r13, f10r14, f10r15, f10r16, f10r17, f10r18, f10r19, f10r20, f10r21, f10r22])
  rw [f10c4_eq]
  simp (config := { maxSteps := 1000000 }) (disch := first | exact Nat.le_of_ble_eq_true rfl | omega) only [AXJ, AXS, AXB, J.dst, reduceIte, Nat.reduceEqDiff, Nat.reduceAdd, Nat.reduceMul, Nat.reduceLT, Nat.reduceLeDiff, f10r3]
  refine light_ok ops 60 _ S4 hn ?_
  refine ⟨trivial, ?_⟩
  simp (config := { maxSteps := 1000000 }) (disch := first | exact Nat.le_of_ble_eq_true rfl | omega) only [AXJ, AXS, AXB, J.dst, reduceIte, Nat.reduceEqDiff, Nat.reduceAdd, Nat.reduceMul, Nat.reduceLT, Nat.reduceLeDiff, f10r3, B3.cel, eSpn]
  simp (config := { maxSteps := 1000000 }) (disch := first | exact Nat.le_of_ble_eq_true rfl | omega) only [AXJ, AXS, AXB, J.dst, reduceIte, Nat.reduceEqDiff, Nat.reduceAdd, Nat.reduceMul, Nat.reduceLT, Nat.reduceLeDiff, f10r3a, B3.cel, eSpn]
  rw [f10c5_eq]
  simp (config := { maxSteps := 1000000 }) (disch := first | exact Nat.le_of_ble_eq_true rfl | omega) only [AXS, AXB, J.dst, reduceIte, Nat.reduceEqDiff, Nat.reduceAdd, Nat.reduceMul, Nat.reduceLT, Nat.reduceLeDiff]
  refine ⟨fun hh => ?_, fun hh => ?_⟩
  · (try simp (config := { maxSteps := 1000000 }) (disch := first | exact Nat.le_of_ble_eq_true rfl | omega) only [AXS, AXB, J.dst, reduceIte, Nat.reduceEqDiff, Nat.reduceAdd, Nat.reduceMul, Nat.reduceLT, Nat.reduceLeDiff]); rw [f10c6_eq]; (try simp (config := { maxSteps := 1000000 }) (disch := first | exact Nat.le_of_ble_eq_true rfl | omega) only [AXS, AXB, J.dst, reduceIte, Nat.reduceEqDiff, Nat.reduceAdd, Nat.reduceMul, Nat.reduceLT, Nat.reduceLeDiff, f10r0, f10r1, f10r2, f10r3, f10r4, f10r5, f10r6, f10r7, f10r8, f10r9, f10r10, f10r11, f10r12, f10r13, f10r14, f10r15, f10r16, f10r17, f10r18, f10r19, f10r20, f10r21, f10r22])
    exact hR _ e04
  simp only [Bool.or_eq_false_iff, Bool.not_eq_false', decide_eq_false_iff_not] at hh
  have hlen := lightL_len hh.1.1
  (try simp (config := { maxSteps := 1000000 }) (disch := first | exact Nat.le_of_ble_eq_true rfl | omega) only [AXS, AXB, J.dst, reduceIte, Nat.reduceEqDiff, Nat.reduceAdd, Nat.reduceMul, Nat.reduceLT, Nat.reduceLeDiff]); rw [f10c7_eq]; (try simp (config := { maxSteps := 1000000 }) (disch := first | exact Nat.le_of_ble_eq_true rfl | omega) only [AXS, AXB, J.dst, reduceIte, Nat.reduceEqDiff, Nat.reduceAdd, Nat.reduceMul, Nat.reduceLT, Nat.reduceLeDiff, f10r0, f10r1, f10r2, f10r3, f10r4, f10r5, f10r6, f10r7, f10r8, f10r9, f10r10, f10r11, f10r12, f10r13, f10r14, f10r15, f10r16, f10r17, f10r18, f10r19, f10r20, f10r21, f10r22]); rw [f10c8_eq]; (try simp (config := { maxSteps := 1000000 }) (disch := first | exact Nat.le_of_ble_eq_true rfl | omega) only [AXS, AXB, J.dst, reduceIte, Nat.reduceEqDiff, Nat.reduceAdd, Nat.reduceMul, Nat.reduceLT, Nat.reduceLeDiff, f10r0, f10r1, f10r2, f10r3, f10r4, f10r5, f10r6, f10r7, f10r8, f10r9, f10r10, f10r11, f10r12, f10r13, f10r14, f10r15, f10r16, f10r17, f10r18, f10r19, f10r20, f10r21, f10r22])
  rw [f10c9_eq]
  refine loop_in (fun n σ h' => Ext h4 h' ∧ ∃ (k c1 : Nat) (a1 : Option Addr), k + n = ops.length ∧ SlC (fun b => b ≠ b2) h' a1 (runL (ops.take k)) ∧ (runL (ops.take k)).length ≤ c1 ∧
      σ = [(0, .slice a ops.length c), (5, ptr b1 0), (6, ptr b2 0), (7, ptr b3 0), (9, .slice a1 (runL (ops.take k)).length c1), (10, vi k)]) ops.length ⟨Ext.refl _, 0, 0, none, by omega, SlC.nil, by exact Nat.le_refl _, rfl⟩ ?_
  rintro n σ h5 ⟨e5, k, c1, a1, hk, SC, hcap, rfl⟩ Q' hnx hex hrt _
  have g := (gdRun (ops.take k)).mono (show _ ≤ 60 by rw [List.length_take]; omega)
  (try simp (config := { maxSteps := 1000000 }) (disch := first | exact Nat.le_of_ble_eq_true rfl | omega) only [AXS, AXB, J.dst, reduceIte, Nat.reduceEqDiff, Nat.reduceAdd, Nat.reduceMul, Nat.reduceLT, Nat.reduceLeDiff]); rw [f10c10_eq]; (try simp (config := { maxSteps := 1000000 }) (disch := first | exact Nat.le_of_ble_eq_true rfl | omega) only [AXS, AXB, J.dst, reduceIte, Nat.reduceEqDiff, Nat.reduceAdd, Nat.reduceMul, Nat.reduceLT, Nat.reduceLeDiff, f10r0, f10r1, f10r2, f10r3, f10r4, f10r5, f10r6, f10r7, f10r8, f10r9, f10r10, f10r11, f10r12, f10r13, f10r14, f10r15, f10r16, f10r17, f10r18, f10r19, f10r20, f10r21, f10r22]); rw [f10c11_eq]; (try simp (config := { maxSteps := 1000000 }) (disch := first | exact Nat.le_of_ble_eq_true rfl | omega) only [AXS, AXB, J.dst, reduceIte, Nat.reduceEqDiff, Nat.reduceAdd, Nat.reduceMul, Nat.reduceLT, Nat.reduceLeDiff, f10r0, f10r1, f10r2, f10r3, f10r4, f10r5, f10r6, f10r7, f10r8, f10r9, f10r10, f10r11, f10r12, f10r13, f10r14, f10r15, f10r16, f10r17, f10r18, f10r19, f10r20, f10r21, f10r22])
  refine ⟨fun h2 => ?_, fun h2 => ?_⟩
  · have hkl : k < ops.length := by have := of_decide_eq_true h2; omega
    obtain ⟨o, ho⟩ := get_ex hkl
    obtain ⟨b, q, rfl, _, hrow⟩ := (S4.ext e5).elem eOp8_len ho
    (try simp (config := { maxSteps := 1000000 }) (disch := first | exact Nat.le_of_ble_eq_true rfl | omega) only [AXS, AXB, J.dst, reduceIte, Nat.reduceEqDiff, Nat.reduceAdd, Nat.reduceMul, Nat.reduceLT, Nat.reduceLeDiff]); rw [f10c12_eq]; (try simp (config := { maxSteps := 1000000 }) (disch := first | exact Nat.le_of_ble_eq_true rfl | omega) only [AXS, AXB, J.dst, reduceIte, Nat.reduceEqDiff, Nat.reduceAdd, Nat.reduceMul, Nat.reduceLT, Nat.reduceLeDiff, f10r0, f10r1, f10r2, f10r3, f10r4, f10r5, f10r6, f10r7, f10r8, f10r9, f10r10, f10r11, f10r12, f10r13, f10r14, f10r15, f10r16, f10r17, f10r18, f10r19, f10r20, f10r21, f10r22, row_op8 hrow]); rw [f10c13_eq]; (try simp (config := { maxSteps := 1000000 }) (disch := first | exact Nat.le_of_ble_eq_true rfl | omega) only [AXS, AXB, J.dst, reduceIte, Nat.reduceEqDiff, Nat.reduceAdd, Nat.reduceMul, Nat.reduceLT, Nat.reduceLeDiff, f10r0, f10r1, f10r2, f10r3, f10r4, f10r5, f10r6, f10r7, f10r8, f10r9, f10r10, f10r11, f10r12, f10r13, f10r14, f10r15, f10r16, f10r17, f10r18, f10r19, f10r20, f10r21, f10r22, row_op8 hrow])
    refine ⟨by omega, by omega, ?_⟩
    refine doG g (by omega) SC o ?_
    intro ax cx ay ny cy h6 _ O6 _ e6
    refine ⟨trivial, ?_⟩
    (try simp (config := { maxSteps := 1000000 }) (disch := first | exact Nat.le_of_ble_eq_true rfl | omega) only [AXS, AXB, J.dst, reduceIte, Nat.reduceEqDiff, Nat.reduceAdd, Nat.reduceMul, Nat.reduceLT, Nat.reduceLeDiff]); rw [f10c14_eq]; (try simp (config := { maxSteps := 1000000 }) (disch := first | exact Nat.le_of_ble_eq_true rfl | omega) only [AXS, AXB, J.dst, reduceIte, Nat.reduceEqDiff, Nat.reduceAdd, Nat.reduceMul, Nat.reduceLT, Nat.reduceLeDiff, f10r0, f10r1, f10r2, f10r3, f10r4, f10r5, f10r6, f10r7, f10r8, f10r9, f10r10, f10r11, f10r12, f10r13, f10r14, f10r15, f10r16, f10r17, f10r18, f10r19, f10r20, f10r21, f10r22])
    rw [i64_wrap (by omega) (by omega)]
    have hrun := runL_take ho
    refine hnx (n - 1) _ _ (by omega) ⟨e5.trans e6, k + 1, cx, ax, by omega, ?_, ?_, ?_⟩
    · rw [hrun]; exact O6.slc.imp fun b hb => by have := e5.size; have := e4.size; have := e3.size; omega
    · rw [hrun]; exact OwnC.cap O6
    · rw [hrun]; rfl
  · have hkl : k = ops.length := by have := of_decide_eq_false h2; omega
    refine hex _ _ ?_
    subst hkl
    rw [List.take_length] at *
    replace B1 := B1.ext e5; replace B2 := B2.ext e5; replace B3 := B3.ext e5
    have e05 := e04.trans e5
    generalize runL ops = cs at *
    (try simp (config := { maxSteps := 1000000 }) (disch := first | exact Nat.le_of_ble_eq_true rfl | omega) only [AXS, AXB, J.dst, reduceIte, Nat.reduceEqDiff, Nat.reduceAdd, Nat.reduceMul, Nat.reduceLT, Nat.reduceLeDiff]); rw [f10c15_eq]; (try simp (config := { maxSteps := 1000000 }) (disch := first | exact Nat.le_of_ble_eq_true rfl | omega) only [AXS, AXB, J.dst, reduceIte, Nat.reduceEqDiff, Nat.reduceAdd, Nat.reduceMul, Nat.reduceLT, Nat.reduceLeDiff, f10r0, f10r1, f10r2, f10r3, f10r4, f10r5, f10r6, f10r7, f10r8, f10r9, f10r10, f10r11, f10r12, f10r13, f10r14, f10r15, f10r16, f10r17, f10r18, f10r19, f10r20, f10r21, f10r22, B1.rd, eStamp])
    refine trimG g (by omega) SC below ?_
    intro a6 c6 h6 g6 O6 e6
    refine ⟨trivial, ?_⟩
    have D : SlC (fun b => b ≠ b2) h6 a6 (trimL cs below) := O6.slc.imp fun b hb => by have := e5.size; have := e4.size; have := e3.size; omega
    have hcapd := OwnC.cap O6
    replace B1 := B1.ext e6; replace B2 := B2.ext e6; replace B3 := B3.ext e6; replace SC := SC.ext e6
    (try simp (config := { maxSteps := 1000000 }) (disch := first | exact Nat.le_of_ble_eq_true rfl | omega) only [AXS, AXB, J.dst, reduceIte, Nat.reduceEqDiff, Nat.reduceAdd, Nat.reduceMul, Nat.reduceLT, Nat.reduceLeDiff]); rw [f10c16_eq]; (try simp (config := { maxSteps := 1000000 }) (disch := first | exact Nat.le_of_ble_eq_true rfl | omega) only [AXS, AXB, J.dst, reduceIte, Nat.reduceEqDiff, Nat.reduceAdd, Nat.reduceMul, Nat.reduceLT, Nat.reduceLeDiff, f10r0, f10r1, f10r2, f10r3, f10r4, f10r5, f10r6, f10r7, f10r8, f10r9, f10r10, f10r11, f10r12, f10r13, f10r14, f10r15, f10r16, f10r17, f10r18, f10r19, f10r20, f10r21, f10r22, B1.rd, B2.rd, eStamp])
    refine rless_ok t0 below _ ?_
    intro h7 e7
    refine ⟨trivial, ?_⟩
    replace B1 := B1.ext e7; replace B2 := B2.ext e7; replace B3 := B3.ext e7; replace SC := SC.ext e7; replace D := D.ext e7
    have e07 := e05.trans (e6.trans e7)
    -- behind the stamp's choice
    have app : ∀ (h8 : Heap) (t : Stamp), Ext h h8 → Stamp.lt t below = false → Blk h8 b1 39 (eStamp below) → Blk h8 b2 39 (eStamp t) → Blk h8 b3 94 (eSpn s) → SlC (fun b => b ≠ b2) h8 a1 cs → SlC (fun b => b ≠ b2) h8 a6 (trimL cs below) → ∀ τ,
        AX.look τ 5 = some (ptr b1 0) → AX.look τ 6 = some (ptr b2 0) → AX.look τ 7 = some (ptr b3 0) → AX.look τ 9 = some (.slice a1 cs.length c1) → AX.look τ 11 = some (.slice a6 (trimL cs below).length c6) → wC Try.prog f10c19 (endW [Rs.tmp 8] R) τ h8 := by
      intro h8 t e08 ht B1 B2 B3 SC D τ l5 l6 l7 l9 l11
      (try simp (config := { maxSteps := 1000000 }) (disch := first | exact Nat.le_of_ble_eq_true rfl | omega) only [AXS, AXB, J.dst, reduceIte, Nat.reduceEqDiff, Nat.reduceAdd, Nat.reduceMul, Nat.reduceLT, Nat.reduceLeDiff]); rw [f10c19_eq]; (try simp (config := { maxSteps := 1000000 }) (disch := first | exact Nat.le_of_ble_eq_true rfl | omega) only [AXS, AXB, J.dst, reduceIte, Nat.reduceEqDiff, Nat.reduceAdd, Nat.reduceMul, Nat.reduceLT, Nat.reduceLeDiff, f10r0, f10r1, f10r2, f10r3, f10r4, f10r5, f10r6, f10r7, f10r8, f10r9, f10r10, f10r11, f10r12, f10r13, f10r14, f10r15, f10r16, f10r17, f10r18, f10r19, f10r20, f10r21, f10r22, B2.rd, B3.rd, eStamp, eSpn, l5, l6, l7, l9, l11])
      refine scanG g (by omega) SC hcap s t 1000 ?_
      intro a9 c9 h9 O9 e9
      refine ⟨trivial, ?_⟩
      replace B1 := B1.ext e9; replace B2 := B2.ext e9; replace B3 := B3.ext e9; replace D := D.ext e9
      try simp (config := { maxSteps := 1000000 }) (disch := first | exact Nat.le_of_ble_eq_true rfl | omega) only [AXS, AXB, J.dst, reduceIte, Nat.reduceEqDiff, Nat.reduceAdd, Nat.reduceMul, Nat.reduceLT, Nat.reduceLeDiff, l5, l6, l7, l9, l11]
      (try simp (config := { maxSteps := 1000000 }) (disch := first | exact Nat.le_of_ble_eq_true rfl | omega) only [AXS, AXB, J.dst, reduceIte, Nat.reduceEqDiff, Nat.reduceAdd, Nat.reduceMul, Nat.reduceLT, Nat.reduceLeDiff]); rw [f10c20_eq]; (try simp (config := { maxSteps := 1000000 }) (disch := first | exact Nat.le_of_ble_eq_true rfl | omega) only [AXS, AXB, J.dst, reduceIte, Nat.reduceEqDiff, Nat.reduceAdd, Nat.reduceMul, Nat.reduceLT, Nat.reduceLeDiff, f10r0, f10r1, f10r2, f10r3, f10r4, f10r5, f10r6, f10r7, f10r8, f10r9, f10r10, f10r11, f10r12, f10r13, f10r14, f10r15, f10r16, f10r17, f10r18, f10r19, f10r20, f10r21, f10r22, B2.rd, B3.rd, eStamp, eSpn])
      refine scanG g6 (by omega) D hcapd s t 1000 ?_
      rw [trim_scan g.good ht]
      intro a10 c10 h10 O10 e10
      refine ⟨trivial, ?_⟩
      replace B1 := B1.ext e10; replace D := D.ext e10; replace O9 := O9.ext e10
      try simp (config := { maxSteps := 1000000 }) (disch := first | exact Nat.le_of_ble_eq_true rfl | omega) only [AXS, AXB, J.dst, reduceIte, Nat.reduceEqDiff, Nat.reduceAdd, Nat.reduceMul, Nat.reduceLT, Nat.reduceLeDiff]
      have e010 := e08.trans (e9.trans e10)
      generalize hps : (scanL t 1000 (withinL cs s) []).1 = ps at *
      generalize (scanL t 1000 (withinL cs s) []).2 = er at *
      have hpl : ps.length ≤ 60 := by
        rw [← hps, scanL_eq]
        split
        · have := pairs_len t (withinL cs s)
          have := withinL_le cs s
          have := g.sz.1
          simp; omega
        · simp
      rw [f10c21_eq]
      simp (config := { maxSteps := 1000000 }) (disch := first | exact Nat.le_of_ble_eq_true rfl | omega) only [AXJ, AXS, AXB, J.dst, reduceIte, Nat.reduceEqDiff, Nat.reduceAdd, Nat.reduceMul, Nat.reduceLT, Nat.reduceLeDiff, f10r15, Bool.false_eq_true]
      simp (config := { maxSteps := 1000000 }) (disch := first | exact Nat.le_of_ble_eq_true rfl | omega) only [AXJ, AXS, AXB, J.dst, reduceIte, Nat.reduceEqDiff, Nat.reduceAdd, Nat.reduceMul, Nat.reduceLT, Nat.reduceLeDiff, f10r15a]
      refine mayG g6 (by omega) D ?_
      intro h11 e11
      refine ⟨trivial, ?_⟩
      replace B1 := B1.ext e11; replace D := D.ext e11; replace O9 := O9.ext e11; replace O10 := O10.ext e11
      simp (config := { maxSteps := 1000000 }) (disch := first | exact Nat.le_of_ble_eq_true rfl | omega) only [AXJ, AXS, AXB, J.dst, reduceIte, Nat.reduceEqDiff, Nat.reduceAdd, Nat.reduceMul, Nat.reduceLT, Nat.reduceLeDiff, Bool.false_eq_true]
      (try simp (config := { maxSteps := 1000000 }) (disch := first | exact Nat.le_of_ble_eq_true rfl | omega) only [AXS, AXB, J.dst, reduceIte, Nat.reduceEqDiff, Nat.reduceAdd, Nat.reduceMul, Nat.reduceLT, Nat.reduceLeDiff]); rw [f10c22_eq]; (try simp (config := { maxSteps := 1000000 }) (disch := first | exact Nat.le_of_ble_eq_true rfl | omega) only [AXS, AXB, J.dst, reduceIte, Nat.reduceEqDiff, Nat.reduceAdd, Nat.reduceMul, Nat.reduceLT, Nat.reduceLeDiff, f10r0, f10r1, f10r2, f10r3, f10r4, f10r5, f10r6, f10r7, f10r8, f10r9, f10r10, f10r11, f10r12, f10r13, f10r14, f10r15, f10r16, f10r17, f10r18, f10r19, f10r20, f10r21, f10r22]); rw [f10c24_eq]; (try simp (config := { maxSteps := 1000000 }) (disch := first | exact Nat.le_of_ble_eq_true rfl | omega) only [AXS, AXB, J.dst, reduceIte, Nat.reduceEqDiff, Nat.reduceAdd, Nat.reduceMul, Nat.reduceLT, Nat.reduceLeDiff, f10r0, f10r1, f10r2, f10r3, f10r4, f10r5, f10r6, f10r7, f10r8, f10r9, f10r10, f10r11, f10r12, f10r13, f10r14, f10r15, f10r16, f10r17, f10r18, f10r19, f10r20, f10r21, f10r22])
      have F1 := SlF.of_own O9 rfl
      have F2 := SlF.of_own O10 rfl
      rw [f10c25_eq]
      refine loop_in (fun n σ h' => Ext h11 h' ∧ ∃ k : Nat, k + n = ps.length ∧ σ = [(5, ptr b1 0), (11, .slice a6 (trimL cs below).length c6), (12, .slice a9 ps.length c9), (14, .slice a10 ps.length c10), (16, vi k)]) ps.length ⟨Ext.refl _, 0, by omega, rfl⟩ ?_
      rintro n σ h12 ⟨e12, k, hk, rfl⟩ Q2 hnx2 hex2 hrt2 _
      (try simp (config := { maxSteps := 1000000 }) (disch := first | exact Nat.le_of_ble_eq_true rfl | omega) only [AXS, AXB, J.dst, reduceIte, Nat.reduceEqDiff, Nat.reduceAdd, Nat.reduceMul, Nat.reduceLT, Nat.reduceLeDiff]); rw [f10c26_eq]; (try simp (config := { maxSteps := 1000000 }) (disch := first | exact Nat.le_of_ble_eq_true rfl | omega) only [AXS, AXB, J.dst, reduceIte, Nat.reduceEqDiff, Nat.reduceAdd, Nat.reduceMul, Nat.reduceLT, Nat.reduceLeDiff, f10r0, f10r1, f10r2, f10r3, f10r4, f10r5, f10r6, f10r7, f10r8, f10r9, f10r10, f10r11, f10r12, f10r13, f10r14, f10r15, f10r16, f10r17, f10r18, f10r19, f10r20, f10r21, f10r22]); rw [f10c27_eq]; (try simp (config := { maxSteps := 1000000 }) (disch := first | exact Nat.le_of_ble_eq_true rfl | omega) only [AXS, AXB, J.dst, reduceIte, Nat.reduceEqDiff, Nat.reduceAdd, Nat.reduceMul, Nat.reduceLT, Nat.reduceLeDiff, f10r0, f10r1, f10r2, f10r3, f10r4, f10r5, f10r6, f10r7, f10r8, f10r9, f10r10, f10r11, f10r12, f10r13, f10r14, f10r15, f10r16, f10r17, f10r18, f10r19, f10r20, f10r21, f10r22])
      refine ⟨fun h3 => ?_, fun h3 => ?_⟩
      · have hkl : k < ps.length := by have := of_decide_eq_true h3; omega
        obtain ⟨x, hx⟩ := get_ex hkl
        obtain ⟨q1, o1, rfl, _, hr1⟩ := (F1.ext e12).elem ePai_len hx
        obtain ⟨q2, o2, rfl, _, hr2⟩ := (F2.ext e12).elem ePai_len hx
        have hq1 := hr1.lt (by rw [ePai_len]; omega)
        have hq2 := hr2.lt (by rw [ePai_len]; omega)
        (try simp (config := { maxSteps := 1000000 }) (disch := first | exact Nat.le_of_ble_eq_true rfl | omega) only [AXS, AXB, J.dst, reduceIte, Nat.reduceEqDiff, Nat.reduceAdd, Nat.reduceMul, Nat.reduceLT, Nat.reduceLeDiff]); rw [f10c28_eq]; (try simp (config := { maxSteps := 1000000 }) (disch := first | exact Nat.le_of_ble_eq_true rfl | omega) only [AXS, AXB, J.dst, reduceIte, Nat.reduceEqDiff, Nat.reduceAdd, Nat.reduceMul, Nat.reduceLT, Nat.reduceLeDiff, f10r0, f10r1, f10r2, f10r3, f10r4, f10r5, f10r6, f10r7, f10r8, f10r9, f10r10, f10r11, f10r12, f10r13, f10r14, f10r15, f10r16, f10r17, f10r18, f10r19, f10r20, f10r21, f10r22])
        rw [f10c29_eq]
        refine drw_lt ?_
        simp (config := { maxSteps := 1000000 }) (disch := first | exact Nat.le_of_ble_eq_true rfl | omega) only [AXS, AXB, J.dst, reduceIte, Nat.reduceEqDiff, Nat.reduceAdd, Nat.reduceMul, Nat.reduceLT, Nat.reduceLeDiff, f10r19, row_pai hr1, row_pai hr2, eqA_paiN]
        refine ⟨by omega, by omega, by omega, by omega, by omega, by omega, ?_⟩
        rw [f10c30_eq]
        simp (config := { maxSteps := 1000000 }) (disch := first | exact Nat.le_of_ble_eq_true rfl | omega) only [AXS, AXB, J.dst, reduceIte, Nat.reduceEqDiff, Nat.reduceAdd, Nat.reduceMul, Nat.reduceLT, Nat.reduceLeDiff, decide_true, Bool.not_true]
        (try simp (config := { maxSteps := 1000000 }) (disch := first | exact Nat.le_of_ble_eq_true rfl | omega) only [AXS, AXB, J.dst, reduceIte, Nat.reduceEqDiff, Nat.reduceAdd, Nat.reduceMul, Nat.reduceLT, Nat.reduceLeDiff]); rw [f10c32_eq]; (try simp (config := { maxSteps := 1000000 }) (disch := first | exact Nat.le_of_ble_eq_true rfl | omega) only [AXS, AXB, J.dst, reduceIte, Nat.reduceEqDiff, Nat.reduceAdd, Nat.reduceMul, Nat.reduceLT, Nat.reduceLeDiff, f10r0, f10r1, f10r2, f10r3, f10r4, f10r5, f10r6, f10r7, f10r8, f10r9, f10r10, f10r11, f10r12, f10r13, f10r14, f10r15, f10r16, f10r17, f10r18, f10r19, f10r20, f10r21, f10r22])
        rw [i64_wrap (by omega) (by omega)]
        exact hnx2 (n - 1) _ _ (by omega) ⟨e12, k + 1, by omega, rfl⟩
      · refine hex2 _ _ ?_
        replace B1 := B1.ext e12; replace D := D.ext e12
        (try simp (config := { maxSteps := 1000000 }) (disch := first | exact Nat.le_of_ble_eq_true rfl | omega) only [AXS, AXB, J.dst, reduceIte, Nat.reduceEqDiff, Nat.reduceAdd, Nat.reduceMul, Nat.reduceLT, Nat.reduceLeDiff]); rw [f10c33_eq]; (try simp (config := { maxSteps := 1000000 }) (disch := first | exact Nat.le_of_ble_eq_true rfl | omega) only [AXS, AXB, J.dst, reduceIte, Nat.reduceEqDiff, Nat.reduceAdd, Nat.reduceMul, Nat.reduceLT, Nat.reduceLeDiff, f10r0, f10r1, f10r2, f10r3, f10r4, f10r5, f10r6, f10r7, f10r8, f10r9, f10r10, f10r11, f10r12, f10r13, f10r14, f10r15, f10r16, f10r17, f10r18, f10r19, f10r20, f10r21, f10r22, B1.rd, eStamp])
        refine trimG g6 (by omega) D below ?_
        rw [trim_again g.good below]
        intro a13 c13 h13 g13 O13 e13
        refine ⟨trivial, ?_⟩
        simp (config := { maxSteps := 1000000 }) (disch := first | exact Nat.le_of_ble_eq_true rfl | omega) only [AXS, AXB, J.dst, reduceIte, Nat.reduceEqDiff, Nat.reduceAdd, Nat.reduceMul, Nat.reduceLT, Nat.reduceLeDiff]
        refine sameG g13 (by omega) O13.slc (D.ext e13) rfl ?_
        intro h14 e14
        refine ⟨trivial, ?_⟩
        simp (config := { maxSteps := 1000000 }) (disch := first | exact Nat.le_of_ble_eq_true rfl | omega) only [AXS, AXB, J.dst, reduceIte, Nat.reduceEqDiff, Nat.reduceAdd, Nat.reduceMul, Nat.reduceLT, Nat.reduceLeDiff]
        exact hR _ (e010.trans (e11.trans (e12.trans (e13.trans e14))))
    (try simp (config := { maxSteps := 1000000 }) (disch := first | exact Nat.le_of_ble_eq_true rfl | omega) only [AXS, AXB, J.dst, reduceIte, Nat.reduceEqDiff, Nat.reduceAdd, Nat.reduceMul, Nat.reduceLT, Nat.reduceLeDiff]); rw [f10c17_eq]; (try simp (config := { maxSteps := 1000000 }) (disch := first | exact Nat.le_of_ble_eq_true rfl | omega) only [AXS, AXB, J.dst, reduceIte, Nat.reduceEqDiff, Nat.reduceAdd, Nat.reduceMul, Nat.reduceLT, Nat.reduceLeDiff, f10r0, f10r1, f10r2, f10r3, f10r4, f10r5, f10r6, f10r7, f10r8, f10r9, f10r10, f10r11, f10r12, f10r13, f10r14, f10r15, f10r16, f10r17, f10r18, f10r19, f10r20, f10r21, f10r22])
    refine ⟨fun hc => ?_, fun hc => ?_⟩
    · (try simp (config := { maxSteps := 1000000 }) (disch := first | exact Nat.le_of_ble_eq_true rfl | omega) only [AXS, AXB, J.dst, reduceIte, Nat.reduceEqDiff, Nat.reduceAdd, Nat.reduceMul, Nat.reduceLT, Nat.reduceLeDiff]); rw [f10c18_eq]; (try simp (config := { maxSteps := 1000000 }) (disch := first | exact Nat.le_of_ble_eq_true rfl | omega) only [AXS, AXB, J.dst, reduceIte, Nat.reduceEqDiff, Nat.reduceAdd, Nat.reduceMul, Nat.reduceLT, Nat.reduceLeDiff, f10r0, f10r1, f10r2, f10r3, f10r4, f10r5, f10r6, f10r7, f10r8, f10r9, f10r10, f10r11, f10r12, f10r13, f10r14, f10r15, f10r16, f10r17, f10r18, f10r19, f10r20, f10r21, f10r22, B1.rd, eStamp])
      refine wL_stN rfl rfl rfl B2 (by exact Nat.le_refl _) (one_stamp below) ?_
      rintro h8 u8 (B8 : Blk _ _ _ (eStamp below))
      try simp (config := { maxSteps := 1000000 }) (disch := first | exact Nat.le_of_ble_eq_true rfl | omega) only [AXS, AXB, J.dst, reduceIte, Nat.reduceEqDiff, Nat.reduceAdd, Nat.reduceMul, Nat.reduceLT, Nat.reduceLeDiff]
      exact app h8 below (u8.ext e07 (by omega)) (Stamp.lt_irrefl _) (u8.blk B1 (by omega)) B8 (u8.blk B3 (by omega)) (SC.at_ fun b hb => u8.ne b hb) (D.at_ fun b hb => u8.ne b hb) _ rfl rfl rfl rfl rfl
    · exact app h7 t0 e07 hc B1 B2 B3 SC D _ rfl rfl rfl rfl rfl
end Go.Proofs.Ytefghfgmkndikaa
