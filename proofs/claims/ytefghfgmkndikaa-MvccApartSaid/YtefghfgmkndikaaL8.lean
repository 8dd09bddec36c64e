/-
  The law MvccApart: its walk.
-/
import Derived.Test.YtefghfgmkndikaaWM
import Derived.Test.YtefghfgmkndikaaGL8
set_option linter.unusedSimpArgs false
set_option linter.unusedVariables false
namespace Go.Proofs.Ytefghfgmkndikaa
open Go Go.AX

theorem apart_ok {B : Nat → Prop} {a : Option Addr} {c : Nat} (ops : List Op8) (w : Wri) (l : Lck) (yes : Bool) (key : ByteArray) (t : Stamp) (h : Heap) (S : SlF B h eOp8 a ops) (hn : ops.length ≤ maxLen) {R : Value → Heap → Prop}
    (hR : ∀ h', Ext h h' → R (.bool true) h') : CallsH Try.prog 8 [.slice a ops.length c, .agg (eWri w).toArray, .agg (eLck l).toArray, .bool yes, .string key, .agg (eStamp t).toArray] h R := by
  refine f8ok (by simp) ?_
  (try simp (config := { maxSteps := 1000000 }) (disch := first | exact Nat.le_of_ble_eq_true rfl | omega) only [AXS, AXB, J.dst, reduceIte, Nat.reduceEqDiff, Nat.reduceAdd, Nat.reduceMul, Nat.reduceLT, Nat.reduceLeDiff]); rw [f8c0_eq]; (try simp (config := { maxSteps := 1000000 }) (disch := first | exact Nat.le_of_ble_eq_true rfl | omega) only [AXS, AXB, J.dst, reduceIte, Nat.reduceEqDiff, Nat.reduceAdd, Nat.reduceMul, Nat.reduceLT, Nat.reduceLeDiff, f8r0, f8r1, f8r2, f8r3, f8r4, f8r5, f8r6, f8r7, f8r8, f8r9, f8r10, f8r11, f8r12, f8r13, f8r14, f8r15, f8r16, f8r17, f8r18])
  refine wL_boxN rfl ?_; rintro b1 h1 e1 s1 hb1 (B1 : Blk _ _ _ (eWri w))
  refine wL_boxN rfl ?_; rintro b2 h2 e2 s2 hb2 (B2 : Blk _ _ _ (eLck l))
  refine wL_boxN rfl ?_; rintro b3 h3 e3 s3 hb3 (B3 : Blk _ _ _ (eStamp t))
  replace B1 := B1.ext (e2.trans e3); replace B2 := B2.ext e3
  have e03 := e1.trans (e2.trans e3)
  (try simp (config := { maxSteps := 1000000 }) (disch := first | exact Nat.le_of_ble_eq_true rfl | omega) only [AXS, AXB, J.dst, reduceIte, Nat.reduceEqDiff, Nat.reduceAdd, Nat.reduceMul, Nat.reduceLT, Nat.reduceLeDiff]); rw [f8c1_eq]; (try simp (config := { maxSteps := 1000000 }) (disch := first | exact Nat.le_of_ble_eq_true rfl | omega) only [AXS, AXB, J.dst, reduceIte, Nat.reduceEqDiff, Nat.reduceAdd, Nat.reduceMul, Nat.reduceLT, Nat.reduceLeDiff, f8r0, f8r1, f8r2, f8r3, f8r4, f8r5, f8r6, f8r7, f8r8, f8r9, f8r10, f8r11, f8r12, f8r13, f8r14, f8r15, f8r16, f8r17, f8r18])
  refine begun_ok _ ?_
  intro h4 e4
  refine ⟨trivial, ?_⟩
  replace B1 := B1.ext e4; replace B2 := B2.ext e4; replace B3 := B3.ext e4
  have e04 := e03.trans e4
  have S4 := S.ext e04
  (try simp (config := { maxSteps := 1000000 }) (disch := first | exact Nat.le_of_ble_eq_true rfl | omega) only [AXS, AXB, J.dst, reduceIte, Nat.reduceEqDiff, Nat.reduceAdd, Nat.reduceMul, Nat.reduceLT, Nat.reduceLeDiff]); rw [f8c2_eq]; (try simp (config := { maxSteps := 1000000 }) (disch := first | exact Nat.le_of_ble_eq_true rfl | omega) only [AXS, AXB, J.dst, reduceIte, Nat.reduceEqDiff, Nat.reduceAdd, Nat.reduceMul, Nat.reduceLT, Nat.reduceLeDiff, f8r0, f8r1, f8r2, f8r3, f8r4, f8r5, f8r6, f8r7, f8r8, f8r9, f8r10, f8r11, f8r12, f8r13, f8r14, f8r15, f8r16, f8r17, f8r18])
  rw [f8c4_eq]
  simp (config := { maxSteps := 1000000 }) (disch := first | exact Nat.le_of_ble_eq_true rfl | omega) only [AXJ, AXS, AXB, J.dst, reduceIte, Nat.reduceEqDiff, Nat.reduceAdd, Nat.reduceMul, Nat.reduceLT, Nat.reduceLeDiff, f8r3]
  refine light_ok ops 40 _ S4 hn ?_
  refine ⟨trivial, ?_⟩
  simp (config := { maxSteps := 1000000 }) (disch := first | exact Nat.le_of_ble_eq_true rfl | omega) only [AXJ, AXS, AXB, J.dst, reduceIte, Nat.reduceEqDiff, Nat.reduceAdd, Nat.reduceMul, Nat.reduceLT, Nat.reduceLeDiff, f8r3, B1.cel, eWri]
  simp (config := { maxSteps := 1000000 }) (disch := first | exact Nat.le_of_ble_eq_true rfl | omega) only [AXJ, AXS, AXB, J.dst, reduceIte, Nat.reduceEqDiff, Nat.reduceAdd, Nat.reduceMul, Nat.reduceLT, Nat.reduceLeDiff, f8r3a, B1.cel, eWri]
  simp (config := { maxSteps := 1000000 }) (disch := first | exact Nat.le_of_ble_eq_true rfl | omega) only [AXJ, AXS, AXB, J.dst, reduceIte, Nat.reduceEqDiff, Nat.reduceAdd, Nat.reduceMul, Nat.reduceLT, Nat.reduceLeDiff, f8r3b, B1.cel, eWri, keq_iff]
  simp (config := { maxSteps := 1000000 }) (disch := first | exact Nat.le_of_ble_eq_true rfl | omega) only [AXJ, AXS, AXB, J.dst, reduceIte, Nat.reduceEqDiff, Nat.reduceAdd, Nat.reduceMul, Nat.reduceLT, Nat.reduceLeDiff, f8r3c]
  rw [f8c5_eq]
  simp (config := { maxSteps := 1000000 }) (disch := first | exact Nat.le_of_ble_eq_true rfl | omega) only [AXS, AXB, J.dst, reduceIte, Nat.reduceEqDiff, Nat.reduceAdd, Nat.reduceMul, Nat.reduceLT, Nat.reduceLeDiff]
  refine ⟨fun hh => ?_, fun hh => ?_⟩
  · (try simp (config := { maxSteps := 1000000 }) (disch := first | exact Nat.le_of_ble_eq_true rfl | omega) only [AXS, AXB, J.dst, reduceIte, Nat.reduceEqDiff, Nat.reduceAdd, Nat.reduceMul, Nat.reduceLT, Nat.reduceLeDiff]); rw [f8c6_eq]; (try simp (config := { maxSteps := 1000000 }) (disch := first | exact Nat.le_of_ble_eq_true rfl | omega) only [AXS, AXB, J.dst, reduceIte, Nat.reduceEqDiff, Nat.reduceAdd, Nat.reduceMul, Nat.reduceLT, Nat.reduceLeDiff, f8r0, f8r1, f8r2, f8r3, f8r4, f8r5, f8r6, f8r7, f8r8, f8r9, f8r10, f8r11, f8r12, f8r13, f8r14, f8r15, f8r16, f8r17, f8r18])
    exact hR _ e04
  simp only [Bool.or_eq_false_iff, Bool.not_eq_false', decide_eq_false_iff_not] at hh
  have hlen := lightL_len hh.1.1.1.1
  have hkey : key ≠ w.key := hh.1.2
  (try simp (config := { maxSteps := 1000000 }) (disch := first | exact Nat.le_of_ble_eq_true rfl | omega) only [AXS, AXB, J.dst, reduceIte, Nat.reduceEqDiff, Nat.reduceAdd, Nat.reduceMul, Nat.reduceLT, Nat.reduceLeDiff]); rw [f8c7_eq]; (try simp (config := { maxSteps := 1000000 }) (disch := first | exact Nat.le_of_ble_eq_true rfl | omega) only [AXS, AXB, J.dst, reduceIte, Nat.reduceEqDiff, Nat.reduceAdd, Nat.reduceMul, Nat.reduceLT, Nat.reduceLeDiff, f8r0, f8r1, f8r2, f8r3, f8r4, f8r5, f8r6, f8r7, f8r8, f8r9, f8r10, f8r11, f8r12, f8r13, f8r14, f8r15, f8r16, f8r17, f8r18]); rw [f8c8_eq]; (try simp (config := { maxSteps := 1000000 }) (disch := first | exact Nat.le_of_ble_eq_true rfl | omega) only [AXS, AXB, J.dst, reduceIte, Nat.reduceEqDiff, Nat.reduceAdd, Nat.reduceMul, Nat.reduceLT, Nat.reduceLeDiff, f8r0, f8r1, f8r2, f8r3, f8r4, f8r5, f8r6, f8r7, f8r8, f8r9, f8r10, f8r11, f8r12, f8r13, f8r14, f8r15, f8r16, f8r17, f8r18])
  rw [f8c9_eq]
  refine loop_in (fun n σ h' => Ext h4 h' ∧ ∃ (k c1 : Nat) (a1 : Option Addr), k + n = ops.length ∧ SlC (fun _ => True) h' a1 (runL (ops.take k)) ∧
      σ = [(0, .slice a ops.length c), (3, .bool yes), (4, .string key), (7, ptr b1 0), (8, ptr b2 0), (11, ptr b3 0), (13, .slice a1 (runL (ops.take k)).length c1), (14, vi k)]) ops.length ⟨Ext.refl _, 0, 0, none, by omega, SlC.nil, rfl⟩ ?_
  rintro n σ h5 ⟨e5, k, c1, a1, hk, SC, rfl⟩ Q' hnx hex hrt _
  have g := (gdRun (ops.take k)).mono (show _ ≤ 40 by rw [List.length_take]; omega)
  (try simp (config := { maxSteps := 1000000 }) (disch := first | exact Nat.le_of_ble_eq_true rfl | omega) only [AXS, AXB, J.dst, reduceIte, Nat.reduceEqDiff, Nat.reduceAdd, Nat.reduceMul, Nat.reduceLT, Nat.reduceLeDiff]); rw [f8c10_eq]; (try simp (config := { maxSteps := 1000000 }) (disch := first | exact Nat.le_of_ble_eq_true rfl | omega) only [AXS, AXB, J.dst, reduceIte, Nat.reduceEqDiff, Nat.reduceAdd, Nat.reduceMul, Nat.reduceLT, Nat.reduceLeDiff, f8r0, f8r1, f8r2, f8r3, f8r4, f8r5, f8r6, f8r7, f8r8, f8r9, f8r10, f8r11, f8r12, f8r13, f8r14, f8r15, f8r16, f8r17, f8r18]); rw [f8c11_eq]; (try simp (config := { maxSteps := 1000000 }) (disch := first | exact Nat.le_of_ble_eq_true rfl | omega) only [AXS, AXB, J.dst, reduceIte, Nat.reduceEqDiff, Nat.reduceAdd, Nat.reduceMul, Nat.reduceLT, Nat.reduceLeDiff, f8r0, f8r1, f8r2, f8r3, f8r4, f8r5, f8r6, f8r7, f8r8, f8r9, f8r10, f8r11, f8r12, f8r13, f8r14, f8r15, f8r16, f8r17, f8r18])
  refine ⟨fun h2 => ?_, fun h2 => ?_⟩
  · have hkl : k < ops.length := by have := of_decide_eq_true h2; omega
    obtain ⟨o, ho⟩ := get_ex hkl
    obtain ⟨b, q, rfl, _, hrow⟩ := (S4.ext e5).elem eOp8_len ho
    (try simp (config := { maxSteps := 1000000 }) (disch := first | exact Nat.le_of_ble_eq_true rfl | omega) only [AXS, AXB, J.dst, reduceIte, Nat.reduceEqDiff, Nat.reduceAdd, Nat.reduceMul, Nat.reduceLT, Nat.reduceLeDiff]); rw [f8c12_eq]; (try simp (config := { maxSteps := 1000000 }) (disch := first | exact Nat.le_of_ble_eq_true rfl | omega) only [AXS, AXB, J.dst, reduceIte, Nat.reduceEqDiff, Nat.reduceAdd, Nat.reduceMul, Nat.reduceLT, Nat.reduceLeDiff, f8r0, f8r1, f8r2, f8r3, f8r4, f8r5, f8r6, f8r7, f8r8, f8r9, f8r10, f8r11, f8r12, f8r13, f8r14, f8r15, f8r16, f8r17, f8r18, row_op8 hrow]); rw [f8c13_eq]; (try simp (config := { maxSteps := 1000000 }) (disch := first | exact Nat.le_of_ble_eq_true rfl | omega) only [AXS, AXB, J.dst, reduceIte, Nat.reduceEqDiff, Nat.reduceAdd, Nat.reduceMul, Nat.reduceLT, Nat.reduceLeDiff, f8r0, f8r1, f8r2, f8r3, f8r4, f8r5, f8r6, f8r7, f8r8, f8r9, f8r10, f8r11, f8r12, f8r13, f8r14, f8r15, f8r16, f8r17, f8r18, row_op8 hrow])
    refine ⟨by omega, by omega, ?_⟩
    refine doG g (by omega) SC o ?_
    intro ax cx ay ny cy h6 _ O6 _ e6
    refine ⟨trivial, ?_⟩
    (try simp (config := { maxSteps := 1000000 }) (disch := first | exact Nat.le_of_ble_eq_true rfl | omega) only [AXS, AXB, J.dst, reduceIte, Nat.reduceEqDiff, Nat.reduceAdd, Nat.reduceMul, Nat.reduceLT, Nat.reduceLeDiff]); rw [f8c14_eq]; (try simp (config := { maxSteps := 1000000 }) (disch := first | exact Nat.le_of_ble_eq_true rfl | omega) only [AXS, AXB, J.dst, reduceIte, Nat.reduceEqDiff, Nat.reduceAdd, Nat.reduceMul, Nat.reduceLT, Nat.reduceLeDiff, f8r0, f8r1, f8r2, f8r3, f8r4, f8r5, f8r6, f8r7, f8r8, f8r9, f8r10, f8r11, f8r12, f8r13, f8r14, f8r15, f8r16, f8r17, f8r18])
    rw [i64_wrap (by omega) (by omega)]
    have hrun := runL_take ho
    refine hnx (n - 1) _ _ (by omega) ⟨e5.trans e6, k + 1, cx, ax, by omega, ?_, ?_⟩
    · rw [hrun]; exact O6.slc.imp fun _ _ => trivial
    · rw [hrun]; rfl
  · have hkl : k = ops.length := by have := of_decide_eq_false h2; omega
    refine hex _ _ ?_
    subst hkl
    rw [List.take_length] at *
    replace B1 := B1.ext e5; replace B2 := B2.ext e5; replace B3 := B3.ext e5
    have e05 := e04.trans e5
    generalize runL ops = cs at *
    (try simp (config := { maxSteps := 1000000 }) (disch := first | exact Nat.le_of_ble_eq_true rfl | omega) only [AXS, AXB, J.dst, reduceIte, Nat.reduceEqDiff, Nat.reduceAdd, Nat.reduceMul, Nat.reduceLT, Nat.reduceLeDiff]); rw [f8c15_eq]; (try simp (config := { maxSteps := 1000000 }) (disch := first | exact Nat.le_of_ble_eq_true rfl | omega) only [AXS, AXB, J.dst, reduceIte, Nat.reduceEqDiff, Nat.reduceAdd, Nat.reduceMul, Nat.reduceLT, Nat.reduceLeDiff, f8r0, f8r1, f8r2, f8r3, f8r4, f8r5, f8r6, f8r7, f8r8, f8r9, f8r10, f8r11, f8r12, f8r13, f8r14, f8r15, f8r16, f8r17, f8r18, B2.rd, eLck])
    refine mineG g (by omega) SC l.by_ ?_
    intro h6 e6
    refine ⟨trivial, ?_⟩
    replace B1 := B1.ext e6; replace B2 := B2.ext e6; replace B3 := B3.ext e6; replace SC := SC.ext e6
    (try simp (config := { maxSteps := 1000000 }) (disch := first | exact Nat.le_of_ble_eq_true rfl | omega) only [AXS, AXB, J.dst, reduceIte, Nat.reduceEqDiff, Nat.reduceAdd, Nat.reduceMul, Nat.reduceLT, Nat.reduceLeDiff]); rw [f8c16_eq]; (try simp (config := { maxSteps := 1000000 }) (disch := first | exact Nat.le_of_ble_eq_true rfl | omega) only [AXS, AXB, J.dst, reduceIte, Nat.reduceEqDiff, Nat.reduceAdd, Nat.reduceMul, Nat.reduceLT, Nat.reduceLeDiff, f8r0, f8r1, f8r2, f8r3, f8r4, f8r5, f8r6, f8r7, f8r8, f8r9, f8r10, f8r11, f8r12, f8r13, f8r14, f8r15, f8r16, f8r17, f8r18])
    refine ⟨fun hm => ?_, fun hm => ?_⟩
    · (try simp (config := { maxSteps := 1000000 }) (disch := first | exact Nat.le_of_ble_eq_true rfl | omega) only [AXS, AXB, J.dst, reduceIte, Nat.reduceEqDiff, Nat.reduceAdd, Nat.reduceMul, Nat.reduceLT, Nat.reduceLeDiff]); rw [f8c17_eq]; (try simp (config := { maxSteps := 1000000 }) (disch := first | exact Nat.le_of_ble_eq_true rfl | omega) only [AXS, AXB, J.dst, reduceIte, Nat.reduceEqDiff, Nat.reduceAdd, Nat.reduceMul, Nat.reduceLT, Nat.reduceLeDiff, f8r0, f8r1, f8r2, f8r3, f8r4, f8r5, f8r6, f8r7, f8r8, f8r9, f8r10, f8r11, f8r12, f8r13, f8r14, f8r15, f8r16, f8r17, f8r18])
      exact hR _ (e05.trans e6)
    (try simp (config := { maxSteps := 1000000 }) (disch := first | exact Nat.le_of_ble_eq_true rfl | omega) only [AXS, AXB, J.dst, reduceIte, Nat.reduceEqDiff, Nat.reduceAdd, Nat.reduceMul, Nat.reduceLT, Nat.reduceLeDiff]); rw [f8c18_eq]; (try simp (config := { maxSteps := 1000000 }) (disch := first | exact Nat.le_of_ble_eq_true rfl | omega) only [AXS, AXB, J.dst, reduceIte, Nat.reduceEqDiff, Nat.reduceAdd, Nat.reduceMul, Nat.reduceLT, Nat.reduceLeDiff, f8r0, f8r1, f8r2, f8r3, f8r4, f8r5, f8r6, f8r7, f8r8, f8r9, f8r10, f8r11, f8r12, f8r13, f8r14, f8r15, f8r16, f8r17, f8r18, B1.rd, B2.rd, eWri, eLck])
    refine lockG g (by omega) SC w l ?_
    intro a7 c7 h7 g7 O7 e7
    refine ⟨trivial, ?_⟩
    have D := O7.slc
    replace B1 := B1.ext e7; replace B2 := B2.ext e7; replace B3 := B3.ext e7; replace SC := SC.ext e7
    (try simp (config := { maxSteps := 1000000 }) (disch := first | exact Nat.le_of_ble_eq_true rfl | omega) only [AXS, AXB, J.dst, reduceIte, Nat.reduceEqDiff, Nat.reduceAdd, Nat.reduceMul, Nat.reduceLT, Nat.reduceLeDiff]); rw [f8c19_eq]; (try simp (config := { maxSteps := 1000000 }) (disch := first | exact Nat.le_of_ble_eq_true rfl | omega) only [AXS, AXB, J.dst, reduceIte, Nat.reduceEqDiff, Nat.reduceAdd, Nat.reduceMul, Nat.reduceLT, Nat.reduceLeDiff, f8r0, f8r1, f8r2, f8r3, f8r4, f8r5, f8r6, f8r7, f8r8, f8r9, f8r10, f8r11, f8r12, f8r13, f8r14, f8r15, f8r16, f8r17, f8r18, B2.rd, eLck])
    refine settleG g7 (by omega) D l.by_ yes ?_
    intro a8 c8 h8 g8 O8 e8
    refine ⟨trivial, ?_⟩
    have E8 := O8.slc
    replace B1 := B1.ext e8; replace B2 := B2.ext e8; replace B3 := B3.ext e8; replace SC := SC.ext e8; replace D := D.ext e8
    (try simp (config := { maxSteps := 1000000 }) (disch := first | exact Nat.le_of_ble_eq_true rfl | omega) only [AXS, AXB, J.dst, reduceIte, Nat.reduceEqDiff, Nat.reduceAdd, Nat.reduceMul, Nat.reduceLT, Nat.reduceLeDiff]); rw [f8c20_eq]; (try simp (config := { maxSteps := 1000000 }) (disch := first | exact Nat.le_of_ble_eq_true rfl | omega) only [AXS, AXB, J.dst, reduceIte, Nat.reduceEqDiff, Nat.reduceAdd, Nat.reduceMul, Nat.reduceLT, Nat.reduceLeDiff, f8r0, f8r1, f8r2, f8r3, f8r4, f8r5, f8r6, f8r7, f8r8, f8r9, f8r10, f8r11, f8r12, f8r13, f8r14, f8r15, f8r16, f8r17, f8r18, B3.rd, eStamp])
    refine getG g (by omega) SC key t ?_
    intro h9 e9
    refine ⟨trivial, ?_⟩
    replace B3 := B3.ext e9; replace SC := SC.ext e9; replace D := D.ext e9; replace E8 := E8.ext e9
    (try simp (config := { maxSteps := 1000000 }) (disch := first | exact Nat.le_of_ble_eq_true rfl | omega) only [AXS, AXB, J.dst, reduceIte, Nat.reduceEqDiff, Nat.reduceAdd, Nat.reduceMul, Nat.reduceLT, Nat.reduceLeDiff]); rw [f8c21_eq]; (try simp (config := { maxSteps := 1000000 }) (disch := first | exact Nat.le_of_ble_eq_true rfl | omega) only [AXS, AXB, J.dst, reduceIte, Nat.reduceEqDiff, Nat.reduceAdd, Nat.reduceMul, Nat.reduceLT, Nat.reduceLeDiff, f8r0, f8r1, f8r2, f8r3, f8r4, f8r5, f8r6, f8r7, f8r8, f8r9, f8r10, f8r11, f8r12, f8r13, f8r14, f8r15, f8r16, f8r17, f8r18, B3.rd, eStamp])
    refine getG g8 (by omega) E8 key t ?_
    rw [apart_get g.good w l yes key t hm hkey]
    intro h10 e10
    refine ⟨trivial, ?_⟩
    replace SC := SC.ext e10; replace D := D.ext e10
    (try simp (config := { maxSteps := 1000000 }) (disch := first | exact Nat.le_of_ble_eq_true rfl | omega) only [AXS, AXB, J.dst, reduceIte, Nat.reduceEqDiff, Nat.reduceAdd, Nat.reduceMul, Nat.reduceLT, Nat.reduceLeDiff]); rw [f8c22_eq]; (try simp (config := { maxSteps := 1000000 }) (disch := first | exact Nat.le_of_ble_eq_true rfl | omega) only [AXS, AXB, J.dst, reduceIte, Nat.reduceEqDiff, Nat.reduceAdd, Nat.reduceMul, Nat.reduceLT, Nat.reduceLeDiff, f8r0, f8r1, f8r2, f8r3, f8r4, f8r5, f8r6, f8r7, f8r8, f8r9, f8r10, f8r11, f8r12, f8r13, f8r14, f8r15, f8r16, f8r17, f8r18])
    refine heldG g (by omega) SC key ?_
    intro h11 e11
    refine ⟨trivial, ?_⟩
    replace D := D.ext e11
    simp (config := { maxSteps := 1000000 }) (disch := first | exact Nat.le_of_ble_eq_true rfl | omega) only [AXS, AXB, J.dst, reduceIte, Nat.reduceEqDiff, Nat.reduceAdd, Nat.reduceMul, Nat.reduceLT, Nat.reduceLeDiff]
    refine wL_newN ?_; rintro b12 h12 e12 s12 hb12 B12
    try simp (config := { maxSteps := 1000000 }) (disch := first | exact Nat.le_of_ble_eq_true rfl | omega) only [AXS, AXB, J.dst, reduceIte, Nat.reduceEqDiff, Nat.reduceAdd, Nat.reduceMul, Nat.reduceLT, Nat.reduceLeDiff]
    refine wL_stN rfl rfl rfl B12 (by decide) (one_lck _) ?_; rintro h13 u13 (B13 : Blk _ _ _ (eLck (heldK cs key).1))
    have e13 := u13.ext e12 (by omega)
    replace D := D.ext e13
    (try simp (config := { maxSteps := 1000000 }) (disch := first | exact Nat.le_of_ble_eq_true rfl | omega) only [AXS, AXB, J.dst, reduceIte, Nat.reduceEqDiff, Nat.reduceAdd, Nat.reduceMul, Nat.reduceLT, Nat.reduceLeDiff]); rw [f8c23_eq]; (try simp (config := { maxSteps := 1000000 }) (disch := first | exact Nat.le_of_ble_eq_true rfl | omega) only [AXS, AXB, J.dst, reduceIte, Nat.reduceEqDiff, Nat.reduceAdd, Nat.reduceMul, Nat.reduceLT, Nat.reduceLeDiff, f8r0, f8r1, f8r2, f8r3, f8r4, f8r5, f8r6, f8r7, f8r8, f8r9, f8r10, f8r11, f8r12, f8r13, f8r14, f8r15, f8r16, f8r17, f8r18])
    refine heldG g7 (by omega) D key ?_
    rw [apart_held g.good w l key hkey]
    intro h14 e14
    refine ⟨trivial, ?_⟩
    replace B13 := B13.ext e14
    simp (config := { maxSteps := 1000000 }) (disch := first | exact Nat.le_of_ble_eq_true rfl | omega) only [AXS, AXB, J.dst, reduceIte, Nat.reduceEqDiff, Nat.reduceAdd, Nat.reduceMul, Nat.reduceLT, Nat.reduceLeDiff]
    refine wL_newN ?_; rintro b15 h15 e15 s15 hb15 B15
    try simp (config := { maxSteps := 1000000 }) (disch := first | exact Nat.le_of_ble_eq_true rfl | omega) only [AXS, AXB, J.dst, reduceIte, Nat.reduceEqDiff, Nat.reduceAdd, Nat.reduceMul, Nat.reduceLT, Nat.reduceLeDiff]
    refine wL_stN rfl rfl rfl B15 (by decide) (one_lck _) ?_; rintro h16 u16 (B16 : Blk _ _ _ (eLck (heldK cs key).1))
    have e16 := u16.ext e15 (by omega)
    replace B13 := B13.ext e16
    try simp (config := { maxSteps := 1000000 }) (disch := first | exact Nat.le_of_ble_eq_true rfl | omega) only [AXS, AXB, J.dst, reduceIte, Nat.reduceEqDiff, Nat.reduceAdd, Nat.reduceMul, Nat.reduceLT, Nat.reduceLeDiff]
    rw [f8c24_eq]
    simp (config := { maxSteps := 1000000 }) (disch := first | exact Nat.le_of_ble_eq_true rfl | omega) only [AXJ, AXS, AXB, J.dst, reduceIte, Nat.reduceEqDiff, Nat.reduceAdd, Nat.reduceMul, Nat.reduceLT, Nat.reduceLeDiff, f8r18, Bool.false_eq_true]
    have eq2 : ∀ l : Lck, eqA false [.i .i64, .i .i64, .i .i64, .i .i64, .i .i64, .i .i64, .i .i64, .b, .s] (.agg (eLck l).toArray) (.agg (eLck l).toArray) = some (.bool true) := fun l => by rw [eqA_lck]; simp
    simp (config := { maxSteps := 1000000 }) (disch := first | exact Nat.le_of_ble_eq_true rfl | omega) only [AXJ, AXS, AXB, J.dst, reduceIte, Nat.reduceEqDiff, Nat.reduceAdd, Nat.reduceMul, Nat.reduceLT, Nat.reduceLeDiff, f8r18a, B13.rd, B16.rd, take9, eLck_len, eq2]
    simp (config := { maxSteps := 1000000 }) (disch := first | exact Nat.le_of_ble_eq_true rfl | omega) only [AXJ, AXS, AXB, J.dst, reduceIte, Nat.reduceEqDiff, Nat.reduceAdd, Nat.reduceMul, Nat.reduceLT, Nat.reduceLeDiff, f8r18b, Bool.false_eq_true]
    simp (config := { maxSteps := 1000000 }) (disch := first | exact Nat.le_of_ble_eq_true rfl | omega) only [AXJ, AXS, AXB, J.dst, reduceIte, Nat.reduceEqDiff, Nat.reduceAdd, Nat.reduceMul, Nat.reduceLT, Nat.reduceLeDiff, f8r18c]
    exact hR _ (e05.trans (e6.trans (e7.trans (e8.trans (e9.trans (e10.trans (e11.trans (e13.trans (e14.trans e16)))))))))
end Go.Proofs.Ytefghfgmkndikaa
