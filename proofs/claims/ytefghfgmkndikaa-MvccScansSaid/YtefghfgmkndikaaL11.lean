/-
  The law MvccScans: its walk.
-/
import Derived.Test.YtefghfgmkndikaaPS
import Derived.Test.YtefghfgmkndikaaGL11
set_option linter.unusedSimpArgs false
set_option linter.unusedVariables false
namespace Go.Proofs.Ytefghfgmkndikaa
open Go Go.AX

theorem scans_ok {B : Nat → Prop} {a : Option Addr} {c : Nat} (ops : List Op8) (s : Spn) (t : Stamp) (h : Heap) (S : SlF B h eOp8 a ops) (hn : ops.length ≤ maxLen) {R : Value → Heap → Prop}
    (hR : ∀ h', Ext h h' → R (.bool true) h') : CallsH Try.prog 11 [.slice a ops.length c, .agg (eSpn s).toArray, .agg (eStamp t).toArray] h R := by
  refine f11ok (by simp) ?_
  (try simp (config := { maxSteps := 1000000 }) (disch := first | exact Nat.le_of_ble_eq_true rfl | omega) only [AXS, AXB, J.dst, reduceIte, Nat.reduceEqDiff, Nat.reduceAdd, Nat.reduceMul, Nat.reduceLT, Nat.reduceLeDiff]); rw [f11c0_eq]; (try simp (config := { maxSteps := 1000000 }) (disch := first | exact Nat.le_of_ble_eq_true rfl | omega) only [AXS, AXB, J.dst, reduceIte, Nat.reduceEqDiff, Nat.reduceAdd, Nat.reduceMul, Nat.reduceLT, Nat.reduceLeDiff, f11r0, f11r1, f11r2, f11r3, f11r4, f11r5, f11r6, f11r7, f11r8, f11r9, f11r10, f11r11, f11r12, f11r13, f11r14, f11r15, f11r16, f11r17, f11r18, f11r19, f11r20, f11r21, f11r22, f11r23])
  refine wL_boxN rfl ?_; rintro b1 h1 e1 s1 hb1 (B1 : Blk _ _ _ (eSpn s))
  refine wL_boxN rfl ?_; rintro b2 h2 e2 s2 hb2 (B2 : Blk _ _ _ (eStamp t))
  replace B1 := B1.ext e2
  have e02 := e1.trans e2
  (try simp (config := { maxSteps := 1000000 }) (disch := first | exact Nat.le_of_ble_eq_true rfl | omega) only [AXS, AXB, J.dst, reduceIte, Nat.reduceEqDiff, Nat.reduceAdd, Nat.reduceMul, Nat.reduceLT, Nat.reduceLeDiff]); rw [f11c1_eq]; (try simp (config := { maxSteps := 1000000 }) (disch := first | exact Nat.le_of_ble_eq_true rfl | omega) only [AXS, AXB, J.dst, reduceIte, Nat.reduceEqDiff, Nat.reduceAdd, Nat.reduceMul, Nat.reduceLT, Nat.reduceLeDiff, f11r0, f11r1, f11r2, f11r3, f11r4, f11r5, f11r6, f11r7, f11r8, f11r9, f11r10, f11r11, f11r12, f11r13, f11r14, f11r15, f11r16, f11r17, f11r18, f11r19, f11r20, f11r21, f11r22, f11r23])
  refine begun_ok _ ?_
  intro h4 e4
  refine ⟨trivial, ?_⟩
  replace B1 := B1.ext e4; replace B2 := B2.ext e4
  have e04 := e02.trans e4
  have S4 := S.ext e04
  (try simp (config := { maxSteps := 1000000 }) (disch := first | exact Nat.le_of_ble_eq_true rfl | omega) only [AXS, AXB, J.dst, reduceIte, Nat.reduceEqDiff, Nat.reduceAdd, Nat.reduceMul, Nat.reduceLT, Nat.reduceLeDiff]); rw [f11c2_eq]; (try simp (config := { maxSteps := 1000000 }) (disch := first | exact Nat.le_of_ble_eq_true rfl | omega) only [AXS, AXB, J.dst, reduceIte, Nat.reduceEqDiff, Nat.reduceAdd, Nat.reduceMul, Nat.reduceLT, Nat.reduceLeDiff, f11r0, f11r1, f11r2, f11r3, f11r4, f11r5, f11r6, f11r7, f11r8, f11r9, f11r10, f11r11, f11r12, f11r13, f11r14, f11r15, f11r16, f11r17, f11r18, f11r19, f11r20, f11r21, f11r22, f11r23])
  rw [f11c4_eq]
  simp (config := { maxSteps := 1000000 }) (disch := first | exact Nat.le_of_ble_eq_true rfl | omega) only [AXJ, AXS, AXB, J.dst, reduceIte, Nat.reduceEqDiff, Nat.reduceAdd, Nat.reduceMul, Nat.reduceLT, Nat.reduceLeDiff, f11r3]
  refine light_ok ops 60 _ S4 hn ?_
  refine ⟨trivial, ?_⟩
  simp (config := { maxSteps := 1000000 }) (disch := first | exact Nat.le_of_ble_eq_true rfl | omega) only [AXJ, AXS, AXB, J.dst, reduceIte, Nat.reduceEqDiff, Nat.reduceAdd, Nat.reduceMul, Nat.reduceLT, Nat.reduceLeDiff, f11r3, B1.cel, eSpn]
  simp (config := { maxSteps := 1000000 }) (disch := first | exact Nat.le_of_ble_eq_true rfl | omega) only [AXJ, AXS, AXB, J.dst, reduceIte, Nat.reduceEqDiff, Nat.reduceAdd, Nat.reduceMul, Nat.reduceLT, Nat.reduceLeDiff, f11r3a, B1.cel, eSpn]
  rw [f11c5_eq]
  simp (config := { maxSteps := 1000000 }) (disch := first | exact Nat.le_of_ble_eq_true rfl | omega) only [AXS, AXB, J.dst, reduceIte, Nat.reduceEqDiff, Nat.reduceAdd, Nat.reduceMul, Nat.reduceLT, Nat.reduceLeDiff]
  refine ⟨fun hh => ?_, fun hh => ?_⟩
  · (try simp (config := { maxSteps := 1000000 }) (disch := first | exact Nat.le_of_ble_eq_true rfl | omega) only [AXS, AXB, J.dst, reduceIte, Nat.reduceEqDiff, Nat.reduceAdd, Nat.reduceMul, Nat.reduceLT, Nat.reduceLeDiff]); rw [f11c6_eq]; (try simp (config := { maxSteps := 1000000 }) (disch := first | exact Nat.le_of_ble_eq_true rfl | omega) only [AXS, AXB, J.dst, reduceIte, Nat.reduceEqDiff, Nat.reduceAdd, Nat.reduceMul, Nat.reduceLT, Nat.reduceLeDiff, f11r0, f11r1, f11r2, f11r3, f11r4, f11r5, f11r6, f11r7, f11r8, f11r9, f11r10, f11r11, f11r12, f11r13, f11r14, f11r15, f11r16, f11r17, f11r18, f11r19, f11r20, f11r21, f11r22, f11r23])
    exact hR _ e04
  simp only [Bool.or_eq_false_iff, Bool.not_eq_false', decide_eq_false_iff_not] at hh
  have hlen := lightL_len hh.1.1
  (try simp (config := { maxSteps := 1000000 }) (disch := first | exact Nat.le_of_ble_eq_true rfl | omega) only [AXS, AXB, J.dst, reduceIte, Nat.reduceEqDiff, Nat.reduceAdd, Nat.reduceMul, Nat.reduceLT, Nat.reduceLeDiff]); rw [f11c7_eq]; (try simp (config := { maxSteps := 1000000 }) (disch := first | exact Nat.le_of_ble_eq_true rfl | omega) only [AXS, AXB, J.dst, reduceIte, Nat.reduceEqDiff, Nat.reduceAdd, Nat.reduceMul, Nat.reduceLT, Nat.reduceLeDiff, f11r0, f11r1, f11r2, f11r3, f11r4, f11r5, f11r6, f11r7, f11r8, f11r9, f11r10, f11r11, f11r12, f11r13, f11r14, f11r15, f11r16, f11r17, f11r18, f11r19, f11r20, f11r21, f11r22, f11r23]); rw [f11c8_eq]; (try simp (config := { maxSteps := 1000000 }) (disch := first | exact Nat.le_of_ble_eq_true rfl | omega) only [AXS, AXB, J.dst, reduceIte, Nat.reduceEqDiff, Nat.reduceAdd, Nat.reduceMul, Nat.reduceLT, Nat.reduceLeDiff, f11r0, f11r1, f11r2, f11r3, f11r4, f11r5, f11r6, f11r7, f11r8, f11r9, f11r10, f11r11, f11r12, f11r13, f11r14, f11r15, f11r16, f11r17, f11r18, f11r19, f11r20, f11r21, f11r22, f11r23])
  rw [f11c9_eq]
  refine loop_in (fun n σ h' => Ext h4 h' ∧ ∃ (k c1 : Nat) (a1 : Option Addr), k + n = ops.length ∧ SlC (fun b => True) h' a1 (runL (ops.take k)) ∧ (runL (ops.take k)).length ≤ c1 ∧
      σ = [(0, .slice a ops.length c), (4, ptr b1 0), (5, ptr b2 0), (7, .slice a1 (runL (ops.take k)).length c1), (8, vi k)]) ops.length ⟨Ext.refl _, 0, 0, none, by omega, SlC.nil, by exact Nat.le_refl _, rfl⟩ ?_
  rintro n σ h5 ⟨e5, k, c1, a1, hk, SC, hcap, rfl⟩ Q' hnx hex hrt _
  have g := (gdRun (ops.take k)).mono (show _ ≤ 60 by rw [List.length_take]; omega)
  (try simp (config := { maxSteps := 1000000 }) (disch := first | exact Nat.le_of_ble_eq_true rfl | omega) only [AXS, AXB, J.dst, reduceIte, Nat.reduceEqDiff, Nat.reduceAdd, Nat.reduceMul, Nat.reduceLT, Nat.reduceLeDiff]); rw [f11c10_eq]; (try simp (config := { maxSteps := 1000000 }) (disch := first | exact Nat.le_of_ble_eq_true rfl | omega) only [AXS, AXB, J.dst, reduceIte, Nat.reduceEqDiff, Nat.reduceAdd, Nat.reduceMul, Nat.reduceLT, Nat.reduceLeDiff, f11r0, f11r1, f11r2, f11r3, f11r4, f11r5, f11r6, f11r7, f11r8, f11r9, f11r10, f11r11, f11r12, f11r13, f11r14, f11r15, f11r16, f11r17, f11r18, f11r19, f11r20, f11r21, f11r22, f11r23]); rw [f11c11_eq]; (try simp (config := { maxSteps := 1000000 }) (disch := first | exact Nat.le_of_ble_eq_true rfl | omega) only [AXS, AXB, J.dst, reduceIte, Nat.reduceEqDiff, Nat.reduceAdd, Nat.reduceMul, Nat.reduceLT, Nat.reduceLeDiff, f11r0, f11r1, f11r2, f11r3, f11r4, f11r5, f11r6, f11r7, f11r8, f11r9, f11r10, f11r11, f11r12, f11r13, f11r14, f11r15, f11r16, f11r17, f11r18, f11r19, f11r20, f11r21, f11r22, f11r23])
  refine ⟨fun h2 => ?_, fun h2 => ?_⟩
  · have hkl : k < ops.length := by have := of_decide_eq_true h2; omega
    obtain ⟨o, ho⟩ := get_ex hkl
    obtain ⟨b, q, rfl, _, hrow⟩ := (S4.ext e5).elem eOp8_len ho
    (try simp (config := { maxSteps := 1000000 }) (disch := first | exact Nat.le_of_ble_eq_true rfl | omega) only [AXS, AXB, J.dst, reduceIte, Nat.reduceEqDiff, Nat.reduceAdd, Nat.reduceMul, Nat.reduceLT, Nat.reduceLeDiff]); rw [f11c12_eq]; (try simp (config := { maxSteps := 1000000 }) (disch := first | exact Nat.le_of_ble_eq_true rfl | omega) only [AXS, AXB, J.dst, reduceIte, Nat.reduceEqDiff, Nat.reduceAdd, Nat.reduceMul, Nat.reduceLT, Nat.reduceLeDiff, f11r0, f11r1, f11r2, f11r3, f11r4, f11r5, f11r6, f11r7, f11r8, f11r9, f11r10, f11r11, f11r12, f11r13, f11r14, f11r15, f11r16, f11r17, f11r18, f11r19, f11r20, f11r21, f11r22, f11r23, row_op8 hrow]); rw [f11c13_eq]; (try simp (config := { maxSteps := 1000000 }) (disch := first | exact Nat.le_of_ble_eq_true rfl | omega) only [AXS, AXB, J.dst, reduceIte, Nat.reduceEqDiff, Nat.reduceAdd, Nat.reduceMul, Nat.reduceLT, Nat.reduceLeDiff, f11r0, f11r1, f11r2, f11r3, f11r4, f11r5, f11r6, f11r7, f11r8, f11r9, f11r10, f11r11, f11r12, f11r13, f11r14, f11r15, f11r16, f11r17, f11r18, f11r19, f11r20, f11r21, f11r22, f11r23, row_op8 hrow])
    refine ⟨by omega, by omega, ?_⟩
    refine doG g (by omega) SC o ?_
    intro ax cx ay ny cy h6 _ O6 _ e6
    refine ⟨trivial, ?_⟩
    (try simp (config := { maxSteps := 1000000 }) (disch := first | exact Nat.le_of_ble_eq_true rfl | omega) only [AXS, AXB, J.dst, reduceIte, Nat.reduceEqDiff, Nat.reduceAdd, Nat.reduceMul, Nat.reduceLT, Nat.reduceLeDiff]); rw [f11c14_eq]; (try simp (config := { maxSteps := 1000000 }) (disch := first | exact Nat.le_of_ble_eq_true rfl | omega) only [AXS, AXB, J.dst, reduceIte, Nat.reduceEqDiff, Nat.reduceAdd, Nat.reduceMul, Nat.reduceLT, Nat.reduceLeDiff, f11r0, f11r1, f11r2, f11r3, f11r4, f11r5, f11r6, f11r7, f11r8, f11r9, f11r10, f11r11, f11r12, f11r13, f11r14, f11r15, f11r16, f11r17, f11r18, f11r19, f11r20, f11r21, f11r22, f11r23])
    rw [i64_wrap (by omega) (by omega)]
    have hrun := runL_take ho
    refine hnx (n - 1) _ _ (by omega) ⟨e5.trans e6, k + 1, cx, ax, by omega, ?_, ?_, ?_⟩
    · rw [hrun]; exact O6.slc.imp fun _ _ => trivial
    · rw [hrun]; exact OwnC.cap O6
    · rw [hrun]; rfl
  · have hkl : k = ops.length := by have := of_decide_eq_false h2; omega
    refine hex _ _ ?_
    subst hkl
    rw [List.take_length] at *
    replace B1 := B1.ext e5; replace B2 := B2.ext e5
    have e05 := e04.trans e5
    generalize runL ops = cs at *
    have hs := g.good.sorted
    (try simp (config := { maxSteps := 1000000 }) (disch := first | exact Nat.le_of_ble_eq_true rfl | omega) only [AXS, AXB, J.dst, reduceIte, Nat.reduceEqDiff, Nat.reduceAdd, Nat.reduceMul, Nat.reduceLT, Nat.reduceLeDiff]); rw [f11c15_eq]; (try simp (config := { maxSteps := 1000000 }) (disch := first | exact Nat.le_of_ble_eq_true rfl | omega) only [AXS, AXB, J.dst, reduceIte, Nat.reduceEqDiff, Nat.reduceAdd, Nat.reduceMul, Nat.reduceLT, Nat.reduceLeDiff, f11r0, f11r1, f11r2, f11r3, f11r4, f11r5, f11r6, f11r7, f11r8, f11r9, f11r10, f11r11, f11r12, f11r13, f11r14, f11r15, f11r16, f11r17, f11r18, f11r19, f11r20, f11r21, f11r22, f11r23, B1.rd, B2.rd, eSpn, eStamp])
    refine scanG g (by omega) SC hcap s t 1000 ?_
    have hl60 := g.sz.1
    have hps : scanL t 1000 (withinL cs s) [] = (firstP t s cs cs.length, 0) := by
      rw [scanL_eq, firstP_all, withinL_eq s hs, if_pos]
      · rfl
      · refine .inr ?_
        have := pairs_len t (cs.filter fun c => inS s c.key)
        have := List.length_filter_le (fun c => inS s c.key) cs
        simp; omega
    rw [hps]
    have hpl : (firstP t s cs cs.length).length ≤ 60 := by
      rw [firstP_all]
      have := pairs_len t (cs.filter fun c => inS s c.key)
      have := List.length_filter_le (fun c => inS s c.key) cs
      omega
    intro a6 c6 h6 O6 e6
    refine ⟨trivial, ?_⟩
    replace B1 := B1.ext e6; replace B2 := B2.ext e6; replace SC := SC.ext e6
    generalize hall : firstP t s cs cs.length = ps at *
    (try simp (config := { maxSteps := 1000000 }) (disch := first | exact Nat.le_of_ble_eq_true rfl | omega) only [AXS, AXB, J.dst, reduceIte, Nat.reduceEqDiff, Nat.reduceAdd, Nat.reduceMul, Nat.reduceLT, Nat.reduceLeDiff]); rw [f11c16_eq]; (try simp (config := { maxSteps := 1000000 }) (disch := first | exact Nat.le_of_ble_eq_true rfl | omega) only [AXS, AXB, J.dst, reduceIte, Nat.reduceEqDiff, Nat.reduceAdd, Nat.reduceMul, Nat.reduceLT, Nat.reduceLeDiff, f11r0, f11r1, f11r2, f11r3, f11r4, f11r5, f11r6, f11r7, f11r8, f11r9, f11r10, f11r11, f11r12, f11r13, f11r14, f11r15, f11r16, f11r17, f11r18, f11r19, f11r20, f11r21, f11r22, f11r23]); rw [f11c17_eq]; (try simp (config := { maxSteps := 1000000 }) (disch := first | exact Nat.le_of_ble_eq_true rfl | omega) only [AXS, AXB, J.dst, reduceIte, Nat.reduceEqDiff, Nat.reduceAdd, Nat.reduceMul, Nat.reduceLT, Nat.reduceLeDiff, f11r0, f11r1, f11r2, f11r3, f11r4, f11r5, f11r6, f11r7, f11r8, f11r9, f11r10, f11r11, f11r12, f11r13, f11r14, f11r15, f11r16, f11r17, f11r18, f11r19, f11r20, f11r21, f11r22, f11r23])
    (try simp (config := { maxSteps := 1000000 }) (disch := first | exact Nat.le_of_ble_eq_true rfl | omega) only [AXS, AXB, J.dst, reduceIte, Nat.reduceEqDiff, Nat.reduceAdd, Nat.reduceMul, Nat.reduceLT, Nat.reduceLeDiff]); rw [f11c19_eq]; (try simp (config := { maxSteps := 1000000 }) (disch := first | exact Nat.le_of_ble_eq_true rfl | omega) only [AXS, AXB, J.dst, reduceIte, Nat.reduceEqDiff, Nat.reduceAdd, Nat.reduceMul, Nat.reduceLT, Nat.reduceLeDiff, f11r0, f11r1, f11r2, f11r3, f11r4, f11r5, f11r6, f11r7, f11r8, f11r9, f11r10, f11r11, f11r12, f11r13, f11r14, f11r15, f11r16, f11r17, f11r18, f11r19, f11r20, f11r21, f11r22, f11r23]); rw [f11c20_eq]; (try simp (config := { maxSteps := 1000000 }) (disch := first | exact Nat.le_of_ble_eq_true rfl | omega) only [AXS, AXB, J.dst, reduceIte, Nat.reduceEqDiff, Nat.reduceAdd, Nat.reduceMul, Nat.reduceLT, Nat.reduceLeDiff, f11r0, f11r1, f11r2, f11r3, f11r4, f11r5, f11r6, f11r7, f11r8, f11r9, f11r10, f11r11, f11r12, f11r13, f11r14, f11r15, f11r16, f11r17, f11r18, f11r19, f11r20, f11r21, f11r22, f11r23])
    have F := SlF.of_own O6 rfl
    rw [f11c21_eq]
    refine loop_in (fun n σ h' => Ext h6 h' ∧ ∃ k : Nat, k + n = cs.length ∧ σ = [(4, ptr b1 0), (5, ptr b2 0), (7, .slice a1 cs.length c1), (9, .slice a6 ps.length c6), (11, vi (firstP t s cs k).length), (12, vi k)]) cs.length ⟨Ext.refl _, 0, by omega, rfl⟩ ?_
    rintro m σ h7 ⟨e7, k, hk2, rfl⟩ Q2 hnx2 hex2 hrt2 _
    have hpre : firstP t s cs k <+: ps := by rw [← hall]; exact firstP_pre t s cs k
    have hprl := hpre.length_le
    (try simp (config := { maxSteps := 1000000 }) (disch := first | exact Nat.le_of_ble_eq_true rfl | omega) only [AXS, AXB, J.dst, reduceIte, Nat.reduceEqDiff, Nat.reduceAdd, Nat.reduceMul, Nat.reduceLT, Nat.reduceLeDiff]); rw [f11c22_eq]; (try simp (config := { maxSteps := 1000000 }) (disch := first | exact Nat.le_of_ble_eq_true rfl | omega) only [AXS, AXB, J.dst, reduceIte, Nat.reduceEqDiff, Nat.reduceAdd, Nat.reduceMul, Nat.reduceLT, Nat.reduceLeDiff, f11r0, f11r1, f11r2, f11r3, f11r4, f11r5, f11r6, f11r7, f11r8, f11r9, f11r10, f11r11, f11r12, f11r13, f11r14, f11r15, f11r16, f11r17, f11r18, f11r19, f11r20, f11r21, f11r22, f11r23]); rw [f11c23_eq]; (try simp (config := { maxSteps := 1000000 }) (disch := first | exact Nat.le_of_ble_eq_true rfl | omega) only [AXS, AXB, J.dst, reduceIte, Nat.reduceEqDiff, Nat.reduceAdd, Nat.reduceMul, Nat.reduceLT, Nat.reduceLeDiff, f11r0, f11r1, f11r2, f11r3, f11r4, f11r5, f11r6, f11r7, f11r8, f11r9, f11r10, f11r11, f11r12, f11r13, f11r14, f11r15, f11r16, f11r17, f11r18, f11r19, f11r20, f11r21, f11r22, f11r23])
    refine ⟨fun h3 => ?_, fun h3 => ?_⟩
    · have hkl : k < cs.length := by have := of_decide_eq_true h3; omega
      obtain ⟨x, hx⟩ := get_ex hkl
      obtain ⟨b, o, v, rfl, _, hrow, hcr⟩ := (SC.ext e7).elem hx
      have hlb := hrow.lt (by rw [eCV_len]; omega)
      have hkey := hcr.key
      replace B1 := B1.ext e7; replace B2 := B2.ext e7
      have hl1 := B1.lt
      have hl2 := B2.lt
      have hfs := firstP_succ (t := t) (s := s) hx
      have hpre' : firstP t s cs (k + 1) <+: ps := by rw [← hall]; exact firstP_pre t s cs (k + 1)
      (try simp (config := { maxSteps := 1000000 }) (disch := first | exact Nat.le_of_ble_eq_true rfl | omega) only [AXS, AXB, J.dst, reduceIte, Nat.reduceEqDiff, Nat.reduceAdd, Nat.reduceMul, Nat.reduceLT, Nat.reduceLeDiff]); rw [f11c24_eq]; (try simp (config := { maxSteps := 1000000 }) (disch := first | exact Nat.le_of_ble_eq_true rfl | omega) only [AXS, AXB, J.dst, reduceIte, Nat.reduceEqDiff, Nat.reduceAdd, Nat.reduceMul, Nat.reduceLT, Nat.reduceLeDiff, f11r0, f11r1, f11r2, f11r3, f11r4, f11r5, f11r6, f11r7, f11r8, f11r9, f11r10, f11r11, f11r12, f11r13, f11r14, f11r15, f11r16, f11r17, f11r18, f11r19, f11r20, f11r21, f11r22, f11r23])
      rw [f11c25_eq]
      refine drw_lt ?_
      simp (config := { maxSteps := 1000000 }) (disch := first | exact Nat.le_of_ble_eq_true rfl | omega) only [AXS, AXB, J.dst, reduceIte, Nat.reduceEqDiff, Nat.reduceAdd, Nat.reduceMul, Nat.reduceLT, Nat.reduceLeDiff, f11r16, row_cv hrow, B2.rd, eStamp, hkey]
      refine ⟨by omega, by omega, by omega, by omega, ?_⟩
      refine getG g (by omega) (SC.ext e7) x.key t ?_
      rw [getK_self hs (List.mem_of_getElem? hx)]
      intro h8 e8
      refine ⟨kp_ext (Nat.le_refl _) e8, ?_⟩
      try simp (config := { maxSteps := 1000000 }) (disch := first | exact Nat.le_of_ble_eq_true rfl | omega) only [AXS, AXB, J.dst, reduceIte, Nat.reduceEqDiff, Nat.reduceAdd, Nat.reduceMul, Nat.reduceLT, Nat.reduceLeDiff]
      have hrow8 := hrow.ext e8
      replace B1 := B1.ext e8; replace B2 := B2.ext e8
      have hlb8 := hrow8.lt (by rw [eCV_len]; omega)
      have hl18 := B1.lt
      -- the end of the round
      have rnd : ∀ τ, AX.look τ 4 = some (ptr b1 0) → AX.look τ 5 = some (ptr b2 0) → AX.look τ 7 = some (.slice (some ⟨b, o, none⟩) cs.length c1) → AX.look τ 9 = some (.slice a6 ps.length c6) → AX.look τ 11 = some (vi (firstP t s cs (k + 1)).length) → AX.look τ 12 = some (vi k) →
          wC Try.prog f11c32 Q2 τ h8 := by
        intro τ l4 l5 l7 l9 l11 l12
        (try simp (config := { maxSteps := 1000000 }) (disch := first | exact Nat.le_of_ble_eq_true rfl | omega) only [AXS, AXB, J.dst, reduceIte, Nat.reduceEqDiff, Nat.reduceAdd, Nat.reduceMul, Nat.reduceLT, Nat.reduceLeDiff]); rw [f11c32_eq]; (try simp (config := { maxSteps := 1000000 }) (disch := first | exact Nat.le_of_ble_eq_true rfl | omega) only [AXS, AXB, J.dst, reduceIte, Nat.reduceEqDiff, Nat.reduceAdd, Nat.reduceMul, Nat.reduceLT, Nat.reduceLeDiff, f11r0, f11r1, f11r2, f11r3, f11r4, f11r5, f11r6, f11r7, f11r8, f11r9, f11r10, f11r11, f11r12, f11r13, f11r14, f11r15, f11r16, f11r17, f11r18, f11r19, f11r20, f11r21, f11r22, f11r23, l4, l5, l7, l9, l11, l12])
        rw [i64_wrap (by omega) (by omega)]
        exact hnx2 (m - 1) _ _ (by omega) ⟨e7.trans e8, k + 1, by omega, rfl⟩
      rw [f11c26_eq]
      refine drw_lt ?_
      simp (config := { maxSteps := 1000000 }) (disch := first | exact Nat.le_of_ble_eq_true rfl | omega) only [AXJ, AXS, AXB, J.dst, reduceIte, Nat.reduceEqDiff, Nat.reduceAdd, Nat.reduceMul, Nat.reduceLT, Nat.reduceLeDiff, f11r17, row_cv hrow8, B1.cel, eSpn, hkey]
      refine ⟨fun _ => by omega, fun _ => by omega, fun _ => by omega, fun _ => by omega, ?_⟩
      simp (config := { maxSteps := 1000000 }) (disch := first | exact Nat.le_of_ble_eq_true rfl | omega) only [AXJ, AXS, AXB, J.dst, reduceIte, Nat.reduceEqDiff, Nat.reduceAdd, Nat.reduceMul, Nat.reduceLT, Nat.reduceLeDiff, f11r17a, row_cv hrow8, B1.cel, eSpn, hkey]
      refine ⟨fun _ => by omega, fun _ => by omega, fun _ => by omega, fun _ => by omega, ?_⟩
      have hin : (!(tellV x.vers t).2 || Op.bytesLess x.key.toList s.lo.toList || !Op.bytesLess x.key.toList s.hi.toList) = !(inS s x.key && (tellV x.vers t).2) := by
        unfold inS klt
        cases (tellV x.vers t).2 <;> cases Op.bytesLess x.key.toList s.lo.toList <;> cases Op.bytesLess x.key.toList s.hi.toList <;> rfl
      rw [hin]
      rw [f11c27_eq]
      simp (config := { maxSteps := 1000000 }) (disch := first | exact Nat.le_of_ble_eq_true rfl | omega) only [AXS, AXB, J.dst, reduceIte, Nat.reduceEqDiff, Nat.reduceAdd, Nat.reduceMul, Nat.reduceLT, Nat.reduceLeDiff]
      refine ⟨fun h9 => ?_, fun h9 => ?_⟩
      · have h9 : (inS s x.key && (tellV x.vers t).2) = false := by rw [Bool.not_eq_true'] at h9; exact h9
        rw [h9] at hfs
        try simp (config := { maxSteps := 1000000 }) (disch := first | exact Nat.le_of_ble_eq_true rfl | omega) only [AXS, AXB, J.dst, reduceIte, Nat.reduceEqDiff, Nat.reduceAdd, Nat.reduceMul, Nat.reduceLT, Nat.reduceLeDiff]
        refine rnd _ rfl rfl rfl rfl ?_ rfl
        rw [hfs]; simp; rfl
      · have h9 : (inS s x.key && (tellV x.vers t).2) = true := by rw [Bool.not_eq_false'] at h9; exact h9
        rw [h9] at hfs
        rw [if_pos rfl] at hfs
        have hll : (firstP t s cs (k + 1)).length = (firstP t s cs k).length + 1 := by rw [hfs]; simp
        have hprl' := hpre'.length_le
        have hat : ps[(firstP t s cs k).length]? = some ⟨x.key, (tellV x.vers t).1⟩ := by
          obtain ⟨r, hr⟩ := hpre'
          rw [← hr, hfs]
          simp
        obtain ⟨b9, o9, rfl, _, hr9⟩ := (F.ext (e7.trans e8)).elem ePai_len hat
        have hl9 := hr9.lt (by rw [ePai_len]; omega)
        rw [f11c28_eq]
        refine drw_lt ?_
        have q9 : eqA true [.s, .s] (.agg (ePai ⟨x.key, (tellV x.vers t).1⟩).toArray) (.agg #[.string x.key, .string (tellV x.vers t).1]) = some (.bool false) := by
          have := eqA_paiN ⟨x.key, (tellV x.vers t).1⟩ ⟨x.key, (tellV x.vers t).1⟩
          rw [decide_eq_true rfl] at this
          exact this
        have d9 : decide (((firstP t s cs k).length : Int) ≥ ps.length) = false := by rw [decide_eq_false_iff_not]; omega
        simp (config := { maxSteps := 1000000 }) (disch := first | exact Nat.le_of_ble_eq_true rfl | omega) only [AXJ, AXS, AXB, J.dst, reduceIte, Nat.reduceEqDiff, Nat.reduceAdd, Nat.reduceMul, Nat.reduceLT, Nat.reduceLeDiff, f11r18, row_cv hrow8, row_pai hr9, hkey, q9, d9]
        refine ⟨fun _ => by omega, fun _ => by omega, fun _ => by omega, fun _ => by omega, fun _ => by omega, fun _ => by omega, ?_⟩
        rw [f11c29_eq]
        simp (config := { maxSteps := 1000000 }) (disch := first | exact Nat.le_of_ble_eq_true rfl | omega) only [AXS, AXB, J.dst, reduceIte, Nat.reduceEqDiff, Nat.reduceAdd, Nat.reduceMul, Nat.reduceLT, Nat.reduceLeDiff]
        (try simp (config := { maxSteps := 1000000 }) (disch := first | exact Nat.le_of_ble_eq_true rfl | omega) only [AXS, AXB, J.dst, reduceIte, Nat.reduceEqDiff, Nat.reduceAdd, Nat.reduceMul, Nat.reduceLT, Nat.reduceLeDiff]); rw [f11c31_eq]; (try simp (config := { maxSteps := 1000000 }) (disch := first | exact Nat.le_of_ble_eq_true rfl | omega) only [AXS, AXB, J.dst, reduceIte, Nat.reduceEqDiff, Nat.reduceAdd, Nat.reduceMul, Nat.reduceLT, Nat.reduceLeDiff, f11r0, f11r1, f11r2, f11r3, f11r4, f11r5, f11r6, f11r7, f11r8, f11r9, f11r10, f11r11, f11r12, f11r13, f11r14, f11r15, f11r16, f11r17, f11r18, f11r19, f11r20, f11r21, f11r22, f11r23])
        rw [i64_wrap (by omega) (by omega)]
        refine rnd _ rfl rfl rfl rfl ?_ rfl
        rw [hll]; rfl
    · have hkl : k = cs.length := by have := of_decide_eq_false h3; omega
      refine hex2 _ _ ?_
      replace B1 := B1.ext e7; replace B2 := B2.ext e7; replace SC := SC.ext e7
      subst hkl
      rw [hall]
      (try simp (config := { maxSteps := 1000000 }) (disch := first | exact Nat.le_of_ble_eq_true rfl | omega) only [AXS, AXB, J.dst, reduceIte, Nat.reduceEqDiff, Nat.reduceAdd, Nat.reduceMul, Nat.reduceLT, Nat.reduceLeDiff]); rw [f11c33_eq]; (try simp (config := { maxSteps := 1000000 }) (disch := first | exact Nat.le_of_ble_eq_true rfl | omega) only [AXS, AXB, J.dst, reduceIte, Nat.reduceEqDiff, Nat.reduceAdd, Nat.reduceMul, Nat.reduceLT, Nat.reduceLeDiff, f11r0, f11r1, f11r2, f11r3, f11r4, f11r5, f11r6, f11r7, f11r8, f11r9, f11r10, f11r11, f11r12, f11r13, f11r14, f11r15, f11r16, f11r17, f11r18, f11r19, f11r20, f11r21, f11r22, f11r23, B1.rd, B2.rd, eSpn, eStamp])
      rw [i64_wrap (by omega) (by omega)]
      refine scanG g (by omega) SC hcap s t _ ?_
      intro a10 c10 h10 O10 e10
      refine ⟨trivial, ?_⟩
      simp (config := { maxSteps := 1000000 }) (disch := first | exact Nat.le_of_ble_eq_true rfl | omega) only [AXS, AXB, J.dst, reduceIte, Nat.reduceEqDiff, Nat.reduceAdd, Nat.reduceMul, Nat.reduceLT, Nat.reduceLeDiff]
      rw [f11c34_eq]
      simp (config := { maxSteps := 1000000 }) (disch := first | exact Nat.le_of_ble_eq_true rfl | omega) only [AXJ, AXS, AXB, J.dst, reduceIte, Nat.reduceEqDiff, Nat.reduceAdd, Nat.reduceMul, Nat.reduceLT, Nat.reduceLeDiff, f11r23, f11r23a]
      have hfin : ps = [] ∨ (scanL t ((ps.length : Int) - 1) (withinL cs s) []).2 = 3 := by
        rw [scanL_eq, withinL_eq s hs, ← firstP_all, hall]
        by_cases hp : ps = []
        · exact .inl hp
        · refine .inr ?_
          rw [if_neg]
          simp [hp]; omega
      have := hR _ (e04.trans (e5.trans (e6.trans (e7.trans e10))))
      rcases hfin with hp | hp
      · subst hp; simpa [br_true, br_false] using this
      · rw [hp]
        cases (((ps.length : Nat) : Int) == 0)
        · simpa [br_true, br_false] using this
        · simpa [br_true, br_false] using this
end Go.Proofs.Ytefghfgmkndikaa
