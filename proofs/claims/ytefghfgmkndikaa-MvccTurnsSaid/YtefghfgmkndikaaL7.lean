/-
  The law MvccTurns: its walk.
-/
import Derived.Test.YtefghfgmkndikaaLG
import Derived.Test.YtefghfgmkndikaaGL7
set_option linter.unusedSimpArgs false
set_option linter.unusedVariables false
namespace Go.Proofs.Ytefghfgmkndikaa
open Go Go.AX

theorem turns_ok {B : Nat → Prop} {a : Option Addr} {c : Nat} (ops : List Op8) (ta tb : Try4) (x y : Bool) (h : Heap) (S : SlF B h eOp8 a ops) (hn : ops.length ≤ maxLen) {R : Value → Heap → Prop}
    (hR : ∀ h', Ext h h' → R (.bool true) h') : CallsH Try.prog 7 [.slice a ops.length c, .agg (eTry ta).toArray, .agg (eTry tb).toArray, .bool x, .bool y] h R := by
  refine f7ok (by simp) ?_
  (try simp (config := { maxSteps := 1000000 }) (disch := first | exact Nat.le_of_ble_eq_true rfl | omega) only [AXS, AXB, J.dst, reduceIte, Nat.reduceEqDiff, Nat.reduceAdd, Nat.reduceMul, Nat.reduceLT, Nat.reduceLeDiff]); rw [f7c0_eq]; (try simp (config := { maxSteps := 1000000 }) (disch := first | exact Nat.le_of_ble_eq_true rfl | omega) only [AXS, AXB, J.dst, reduceIte, Nat.reduceEqDiff, Nat.reduceAdd, Nat.reduceMul, Nat.reduceLT, Nat.reduceLeDiff, f7r0, f7r1, f7r2, f7r3, f7r4, f7r5, f7r6, f7r7, f7r8, f7r9, f7r10])
  refine wL_boxN rfl ?_; rintro b1 h1 e1 s1 hb1 (B1 : Blk _ _ _ (eTry ta))
  refine wL_boxN rfl ?_; rintro b2 h2 e2 s2 hb2 (B2 : Blk _ _ _ (eTry tb))
  replace B1 := B1.ext e2
  have e02 := e1.trans e2
  (try simp (config := { maxSteps := 1000000 }) (disch := first | exact Nat.le_of_ble_eq_true rfl | omega) only [AXS, AXB, J.dst, reduceIte, Nat.reduceEqDiff, Nat.reduceAdd, Nat.reduceMul, Nat.reduceLT, Nat.reduceLeDiff]); rw [f7c1_eq]; (try simp (config := { maxSteps := 1000000 }) (disch := first | exact Nat.le_of_ble_eq_true rfl | omega) only [AXS, AXB, J.dst, reduceIte, Nat.reduceEqDiff, Nat.reduceAdd, Nat.reduceMul, Nat.reduceLT, Nat.reduceLeDiff, f7r0, f7r1, f7r2, f7r3, f7r4, f7r5, f7r6, f7r7, f7r8, f7r9, f7r10])
  refine begun_ok _ ?_
  intro h4 e4
  refine ⟨trivial, ?_⟩
  replace B1 := B1.ext e4
  replace B2 := B2.ext e4
  have e04 := e02.trans e4
  have S4 := S.ext e04
  (try simp (config := { maxSteps := 1000000 }) (disch := first | exact Nat.le_of_ble_eq_true rfl | omega) only [AXS, AXB, J.dst, reduceIte, Nat.reduceEqDiff, Nat.reduceAdd, Nat.reduceMul, Nat.reduceLT, Nat.reduceLeDiff]); rw [f7c2_eq]; (try simp (config := { maxSteps := 1000000 }) (disch := first | exact Nat.le_of_ble_eq_true rfl | omega) only [AXS, AXB, J.dst, reduceIte, Nat.reduceEqDiff, Nat.reduceAdd, Nat.reduceMul, Nat.reduceLT, Nat.reduceLeDiff, f7r0, f7r1, f7r2, f7r3, f7r4, f7r5, f7r6, f7r7, f7r8, f7r9, f7r10])
  rw [f7c4_eq]
  simp (config := { maxSteps := 1000000 }) (disch := first | exact Nat.le_of_ble_eq_true rfl | omega) only [AXJ, AXS, AXB, J.dst, reduceIte, Nat.reduceEqDiff, Nat.reduceAdd, Nat.reduceMul, Nat.reduceLT, Nat.reduceLeDiff, f7r3]
  refine light_ok ops 40 _ S4 hn ?_
  refine ⟨trivial, ?_⟩
  simp (config := { maxSteps := 1000000 }) (disch := first | exact Nat.le_of_ble_eq_true rfl | omega) only [AXJ, AXS, AXB, J.dst, reduceIte, Nat.reduceEqDiff, Nat.reduceAdd, Nat.reduceMul, Nat.reduceLT, Nat.reduceLeDiff, f7r3, B1.rd, B2.rd, eTry, eqA_try]
  rw [f7c5_eq]
  simp (config := { maxSteps := 1000000 }) (disch := first | exact Nat.le_of_ble_eq_true rfl | omega) only [AXS, AXB, J.dst, reduceIte, Nat.reduceEqDiff, Nat.reduceAdd, Nat.reduceMul, Nat.reduceLT, Nat.reduceLeDiff]
  refine ⟨fun hh => ?_, fun hh => ?_⟩
  · (try simp (config := { maxSteps := 1000000 }) (disch := first | exact Nat.le_of_ble_eq_true rfl | omega) only [AXS, AXB, J.dst, reduceIte, Nat.reduceEqDiff, Nat.reduceAdd, Nat.reduceMul, Nat.reduceLT, Nat.reduceLeDiff]); rw [f7c6_eq]; (try simp (config := { maxSteps := 1000000 }) (disch := first | exact Nat.le_of_ble_eq_true rfl | omega) only [AXS, AXB, J.dst, reduceIte, Nat.reduceEqDiff, Nat.reduceAdd, Nat.reduceMul, Nat.reduceLT, Nat.reduceLeDiff, f7r0, f7r1, f7r2, f7r3, f7r4, f7r5, f7r6, f7r7, f7r8, f7r9, f7r10])
    exact hR _ e04
  simp only [Bool.or_eq_false_iff, Bool.not_eq_false', decide_eq_false_iff_not] at hh
  have hlen := lightL_len hh.1
  have hab := hh.2
  (try simp (config := { maxSteps := 1000000 }) (disch := first | exact Nat.le_of_ble_eq_true rfl | omega) only [AXS, AXB, J.dst, reduceIte, Nat.reduceEqDiff, Nat.reduceAdd, Nat.reduceMul, Nat.reduceLT, Nat.reduceLeDiff]); rw [f7c7_eq]; (try simp (config := { maxSteps := 1000000 }) (disch := first | exact Nat.le_of_ble_eq_true rfl | omega) only [AXS, AXB, J.dst, reduceIte, Nat.reduceEqDiff, Nat.reduceAdd, Nat.reduceMul, Nat.reduceLT, Nat.reduceLeDiff, f7r0, f7r1, f7r2, f7r3, f7r4, f7r5, f7r6, f7r7, f7r8, f7r9, f7r10]); rw [f7c8_eq]; (try simp (config := { maxSteps := 1000000 }) (disch := first | exact Nat.le_of_ble_eq_true rfl | omega) only [AXS, AXB, J.dst, reduceIte, Nat.reduceEqDiff, Nat.reduceAdd, Nat.reduceMul, Nat.reduceLT, Nat.reduceLeDiff, f7r0, f7r1, f7r2, f7r3, f7r4, f7r5, f7r6, f7r7, f7r8, f7r9, f7r10])
  rw [f7c9_eq]
  refine loop_in (fun n σ h' => Ext h4 h' ∧ ∃ (k c1 : Nat) (a1 : Option Addr), k + n = ops.length ∧ SlC (fun _ => True) h' a1 (runL (ops.take k)) ∧
      σ = [(0, .slice a ops.length c), (3, .bool x), (4, .bool y), (6, ptr b1 0), (7, ptr b2 0), (11, .slice a1 (runL (ops.take k)).length c1), (12, vi k)]) ops.length ⟨Ext.refl _, 0, 0, none, by omega, SlC.nil, rfl⟩ ?_
  rintro n σ h5 ⟨e5, k, c1, a1, hk, SC, rfl⟩ Q' hnx hex hrt _
  have g := (gdRun (ops.take k)).mono (show _ ≤ 40 by rw [List.length_take]; omega)
  (try simp (config := { maxSteps := 1000000 }) (disch := first | exact Nat.le_of_ble_eq_true rfl | omega) only [AXS, AXB, J.dst, reduceIte, Nat.reduceEqDiff, Nat.reduceAdd, Nat.reduceMul, Nat.reduceLT, Nat.reduceLeDiff]); rw [f7c10_eq]; (try simp (config := { maxSteps := 1000000 }) (disch := first | exact Nat.le_of_ble_eq_true rfl | omega) only [AXS, AXB, J.dst, reduceIte, Nat.reduceEqDiff, Nat.reduceAdd, Nat.reduceMul, Nat.reduceLT, Nat.reduceLeDiff, f7r0, f7r1, f7r2, f7r3, f7r4, f7r5, f7r6, f7r7, f7r8, f7r9, f7r10]); rw [f7c11_eq]; (try simp (config := { maxSteps := 1000000 }) (disch := first | exact Nat.le_of_ble_eq_true rfl | omega) only [AXS, AXB, J.dst, reduceIte, Nat.reduceEqDiff, Nat.reduceAdd, Nat.reduceMul, Nat.reduceLT, Nat.reduceLeDiff, f7r0, f7r1, f7r2, f7r3, f7r4, f7r5, f7r6, f7r7, f7r8, f7r9, f7r10])
  refine ⟨fun h2 => ?_, fun h2 => ?_⟩
  · have hkl : k < ops.length := by have := of_decide_eq_true h2; omega
    obtain ⟨o, ho⟩ := get_ex hkl
    obtain ⟨b, q, rfl, _, hrow⟩ := (S4.ext e5).elem eOp8_len ho
    (try simp (config := { maxSteps := 1000000 }) (disch := first | exact Nat.le_of_ble_eq_true rfl | omega) only [AXS, AXB, J.dst, reduceIte, Nat.reduceEqDiff, Nat.reduceAdd, Nat.reduceMul, Nat.reduceLT, Nat.reduceLeDiff]); rw [f7c12_eq]; (try simp (config := { maxSteps := 1000000 }) (disch := first | exact Nat.le_of_ble_eq_true rfl | omega) only [AXS, AXB, J.dst, reduceIte, Nat.reduceEqDiff, Nat.reduceAdd, Nat.reduceMul, Nat.reduceLT, Nat.reduceLeDiff, f7r0, f7r1, f7r2, f7r3, f7r4, f7r5, f7r6, f7r7, f7r8, f7r9, f7r10, row_op8 hrow]); rw [f7c13_eq]; (try simp (config := { maxSteps := 1000000 }) (disch := first | exact Nat.le_of_ble_eq_true rfl | omega) only [AXS, AXB, J.dst, reduceIte, Nat.reduceEqDiff, Nat.reduceAdd, Nat.reduceMul, Nat.reduceLT, Nat.reduceLeDiff, f7r0, f7r1, f7r2, f7r3, f7r4, f7r5, f7r6, f7r7, f7r8, f7r9, f7r10, row_op8 hrow])
    refine ⟨by omega, by omega, ?_⟩
    refine doG g (by omega) SC o ?_
    intro ax cx ay ny cy h6 _ O6 _ e6
    refine ⟨trivial, ?_⟩
    (try simp (config := { maxSteps := 1000000 }) (disch := first | exact Nat.le_of_ble_eq_true rfl | omega) only [AXS, AXB, J.dst, reduceIte, Nat.reduceEqDiff, Nat.reduceAdd, Nat.reduceMul, Nat.reduceLT, Nat.reduceLeDiff]); rw [f7c14_eq]; (try simp (config := { maxSteps := 1000000 }) (disch := first | exact Nat.le_of_ble_eq_true rfl | omega) only [AXS, AXB, J.dst, reduceIte, Nat.reduceEqDiff, Nat.reduceAdd, Nat.reduceMul, Nat.reduceLT, Nat.reduceLeDiff, f7r0, f7r1, f7r2, f7r3, f7r4, f7r5, f7r6, f7r7, f7r8, f7r9, f7r10])
    rw [i64_wrap (by omega) (by omega)]
    have hrun := runL_take ho
    refine hnx (n - 1) _ _ (by omega) ⟨e5.trans e6, k + 1, cx, ax, by omega, ?_, ?_⟩
    · rw [hrun]; exact O6.slc.imp fun _ _ => trivial
    · rw [hrun]; rfl
  · have hkl : k = ops.length := by have := of_decide_eq_false h2; omega
    refine hex _ _ ?_
    subst hkl
    rw [List.take_length] at *
    replace B1 := B1.ext e5
    replace B2 := B2.ext e5
    have e05 := e04.trans e5
    generalize runL ops = cs at *
    have hl1 := B1.lt
    have hl2 := B2.lt
    rw [f7c15_eq]
    refine drw_lt ?_
    simp (config := { maxSteps := 1000000 }) (disch := first | exact Nat.le_of_ble_eq_true rfl | omega) only [AXJ, AXS, AXB, J.dst, reduceIte, Nat.reduceEqDiff, Nat.reduceAdd, Nat.reduceMul, Nat.reduceLT, Nat.reduceLeDiff, f7r10, B1.rd, B2.rd, eTry]
    refine ⟨by omega, by omega, by omega, by omega, ?_⟩
    refine settleG g (by omega) SC ta x ?_
    intro a6 c6 h6 g6 O6 e6
    refine ⟨kp_ext (Nat.le_refl _) e6, ?_⟩
    simp (config := { maxSteps := 1000000 }) (disch := first | exact Nat.le_of_ble_eq_true rfl | omega) only [AXJ, AXS, AXB, J.dst, reduceIte, Nat.reduceEqDiff, Nat.reduceAdd, Nat.reduceMul, Nat.reduceLT, Nat.reduceLeDiff]
    refine settleG g6 (by omega) O6.slc tb y ?_
    intro a7 c7 h7 g7 O7 e7
    have e57 := e6.trans e7
    refine ⟨kp_ext e6.size e7, ?_⟩
    simp (config := { maxSteps := 1000000 }) (disch := first | exact Nat.le_of_ble_eq_true rfl | omega) only [AXJ, AXS, AXB, J.dst, reduceIte, Nat.reduceEqDiff, Nat.reduceAdd, Nat.reduceMul, Nat.reduceLT, Nat.reduceLeDiff]
    refine settleG g (by omega) (SC.ext e57) tb y ?_
    intro a8 c8 h8 g8 O8 e8
    have e58 := e57.trans e8
    refine ⟨kp_ext e57.size e8, ?_⟩
    simp (config := { maxSteps := 1000000 }) (disch := first | exact Nat.le_of_ble_eq_true rfl | omega) only [AXJ, AXS, AXB, J.dst, reduceIte, Nat.reduceEqDiff, Nat.reduceAdd, Nat.reduceMul, Nat.reduceLT, Nat.reduceLeDiff]
    refine settleG g8 (by omega) O8.slc ta x ?_
    intro a9 c9 h9 g9 O9 e9
    have e59 := e58.trans e9
    refine ⟨kp_ext e58.size e9, ?_⟩
    simp (config := { maxSteps := 1000000 }) (disch := first | exact Nat.le_of_ble_eq_true rfl | omega) only [AXJ, AXS, AXB, J.dst, reduceIte, Nat.reduceEqDiff, Nat.reduceAdd, Nat.reduceMul, Nat.reduceLT, Nat.reduceLeDiff]
    have q1 := settle_turns g.good hab x y
    refine sameG g7 (by omega) (O7.slc.ext (e8.trans e9)) O9.slc q1 ?_
    intro h10 e10
    have e510 := e59.trans e10
    refine ⟨kp_ext e59.size e10, ?_⟩
    simp (config := { maxSteps := 1000000 }) (disch := first | exact Nat.le_of_ble_eq_true rfl | omega) only [AXJ, AXS, AXB, J.dst, reduceIte, Nat.reduceEqDiff, Nat.reduceAdd, Nat.reduceMul, Nat.reduceLT, Nat.reduceLeDiff, B1.rd, eTry]
    refine ⟨fun _ => hl1, fun _ => hl1, fun _ => hl1, ?_⟩
    refine settleG g (by omega) (SC.ext e510) ta x ?_
    intro a11 c11 h11 g11 O11 e11
    have e511 := e510.trans e11
    refine ⟨kp_ext e510.size e11, ?_⟩
    simp (config := { maxSteps := 1000000 }) (disch := first | exact Nat.le_of_ble_eq_true rfl | omega) only [AXJ, AXS, AXB, J.dst, reduceIte, Nat.reduceEqDiff, Nat.reduceAdd, Nat.reduceMul, Nat.reduceLT, Nat.reduceLeDiff]
    refine settleG g11 (by omega) O11.slc ta (!x) ?_
    intro a12 c12 h12 g12 O12 e12
    have e512 := e511.trans e12
    refine ⟨kp_ext e511.size e12, ?_⟩
    simp (config := { maxSteps := 1000000 }) (disch := first | exact Nat.le_of_ble_eq_true rfl | omega) only [AXJ, AXS, AXB, J.dst, reduceIte, Nat.reduceEqDiff, Nat.reduceAdd, Nat.reduceMul, Nat.reduceLT, Nat.reduceLeDiff]
    refine settleG g (by omega) (SC.ext e512) ta x ?_
    intro a13 c13 h13 g13 O13 e13
    have e513 := e512.trans e13
    refine ⟨kp_ext e512.size e13, ?_⟩
    simp (config := { maxSteps := 1000000 }) (disch := first | exact Nat.le_of_ble_eq_true rfl | omega) only [AXJ, AXS, AXB, J.dst, reduceIte, Nat.reduceEqDiff, Nat.reduceAdd, Nat.reduceMul, Nat.reduceLT, Nat.reduceLeDiff]
    refine sameG g12 (by omega) (O12.slc.ext e13) O13.slc (settle_again g.good ta x (!x)) ?_
    intro h14 e14
    refine ⟨kp_ext e513.size e14, ?_⟩
    simp (config := { maxSteps := 1000000 }) (disch := first | exact Nat.le_of_ble_eq_true rfl | omega) only [AXJ, AXS, AXB, J.dst, reduceIte, Nat.reduceEqDiff, Nat.reduceAdd, Nat.reduceMul, Nat.reduceLT, Nat.reduceLeDiff, f7r10a]
    exact hR _ (e05.trans (e513.trans e14))
end Go.Proofs.Ytefghfgmkndikaa
