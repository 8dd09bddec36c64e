/-
  Walks: whether operations are light; whether there is anything yet.
-/
import Derived.Test.YtefghfgmkndikaaPM
import Derived.Test.YtefghfgmkndikaaWI
set_option linter.unusedSimpArgs false
set_option linter.unusedVariables false
namespace Go.Proofs.Ytefghfgmkndikaa
open Go Go.AX

def lightO (o : Op8) : Bool := !(decide (o.w.key.size > (50 : Int)) || decide (o.w.data.size > (200 : Int)))
def lightL (ops : List Op8) (most : Int) : Bool := !decide ((ops.length : Int) > most) && ops.all lightO

theorem row_op8 {h : Heap} {b o : Nat} {v : Op8} (r : Row h b o (eOp8 v)) : rd h b o 14 = some (eOp8 v) ∧ cel h b (o + 1 + 0) = some (.string v.w.key) ∧ cel h b (o + 1 + 2) = some (.string v.w.data) :=
  ⟨r.rd0 14 (Nat.le_refl _), r 1 (by rw [eOp8_len]; omega), r 3 (by rw [eOp8_len]; omega)⟩

theorem light_ok {B : Nat → Prop} {a : Option Addr} {c : Nat} (ops : List Op8) (most : Int) (h : Heap) (S : SlF B h eOp8 a ops) (hn : ops.length ≤ maxLen) {R : Value → Heap → Prop}
    (hR : R (.bool (lightL ops most)) h) : CallsH Try.prog 36 [.slice a ops.length c, vi most] h R := by
  unfold maxLen at hn
  refine f36ok (by simp) ?_
  (try simp (config := { maxSteps := 1000000 }) (disch := first | exact Nat.le_of_ble_eq_true rfl | omega) only [AXS, AXB, J.dst, reduceIte, Nat.reduceEqDiff, Nat.reduceAdd, Nat.reduceMul, Nat.reduceLT, Nat.reduceLeDiff]); rw [f36c0_eq]; (try simp (config := { maxSteps := 1000000 }) (disch := first | exact Nat.le_of_ble_eq_true rfl | omega) only [AXS, AXB, J.dst, reduceIte, Nat.reduceEqDiff, Nat.reduceAdd, Nat.reduceMul, Nat.reduceLT, Nat.reduceLeDiff, f36r0, f36r1, f36r2, f36r3, f36r4, f36r5, f36r6, f36r7, f36r8]); rw [f36c1_eq]; (try simp (config := { maxSteps := 1000000 }) (disch := first | exact Nat.le_of_ble_eq_true rfl | omega) only [AXS, AXB, J.dst, reduceIte, Nat.reduceEqDiff, Nat.reduceAdd, Nat.reduceMul, Nat.reduceLT, Nat.reduceLeDiff, f36r0, f36r1, f36r2, f36r3, f36r4, f36r5, f36r6, f36r7, f36r8]); rw [f36c2_eq]; (try simp (config := { maxSteps := 1000000 }) (disch := first | exact Nat.le_of_ble_eq_true rfl | omega) only [AXS, AXB, J.dst, reduceIte, Nat.reduceEqDiff, Nat.reduceAdd, Nat.reduceMul, Nat.reduceLT, Nat.reduceLeDiff, f36r0, f36r1, f36r2, f36r3, f36r4, f36r5, f36r6, f36r7, f36r8])
  refine ⟨fun hh => ?_, fun hh => ?_⟩
  · (try simp (config := { maxSteps := 1000000 }) (disch := first | exact Nat.le_of_ble_eq_true rfl | omega) only [AXS, AXB, J.dst, reduceIte, Nat.reduceEqDiff, Nat.reduceAdd, Nat.reduceMul, Nat.reduceLT, Nat.reduceLeDiff]); rw [f36c3_eq]; (try simp (config := { maxSteps := 1000000 }) (disch := first | exact Nat.le_of_ble_eq_true rfl | omega) only [AXS, AXB, J.dst, reduceIte, Nat.reduceEqDiff, Nat.reduceAdd, Nat.reduceMul, Nat.reduceLT, Nat.reduceLeDiff, f36r0, f36r1, f36r2, f36r3, f36r4, f36r5, f36r6, f36r7, f36r8])
    have : lightL ops most = false := by unfold lightL; rw [hh]; rfl
    rw [this] at hR
    exact hR
  · have hl : lightL ops most = ops.all lightO := by unfold lightL; rw [hh]; rfl
    (try simp (config := { maxSteps := 1000000 }) (disch := first | exact Nat.le_of_ble_eq_true rfl | omega) only [AXS, AXB, J.dst, reduceIte, Nat.reduceEqDiff, Nat.reduceAdd, Nat.reduceMul, Nat.reduceLT, Nat.reduceLeDiff]); rw [f36c4_eq]; (try simp (config := { maxSteps := 1000000 }) (disch := first | exact Nat.le_of_ble_eq_true rfl | omega) only [AXS, AXB, J.dst, reduceIte, Nat.reduceEqDiff, Nat.reduceAdd, Nat.reduceMul, Nat.reduceLT, Nat.reduceLeDiff, f36r0, f36r1, f36r2, f36r3, f36r4, f36r5, f36r6, f36r7, f36r8])
    rw [f36c5_eq]
    refine loop_in (fun n σ h' => h' = h ∧ ∃ k : Nat, k + n = ops.length ∧ σ = [(0, .slice a ops.length c), (5, vi k)] ∧ ∀ j x, j < k → ops[j]? = some x → lightO x = true) ops.length ⟨rfl, 0, by omega, rfl, by intros; omega⟩ ?_
    rintro n σ h' ⟨rfl, k, hk, rfl, hok⟩ Q' hnx hex hrt _
    (try simp (config := { maxSteps := 1000000 }) (disch := first | exact Nat.le_of_ble_eq_true rfl | omega) only [AXS, AXB, J.dst, reduceIte, Nat.reduceEqDiff, Nat.reduceAdd, Nat.reduceMul, Nat.reduceLT, Nat.reduceLeDiff]); rw [f36c6_eq]; (try simp (config := { maxSteps := 1000000 }) (disch := first | exact Nat.le_of_ble_eq_true rfl | omega) only [AXS, AXB, J.dst, reduceIte, Nat.reduceEqDiff, Nat.reduceAdd, Nat.reduceMul, Nat.reduceLT, Nat.reduceLeDiff, f36r0, f36r1, f36r2, f36r3, f36r4, f36r5, f36r6, f36r7, f36r8]); rw [f36c7_eq]; (try simp (config := { maxSteps := 1000000 }) (disch := first | exact Nat.le_of_ble_eq_true rfl | omega) only [AXS, AXB, J.dst, reduceIte, Nat.reduceEqDiff, Nat.reduceAdd, Nat.reduceMul, Nat.reduceLT, Nat.reduceLeDiff, f36r0, f36r1, f36r2, f36r3, f36r4, f36r5, f36r6, f36r7, f36r8])
    refine ⟨fun h2 => ?_, fun h2 => ?_⟩
    · have hkl : k < ops.length := by have := of_decide_eq_true h2; omega
      obtain ⟨x, hx⟩ := get_ex hkl
      obtain ⟨b, o, rfl, _, hrow⟩ := S.elem eOp8_len hx
      (try simp (config := { maxSteps := 1000000 }) (disch := first | exact Nat.le_of_ble_eq_true rfl | omega) only [AXS, AXB, J.dst, reduceIte, Nat.reduceEqDiff, Nat.reduceAdd, Nat.reduceMul, Nat.reduceLT, Nat.reduceLeDiff]); rw [f36c8_eq]; (try simp (config := { maxSteps := 1000000 }) (disch := first | exact Nat.le_of_ble_eq_true rfl | omega) only [AXS, AXB, J.dst, reduceIte, Nat.reduceEqDiff, Nat.reduceAdd, Nat.reduceMul, Nat.reduceLT, Nat.reduceLeDiff, f36r0, f36r1, f36r2, f36r3, f36r4, f36r5, f36r6, f36r7, f36r8])
      rw [f36c9_eq]
      simp (config := { maxSteps := 1000000 }) (disch := first | exact Nat.le_of_ble_eq_true rfl | omega) only [AXJ, AXS, AXB, J.dst, reduceIte, Nat.reduceEqDiff, Nat.reduceAdd, Nat.reduceMul, Nat.reduceLT, Nat.reduceLeDiff, f36r5, row_op8 hrow]
      refine ⟨by omega, by omega, fun _ => by omega, fun _ => by omega, ?_⟩
      rw [f36c10_eq]
      simp (config := { maxSteps := 1000000 }) (disch := first | exact Nat.le_of_ble_eq_true rfl | omega) only [AXS, AXB, J.dst, reduceIte, Nat.reduceEqDiff, Nat.reduceAdd, Nat.reduceMul, Nat.reduceLT, Nat.reduceLeDiff]
      refine ⟨fun h3 => ?_, fun h3 => ?_⟩
      · (try simp (config := { maxSteps := 1000000 }) (disch := first | exact Nat.le_of_ble_eq_true rfl | omega) only [AXS, AXB, J.dst, reduceIte, Nat.reduceEqDiff, Nat.reduceAdd, Nat.reduceMul, Nat.reduceLT, Nat.reduceLeDiff]); rw [f36c11_eq]; (try simp (config := { maxSteps := 1000000 }) (disch := first | exact Nat.le_of_ble_eq_true rfl | omega) only [AXS, AXB, J.dst, reduceIte, Nat.reduceEqDiff, Nat.reduceAdd, Nat.reduceMul, Nat.reduceLT, Nat.reduceLeDiff, f36r0, f36r1, f36r2, f36r3, f36r4, f36r5, f36r6, f36r7, f36r8])
        refine hrt _ _ ?_
        simp (config := { maxSteps := 1000000 }) (disch := first | exact Nat.le_of_ble_eq_true rfl | omega) only [AXS, AXB, J.dst, reduceIte, Nat.reduceEqDiff, Nat.reduceAdd, Nat.reduceMul, Nat.reduceLT, Nat.reduceLeDiff]
        have : lightL ops most = false := by
          rw [hl, List.all_eq_false]
          exact ⟨x, List.mem_of_getElem? hx, by unfold lightO; rw [h3]; simp⟩
        rw [this] at hR
        exact hR
      · (try simp (config := { maxSteps := 1000000 }) (disch := first | exact Nat.le_of_ble_eq_true rfl | omega) only [AXS, AXB, J.dst, reduceIte, Nat.reduceEqDiff, Nat.reduceAdd, Nat.reduceMul, Nat.reduceLT, Nat.reduceLeDiff]); rw [f36c12_eq]; (try simp (config := { maxSteps := 1000000 }) (disch := first | exact Nat.le_of_ble_eq_true rfl | omega) only [AXS, AXB, J.dst, reduceIte, Nat.reduceEqDiff, Nat.reduceAdd, Nat.reduceMul, Nat.reduceLT, Nat.reduceLeDiff, f36r0, f36r1, f36r2, f36r3, f36r4, f36r5, f36r6, f36r7, f36r8])
        rw [i64_wrap (by omega) (by omega)]
        refine hnx (n - 1) _ _ (by omega) ⟨rfl, k + 1, by omega, rfl, ?_⟩
        intro j y hj hy
        rcases Nat.lt_or_ge j k with hlt | hge
        · exact hok j y hlt hy
        · have : j = k := by omega
          subst this
          rw [hx] at hy; cases hy
          unfold lightO; rw [h3]; rfl
    · have hkl : k = ops.length := by have := of_decide_eq_false h2; omega
      refine hex _ _ ?_
      (try simp (config := { maxSteps := 1000000 }) (disch := first | exact Nat.le_of_ble_eq_true rfl | omega) only [AXS, AXB, J.dst, reduceIte, Nat.reduceEqDiff, Nat.reduceAdd, Nat.reduceMul, Nat.reduceLT, Nat.reduceLeDiff]); rw [f36c13_eq]; (try simp (config := { maxSteps := 1000000 }) (disch := first | exact Nat.le_of_ble_eq_true rfl | omega) only [AXS, AXB, J.dst, reduceIte, Nat.reduceEqDiff, Nat.reduceAdd, Nat.reduceMul, Nat.reduceLT, Nat.reduceLeDiff, f36r0, f36r1, f36r2, f36r3, f36r4, f36r5, f36r6, f36r7, f36r8])
      have : lightL ops most = true := by
        rw [hl, List.all_eq_true]
        intro x hx
        obtain ⟨j, hj, rfl⟩ := List.mem_iff_getElem.1 hx
        exact hok j _ (by omega) (List.getElem?_eq_getElem hj)
      rw [this] at hR
      exact hR
end Go.Proofs.Ytefghfgmkndikaa
