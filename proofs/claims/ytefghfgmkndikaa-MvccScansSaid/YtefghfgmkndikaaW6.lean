/-
  Walks: slices.Insert of one cell.
-/
import Derived.Test.YtefghfgmkndikaaW5
set_option linter.unusedSimpArgs false
set_option linter.unusedVariables false
namespace Go.Proofs.Ytefghfgmkndikaa
open Go Go.AX

/-- slices.Insert of one element. -/
theorem insC_ok {lo : Nat} {a : Option Addr} {n c i vb : Nat} {xs news : List Value} (h : Heap) (O : Own lo h 103 12 a n c xs) (hlo : lo ≤ h.size) (hi : i ≤ n) (hb : (n + 1) * 128 ≤ 140737488355328) (V : Blk h vb 103 news) (hnl : news.length = 12)
    (h1x : ∀ v ∈ xs, v.oneCell' = true) (h1n : ∀ v ∈ news, v.oneCell' = true) (hvb : a = none ∨ some vb ≠ ob a) (hlt : n < maxLen) {R : Value → Heap → Prop}
    (hR : ∀ a' c' h', Own lo h' 103 12 a' (n + 1) c' (xs.take (i * 12) ++ news ++ xs.drop (i * 12)) → Gr (ob a) h h' → (ob a' = ob a ∨ ∃ k, ob a' = some k ∧ h.size ≤ k) → R (.slice a' (n + 1) c') h') :
    CallsH Try.prog 88 [.slice a n c, vi i, sl vb 0 1 1] h R := by
  obtain ⟨hr1, hr2⟩ := O.room
  have hxl := O.1
  unfold maxLen at *
  refine f88ok (by simp) ?_
  (try simp (disch := first | exact Nat.le_of_ble_eq_true rfl | omega) only [AXR, AXB, J.dst, reduceIte, Nat.reduceEqDiff, Nat.reduceAdd, Nat.reduceMul, Nat.reduceLT, Nat.reduceLeDiff]); rw [f88c0_eq]; (try simp (disch := first | exact Nat.le_of_ble_eq_true rfl | omega) only [AXR, AXB, J.dst, reduceIte, Nat.reduceEqDiff, Nat.reduceAdd, Nat.reduceMul, Nat.reduceLT, Nat.reduceLeDiff, f88r0, f88r1, f88r2, f88r3, f88r4, f88r5, f88r6, f88r7, f88r8, f88r9, f88r10, f88r11, f88r12, f88r13, f88r14, f88r15, f88r16, f88r17, f88r18, f88r19, f88r20]); rw [f88c1_eq]; (try simp (disch := first | exact Nat.le_of_ble_eq_true rfl | omega) only [AXR, AXB, J.dst, reduceIte, Nat.reduceEqDiff, Nat.reduceAdd, Nat.reduceMul, Nat.reduceLT, Nat.reduceLeDiff, f88r0, f88r1, f88r2, f88r3, f88r4, f88r5, f88r6, f88r7, f88r8, f88r9, f88r10, f88r11, f88r12, f88r13, f88r14, f88r15, f88r16, f88r17, f88r18, f88r19, f88r20])
  refine slc_lo' (l := i) hi hr1 ?_
  intro a0 _
  (try simp (disch := first | exact Nat.le_of_ble_eq_true rfl | omega) only [AXR, AXB, J.dst, reduceIte, Nat.reduceEqDiff, Nat.reduceAdd, Nat.reduceMul, Nat.reduceLT, Nat.reduceLeDiff]); rw [f88c2_eq]; (try simp (disch := first | exact Nat.le_of_ble_eq_true rfl | omega) only [AXR, AXB, J.dst, reduceIte, Nat.reduceEqDiff, Nat.reduceAdd, Nat.reduceMul, Nat.reduceLT, Nat.reduceLeDiff, f88r0, f88r1, f88r2, f88r3, f88r4, f88r5, f88r6, f88r7, f88r8, f88r9, f88r10, f88r11, f88r12, f88r13, f88r14, f88r15, f88r16, f88r17, f88r18, f88r19, f88r20]); rw [f88c3_eq]; (try simp (disch := first | exact Nat.le_of_ble_eq_true rfl | omega) only [AXR, AXB, J.dst, reduceIte, Nat.reduceEqDiff, Nat.reduceAdd, Nat.reduceMul, Nat.reduceLT, Nat.reduceLeDiff, f88r0, f88r1, f88r2, f88r3, f88r4, f88r5, f88r6, f88r7, f88r8, f88r9, f88r10, f88r11, f88r12, f88r13, f88r14, f88r15, f88r16, f88r17, f88r18, f88r19, f88r20]); rw [f88c4_eq]; (try simp (disch := first | exact Nat.le_of_ble_eq_true rfl | omega) only [AXR, AXB, J.dst, reduceIte, Nat.reduceEqDiff, Nat.reduceAdd, Nat.reduceMul, Nat.reduceLT, Nat.reduceLeDiff, f88r0, f88r1, f88r2, f88r3, f88r4, f88r5, f88r6, f88r7, f88r8, f88r9, f88r10, f88r11, f88r12, f88r13, f88r14, f88r15, f88r16, f88r17, f88r18, f88r19, f88r20])
  rw [show (((1 : Nat) : Int) == 0) = false from rfl, br_false]
  (try simp (disch := first | exact Nat.le_of_ble_eq_true rfl | omega) only [AXR, AXB, J.dst, reduceIte, Nat.reduceEqDiff, Nat.reduceAdd, Nat.reduceMul, Nat.reduceLT, Nat.reduceLeDiff]); rw [f88c6_eq]; (try simp (disch := first | exact Nat.le_of_ble_eq_true rfl | omega) only [AXR, AXB, J.dst, reduceIte, Nat.reduceEqDiff, Nat.reduceAdd, Nat.reduceMul, Nat.reduceLT, Nat.reduceLeDiff, f88r0, f88r1, f88r2, f88r3, f88r4, f88r5, f88r6, f88r7, f88r8, f88r9, f88r10, f88r11, f88r12, f88r13, f88r14, f88r15, f88r16, f88r17, f88r18, f88r19, f88r20]); rw [f88c7_eq]; (try simp (disch := first | exact Nat.le_of_ble_eq_true rfl | omega) only [AXR, AXB, J.dst, reduceIte, Nat.reduceEqDiff, Nat.reduceAdd, Nat.reduceMul, Nat.reduceLT, Nat.reduceLeDiff, f88r0, f88r1, f88r2, f88r3, f88r4, f88r5, f88r6, f88r7, f88r8, f88r9, f88r10, f88r11, f88r12, f88r13, f88r14, f88r15, f88r16, f88r17, f88r18, f88r19, f88r20]); rw [f88c8_eq]; (try simp (disch := first | exact Nat.le_of_ble_eq_true rfl | omega) only [AXR, AXB, J.dst, reduceIte, Nat.reduceEqDiff, Nat.reduceAdd, Nat.reduceMul, Nat.reduceLT, Nat.reduceLeDiff, f88r0, f88r1, f88r2, f88r3, f88r4, f88r5, f88r6, f88r7, f88r8, f88r9, f88r10, f88r11, f88r12, f88r13, f88r14, f88r15, f88r16, f88r17, f88r18, f88r19, f88r20])
  refine ⟨fun h1 => ?_, fun h1 => ?_⟩
  · have hin : i = n := by have := eq_of_beq h1; omega
    subst hin
    (try simp (disch := first | exact Nat.le_of_ble_eq_true rfl | omega) only [AXR, AXB, J.dst, reduceIte, Nat.reduceEqDiff, Nat.reduceAdd, Nat.reduceMul, Nat.reduceLT, Nat.reduceLeDiff]); rw [f88c9_eq]; (try simp (disch := first | exact Nat.le_of_ble_eq_true rfl | omega) only [AXR, AXB, J.dst, reduceIte, Nat.reduceEqDiff, Nat.reduceAdd, Nat.reduceMul, Nat.reduceLT, Nat.reduceLeDiff, f88r0, f88r1, f88r2, f88r3, f88r4, f88r5, f88r6, f88r7, f88r8, f88r9, f88r10, f88r11, f88r12, f88r13, f88r14, f88r15, f88r16, f88r17, f88r18, f88r19, f88r20])
    rw [wL_raw]
    refine raw_append slT74 rfl rfl rfl O (by omega) (.inr ⟨vb, 0, rfl, V.row⟩) h1n (by unfold maxLen; omega) hb hlo ?_
    intro a' c' h' O' G' A'
    refine ⟨trivial, ?_⟩
    try simp (disch := first | exact Nat.le_of_ble_eq_true rfl | omega) only [AXR, AXB, J.dst, reduceIte, Nat.reduceEqDiff, Nat.reduceAdd, Nat.reduceMul, Nat.reduceLT, Nat.reduceLeDiff]
    refine hR _ _ _ ?_ G' A'
    have e1 : xs.take (i * 12) = xs := List.take_of_length_le (by omega)
    have e2 : xs.drop (i * 12) = [] := List.drop_of_length_le (by omega)
    rw [e1, e2, List.append_nil] at *
    exact O'
  have hin : i < n := by
    have : (i : Int) ≠ n := by simpa using h1
    omega
  obtain ⟨g, cur, rfl, hg, G, hcl, hct⟩ := O.blk (by omega)
  have hvb : vb ≠ g := by
    rcases hvb with hv | hv
    · cases hv
    · exact fun e => hv (by rw [e]; rfl)
  have hw : IntKind.i64.wrap ((n : Int) + ((1 : Nat) : Int)) = ((n + 1 : Nat) : Int) := i64_wrap (by omega) (by omega)
  have hwi : IntKind.i64.wrap ((i : Int) + ((1 : Nat) : Int)) = ((i + 1 : Nat) : Int) := i64_wrap (by omega) (by omega)
  have hwd : IntKind.i64.wrap (((n + 1 : Nat) : Int) - (i : Int)) = ((n + 1 - i : Nat) : Int) := by rw [i64_wrap (by omega) (by omega)]; omega
  (try simp (disch := first | exact Nat.le_of_ble_eq_true rfl | omega) only [AXR, AXB, J.dst, reduceIte, Nat.reduceEqDiff, Nat.reduceAdd, Nat.reduceMul, Nat.reduceLT, Nat.reduceLeDiff]); rw [f88c10_eq]; (try simp (disch := first | exact Nat.le_of_ble_eq_true rfl | omega) only [AXR, AXB, J.dst, reduceIte, Nat.reduceEqDiff, Nat.reduceAdd, Nat.reduceMul, Nat.reduceLT, Nat.reduceLeDiff, f88r0, f88r1, f88r2, f88r3, f88r4, f88r5, f88r6, f88r7, f88r8, f88r9, f88r10, f88r11, f88r12, f88r13, f88r14, f88r15, f88r16, f88r17, f88r18, f88r19, f88r20, hw]); rw [f88c11_eq]; (try simp (disch := first | exact Nat.le_of_ble_eq_true rfl | omega) only [AXR, AXB, J.dst, reduceIte, Nat.reduceEqDiff, Nat.reduceAdd, Nat.reduceMul, Nat.reduceLT, Nat.reduceLeDiff, f88r0, f88r1, f88r2, f88r3, f88r4, f88r5, f88r6, f88r7, f88r8, f88r9, f88r10, f88r11, f88r12, f88r13, f88r14, f88r15, f88r16, f88r17, f88r18, f88r19, f88r20, hw])
  refine ⟨fun h2 => ?_, fun h2 => ?_⟩
  · have hroom : c < n + 1 := by have := of_decide_eq_true h2; omega
    (try simp (disch := first | exact Nat.le_of_ble_eq_true rfl | omega) only [AXR, AXB, J.dst, reduceIte, Nat.reduceEqDiff, Nat.reduceAdd, Nat.reduceMul, Nat.reduceLT, Nat.reduceLeDiff]); rw [f88c12_eq]; (try simp (disch := first | exact Nat.le_of_ble_eq_true rfl | omega) only [AXR, AXB, J.dst, reduceIte, Nat.reduceEqDiff, Nat.reduceAdd, Nat.reduceMul, Nat.reduceLT, Nat.reduceLeDiff, f88r0, f88r1, f88r2, f88r3, f88r4, f88r5, f88r6, f88r7, f88r8, f88r9, f88r10, f88r11, f88r12, f88r13, f88r14, f88r15, f88r16, f88r17, f88r18, f88r19, f88r20])
    refine slc_hi (u := i) (by omega) ?_
    simp (disch := first | exact Nat.le_of_ble_eq_true rfl | omega) only [AXR, AXB, J.dst, reduceIte, Nat.reduceEqDiff, Nat.reduceAdd, Nat.reduceMul, Nat.reduceLT, Nat.reduceLeDiff, hw, hwd]
    rw [wL_raw]
    have hrow : Row h g 0 (xs.take (i * 12)) := by
      obtain ⟨g', e, _, hr⟩ := O.row (by omega)
      cases e
      have := hr.sub 0 (i * 12)
      simpa using this
    have hsum : i + (n + 1 - i) = n + 1 := by omega
    refine raw_zeros (kn := .i64) slT74 (by kernel_rfl) rfl (k := n + 1 - i) (n := i) rfl rfl hrow (by rw [List.length_take]; omega) (by omega) (by omega) (by unfold maxLen; omega) (by rw [hsum]; exact hb) ?_
    intro h3 c3 zs e3 s3 hc3 hm3 hz3 B3
    rw [hsum] at hc3 ⊢
    unfold maxLen at hm3
    refine ⟨trivial, ?_⟩
    try simp (disch := first | exact Nat.le_of_ble_eq_true rfl | omega) only [AXR, AXB, J.dst, reduceIte, Nat.reduceEqDiff, Nat.reduceAdd, Nat.reduceMul, Nat.reduceLT, Nat.reduceLeDiff]
    (try simp (disch := first | exact Nat.le_of_ble_eq_true rfl | omega) only [AXR, AXB, J.dst, reduceIte, Nat.reduceEqDiff, Nat.reduceAdd, Nat.reduceMul, Nat.reduceLT, Nat.reduceLeDiff]); rw [f88c13_eq]; (try simp (disch := first | exact Nat.le_of_ble_eq_true rfl | omega) only [AXR, AXB, J.dst, reduceIte, Nat.reduceEqDiff, Nat.reduceAdd, Nat.reduceMul, Nat.reduceLT, Nat.reduceLeDiff, f88r0, f88r1, f88r2, f88r3, f88r4, f88r5, f88r6, f88r7, f88r8, f88r9, f88r10, f88r11, f88r12, f88r13, f88r14, f88r15, f88r16, f88r17, f88r18, f88r19, f88r20])
    refine slc_lo (l := i) (by omega) (by omega) (by omega) ?_
    try simp (disch := first | exact Nat.le_of_ble_eq_true rfl | omega) only [AXR, AXB, J.dst, reduceIte, Nat.reduceEqDiff, Nat.reduceAdd, Nat.reduceMul, Nat.reduceLT, Nat.reduceLeDiff]
    rw [wL_raw]
    have V3 := V.ext e3
    have hgs := G.lt
    have hvs := V.lt
    have hl3 : (xs.take (i * 12) ++ zs).length = c3 * 12 := by
      rw [List.length_append, List.length_take, hz3]
      omega
    refine raw_copy slT74 rfl rfl rfl B3 (cs := news) (by rw [hnl, Nat.min_eq_left (by omega)]) V3.row (by rw [hl3, hnl]; omega) h1n ?_
    intro h4 u4 B4
    refine ⟨trivial, ?_⟩
    try simp (disch := first | exact Nat.le_of_ble_eq_true rfl | omega) only [AXR, AXB, J.dst, reduceIte, Nat.reduceEqDiff, Nat.reduceAdd, Nat.reduceMul, Nat.reduceLT, Nat.reduceLeDiff]
    (try simp (disch := first | exact Nat.le_of_ble_eq_true rfl | omega) only [AXR, AXB, J.dst, reduceIte, Nat.reduceEqDiff, Nat.reduceAdd, Nat.reduceMul, Nat.reduceLT, Nat.reduceLeDiff]); rw [f88c14_eq]; (try simp (disch := first | exact Nat.le_of_ble_eq_true rfl | omega) only [AXR, AXB, J.dst, reduceIte, Nat.reduceEqDiff, Nat.reduceAdd, Nat.reduceMul, Nat.reduceLT, Nat.reduceLeDiff, f88r0, f88r1, f88r2, f88r3, f88r4, f88r5, f88r6, f88r7, f88r8, f88r9, f88r10, f88r11, f88r12, f88r13, f88r14, f88r15, f88r16, f88r17, f88r18, f88r19, f88r20])
    refine ⟨fun _ => False, fun b hb => hb.elim, ?_⟩
    simp (disch := first | exact Nat.le_of_ble_eq_true rfl | omega) only [AXR, AXB, J.dst, reduceIte, Nat.reduceEqDiff, Nat.reduceAdd, Nat.reduceMul, Nat.reduceLT, Nat.reduceLeDiff, f88r11, hwi]
    refine slc_lo (l := i + 1) (by omega) (by omega) (by omega) ?_
    try simp (disch := first | exact Nat.le_of_ble_eq_true rfl | omega) only [AXR, AXB, J.dst, reduceIte, Nat.reduceEqDiff, Nat.reduceAdd, Nat.reduceMul, Nat.reduceLT, Nat.reduceLeDiff]
    refine slc_lo (l := i) (by omega) (by omega) (by omega) ?_
    try simp (disch := first | exact Nat.le_of_ble_eq_true rfl | omega) only [AXR, AXB, J.dst, reduceIte, Nat.reduceEqDiff, Nat.reduceAdd, Nat.reduceMul, Nat.reduceLT, Nat.reduceLeDiff]
    rw [wL_raw]
    have hrow4 : Row h4 g (0 + i * 12) (xs.drop (i * 12)) := by
      obtain ⟨g', e, _, hr⟩ := O.row (by omega)
      cases e
      have := (hr.ext e3).sub (i * 12) (n * 12 - i * 12)
      rw [List.take_of_length_le (by rw [List.length_drop]; omega)] at this
      exact this.at_ (u4.ne g (by omega))
    have hdl : (xs.drop (i * 12)).length = n * 12 - i * 12 := by rw [List.length_drop]; omega
    refine raw_copy slT74 rfl rfl rfl B4 (cs := xs.drop (i * 12)) (by rw [hdl, Nat.min_eq_left (by omega)]; omega) hrow4 ?_ (fun v hv => h1x v (List.mem_of_mem_drop hv)) ?_
    · rw [hdl]
      simp only [List.length_append, List.length_take, List.length_drop, hnl] at hl3 ⊢
      omega
    intro h5 u5 B5
    refine ⟨fun b hb => hb.elim, ?_⟩
    try simp (disch := first | exact Nat.le_of_ble_eq_true rfl | omega) only [AXR, AXB, J.dst, reduceIte, Nat.reduceEqDiff, Nat.reduceAdd, Nat.reduceMul, Nat.reduceLT, Nat.reduceLeDiff]
    (try simp (disch := first | exact Nat.le_of_ble_eq_true rfl | omega) only [AXR, AXB, J.dst, reduceIte, Nat.reduceEqDiff, Nat.reduceAdd, Nat.reduceMul, Nat.reduceLT, Nat.reduceLeDiff]); rw [f88c15_eq]; (try simp (disch := first | exact Nat.le_of_ble_eq_true rfl | omega) only [AXR, AXB, J.dst, reduceIte, Nat.reduceEqDiff, Nat.reduceAdd, Nat.reduceMul, Nat.reduceLT, Nat.reduceLeDiff, f88r0, f88r1, f88r2, f88r3, f88r4, f88r5, f88r6, f88r7, f88r8, f88r9, f88r10, f88r11, f88r12, f88r13, f88r14, f88r15, f88r16, f88r17, f88r18, f88r19, f88r20])
    simp only [Nat.zero_add] at B5
    have hcl5 : ∀ {l m : List Value} {p : Nat}, p + m.length ≤ l.length → (l.take p ++ m ++ l.drop (p + m.length)).length = l.length := fun h => by simp; omega
    have hl4 := hcl5 (l := xs.take (i * 12) ++ zs) (m := news) (p := i * 12) (by rw [hl3, hnl]; omega)
    refine hR _ _ _ (Own.of_blk hlo B5 ?_ hc3 (by unfold maxLen; omega) (ins_grow (by omega) hxl hnl ?_)) ((u5.ext (u4.ext e3 (Nat.le_refl _)) (Nat.le_refl _)).gr _) (.inr ⟨_, rfl, Nat.le_refl _⟩)
    · rw [hcl5 (by rw [hl4, hl3, hdl]; omega), hl4, hl3]
    · rw [hz3]; omega
  · have hroom : n + 1 ≤ c := by have := of_decide_eq_false h2; omega
    (try simp (disch := first | exact Nat.le_of_ble_eq_true rfl | omega) only [AXR, AXB, J.dst, reduceIte, Nat.reduceEqDiff, Nat.reduceAdd, Nat.reduceMul, Nat.reduceLT, Nat.reduceLeDiff]); rw [f88c16_eq]; (try simp (disch := first | exact Nat.le_of_ble_eq_true rfl | omega) only [AXR, AXB, J.dst, reduceIte, Nat.reduceEqDiff, Nat.reduceAdd, Nat.reduceMul, Nat.reduceLT, Nat.reduceLeDiff, f88r0, f88r1, f88r2, f88r3, f88r4, f88r5, f88r6, f88r7, f88r8, f88r9, f88r10, f88r11, f88r12, f88r13, f88r14, f88r15, f88r16, f88r17, f88r18, f88r19, f88r20, hw])
    refine slc_hi (u := n + 1) (by omega) ?_
    try simp (disch := first | exact Nat.le_of_ble_eq_true rfl | omega) only [AXR, AXB, J.dst, reduceIte, Nat.reduceEqDiff, Nat.reduceAdd, Nat.reduceMul, Nat.reduceLT, Nat.reduceLeDiff]
    (try simp (disch := first | exact Nat.le_of_ble_eq_true rfl | omega) only [AXR, AXB, J.dst, reduceIte, Nat.reduceEqDiff, Nat.reduceAdd, Nat.reduceMul, Nat.reduceLT, Nat.reduceLeDiff]); rw [f88c17_eq]; (try simp (disch := first | exact Nat.le_of_ble_eq_true rfl | omega) only [AXR, AXB, J.dst, reduceIte, Nat.reduceEqDiff, Nat.reduceAdd, Nat.reduceMul, Nat.reduceLT, Nat.reduceLeDiff, f88r0, f88r1, f88r2, f88r3, f88r4, f88r5, f88r6, f88r7, f88r8, f88r9, f88r10, f88r11, f88r12, f88r13, f88r14, f88r15, f88r16, f88r17, f88r18, f88r19, f88r20, hwi])
    refine slc_lo (l := i + 1) (by omega) (by omega) (by omega) ?_
    try simp (disch := first | exact Nat.le_of_ble_eq_true rfl | omega) only [AXR, AXB, J.dst, reduceIte, Nat.reduceEqDiff, Nat.reduceAdd, Nat.reduceMul, Nat.reduceLT, Nat.reduceLeDiff]
    rw [wL_raw]
    refine raw_overlaps slT74 rfl Try.func119 (by kernel_rfl) (by kernel_rfl) (by kernel_rfl) (tR := 4) (by kernel_rfl) rfl rfl V G hvb (by omega) ?_
    refine ⟨trivial, ?_⟩
    try simp (disch := first | exact Nat.le_of_ble_eq_true rfl | omega) only [AXR, AXB, J.dst, reduceIte, Nat.reduceEqDiff, Nat.reduceAdd, Nat.reduceMul, Nat.reduceLT, Nat.reduceLeDiff]
    (try simp (disch := first | exact Nat.le_of_ble_eq_true rfl | omega) only [AXR, AXB, J.dst, reduceIte, Nat.reduceEqDiff, Nat.reduceAdd, Nat.reduceMul, Nat.reduceLT, Nat.reduceLeDiff]); rw [f88c18_eq]; (try simp (disch := first | exact Nat.le_of_ble_eq_true rfl | omega) only [AXR, AXB, J.dst, reduceIte, Nat.reduceEqDiff, Nat.reduceAdd, Nat.reduceMul, Nat.reduceLT, Nat.reduceLeDiff, f88r0, f88r1, f88r2, f88r3, f88r4, f88r5, f88r6, f88r7, f88r8, f88r9, f88r10, f88r11, f88r12, f88r13, f88r14, f88r15, f88r16, f88r17, f88r18, f88r19, f88r20])
    (try simp (disch := first | exact Nat.le_of_ble_eq_true rfl | omega) only [AXR, AXB, J.dst, reduceIte, Nat.reduceEqDiff, Nat.reduceAdd, Nat.reduceMul, Nat.reduceLT, Nat.reduceLeDiff]); rw [f88c19_eq]; (try simp (disch := first | exact Nat.le_of_ble_eq_true rfl | omega) only [AXR, AXB, J.dst, reduceIte, Nat.reduceEqDiff, Nat.reduceAdd, Nat.reduceMul, Nat.reduceLT, Nat.reduceLeDiff, f88r0, f88r1, f88r2, f88r3, f88r4, f88r5, f88r6, f88r7, f88r8, f88r9, f88r10, f88r11, f88r12, f88r13, f88r14, f88r15, f88r16, f88r17, f88r18, f88r19, f88r20])
    refine ⟨fun _ => False, fun b hb => hb.elim, ?_⟩
    simp (disch := first | exact Nat.le_of_ble_eq_true rfl | omega) only [AXR, AXB, J.dst, reduceIte, Nat.reduceEqDiff, Nat.reduceAdd, Nat.reduceMul, Nat.reduceLT, Nat.reduceLeDiff, f88r15, hwi]
    refine slc_lo (l := i + 1) (by omega) (by omega) (by omega) ?_
    try simp (disch := first | exact Nat.le_of_ble_eq_true rfl | omega) only [AXR, AXB, J.dst, reduceIte, Nat.reduceEqDiff, Nat.reduceAdd, Nat.reduceMul, Nat.reduceLT, Nat.reduceLeDiff]
    refine slc_lo (l := i) (by omega) (by omega) (by omega) ?_
    try simp (disch := first | exact Nat.le_of_ble_eq_true rfl | omega) only [AXR, AXB, J.dst, reduceIte, Nat.reduceEqDiff, Nat.reduceAdd, Nat.reduceMul, Nat.reduceLT, Nat.reduceLeDiff]
    rw [wL_raw]
    have hcx : (cur.take (n * 12)).length = n * 12 := by rw [hct, hxl]
    have hcn : n * 12 ≤ cur.length := by rw [hcl]; omega
    have hrow : Row h g (0 + i * 12) (xs.drop (i * 12)) := by
      obtain ⟨g', e, _, hr⟩ := O.row (by omega)
      cases e
      have := hr.sub (i * 12) (n * 12 - i * 12)
      rw [List.take_of_length_le (by rw [List.length_drop]; omega)] at this
      exact this
    have hdl : (xs.drop (i * 12)).length = n * 12 - i * 12 := by rw [List.length_drop]; omega
    refine raw_copy slT74 rfl rfl rfl G (cs := xs.drop (i * 12)) (by rw [hdl, Nat.min_eq_right (by omega)]; omega) hrow (by rw [hdl, hcl]; omega) (fun v hv => h1x v (List.mem_of_mem_drop hv)) ?_
    intro h3 u3 B3
    refine ⟨fun b hb => hb.elim, ?_⟩
    try simp (disch := first | exact Nat.le_of_ble_eq_true rfl | omega) only [AXR, AXB, J.dst, reduceIte, Nat.reduceEqDiff, Nat.reduceAdd, Nat.reduceMul, Nat.reduceLT, Nat.reduceLeDiff]
    have hcl5 : ∀ {l m : List Value} {p : Nat}, p + m.length ≤ l.length → (l.take p ++ m ++ l.drop (p + m.length)).length = l.length := fun h => by simp; omega
    (try simp (disch := first | exact Nat.le_of_ble_eq_true rfl | omega) only [AXR, AXB, J.dst, reduceIte, Nat.reduceEqDiff, Nat.reduceAdd, Nat.reduceMul, Nat.reduceLT, Nat.reduceLeDiff]); rw [f88c20_eq]; (try simp (disch := first | exact Nat.le_of_ble_eq_true rfl | omega) only [AXR, AXB, J.dst, reduceIte, Nat.reduceEqDiff, Nat.reduceAdd, Nat.reduceMul, Nat.reduceLT, Nat.reduceLeDiff, f88r0, f88r1, f88r2, f88r3, f88r4, f88r5, f88r6, f88r7, f88r8, f88r9, f88r10, f88r11, f88r12, f88r13, f88r14, f88r15, f88r16, f88r17, f88r18, f88r19, f88r20])
    refine slc_lo (l := i) (by omega) (by omega) (by omega) ?_
    try simp (disch := first | exact Nat.le_of_ble_eq_true rfl | omega) only [AXR, AXB, J.dst, reduceIte, Nat.reduceEqDiff, Nat.reduceAdd, Nat.reduceMul, Nat.reduceLT, Nat.reduceLeDiff]
    rw [wL_raw]
    have V3 := u3.blk V hvb
    simp only [Nat.zero_add] at B3 ⊢
    have hl3 := hcl5 (l := cur) (m := xs.drop (i * 12)) (p := (i + 1) * 12) (by rw [hdl, hcl]; omega)
    refine raw_copy slT74 rfl rfl rfl B3 (cs := news) (by rw [hnl, Nat.min_eq_left (by omega)]) V3.row (by rw [hl3, hnl, hcl]; omega) h1n ?_
    intro h4 u4 B4
    refine ⟨trivial, ?_⟩
    try simp (disch := first | exact Nat.le_of_ble_eq_true rfl | omega) only [AXR, AXB, J.dst, reduceIte, Nat.reduceEqDiff, Nat.reduceAdd, Nat.reduceMul, Nat.reduceLT, Nat.reduceLeDiff]
    (try simp (disch := first | exact Nat.le_of_ble_eq_true rfl | omega) only [AXR, AXB, J.dst, reduceIte, Nat.reduceEqDiff, Nat.reduceAdd, Nat.reduceMul, Nat.reduceLT, Nat.reduceLeDiff]); rw [f88c21_eq]; (try simp (disch := first | exact Nat.le_of_ble_eq_true rfl | omega) only [AXR, AXB, J.dst, reduceIte, Nat.reduceEqDiff, Nat.reduceAdd, Nat.reduceMul, Nat.reduceLT, Nat.reduceLeDiff, f88r0, f88r1, f88r2, f88r3, f88r4, f88r5, f88r6, f88r7, f88r8, f88r9, f88r10, f88r11, f88r12, f88r13, f88r14, f88r15, f88r16, f88r17, f88r18, f88r19, f88r20])
    refine hR _ _ _ (Own.of_blk hg B4 ?_ hroom (by unfold maxLen; omega) (ins_shift hin hroom hcl hct hnl)) (u3.gr.trans u4.gr) (.inl rfl)
    rw [hcl5 (by rw [hl3, hnl, hcl]; omega), hl3, hcl]
end Go.Proofs.Ytefghfgmkndikaa
