/-
  Walks: slices.Insert of one element, slices.Clone.
-/
import Derived.Test.YtefghfgmkndikaaW4
import Derived.Test.YtefghfgmkndikaaFR
set_option linter.unusedSimpArgs false
set_option linter.unusedVariables false
namespace Go.AX
open Go
theorem Own.room {lo : Nat} {h : Heap} {e s : Nat} {a : Option Addr} {n c : Nat} {xs : List Value} (O : Own lo h e s a n c xs) : n ≤ c ∧ c ≤ maxLen := by
  rcases O.2 with ⟨_, h1, h2⟩ | ⟨g, cur, _, _, _, h1, h2, _⟩
  · subst h1; subst h2; exact ⟨Nat.le_refl _, Nat.zero_le _⟩
  · exact ⟨h1, h2⟩
theorem Own.blk {lo : Nat} {h : Heap} {e s : Nat} {a : Option Addr} {n c : Nat} {xs : List Value} (O : Own lo h e s a n c xs) (hn : 0 < c) : ∃ g cur, a = some ⟨g, 0, none⟩ ∧ lo ≤ g ∧ Blk h g e cur ∧ cur.length = c * s ∧ cur.take (n * s) = xs := by
  rcases O.2 with ⟨_, _, h2⟩ | ⟨g, cur, rfl, h1, h2, h3, h4, h5, h6⟩
  · omega
  · exact ⟨g, cur.toList, rfl, h1, by unfold Blk; simpa using h2, by simpa using h5, h6⟩
theorem Own.of_blk {lo : Nat} {h : Heap} {e s g n c : Nat} {xs cur : List Value} (hg : lo ≤ g) (B : Blk h g e cur) (hc : cur.length = c * s) (hn : n ≤ c) (hm : c ≤ maxLen) (hx : cur.take (n * s) = xs) : Own lo h e s (some ⟨g, 0, none⟩) n c xs := by
  have hle : n * s ≤ c * s := Nat.mul_le_mul_right _ hn
  refine ⟨by rw [← hx, List.length_take]; omega, .inr ⟨g, cur.toArray, rfl, hg, B, hn, hm, by simpa using hc, by simpa using hx⟩⟩
/-- The new element in its place: shifted in place. -/
theorem ins_shift {cur xs news : List Value} {i n c s : Nat} (hi : i < n) (hc : n + 1 ≤ c) (hl : cur.length = c * s) (hx : cur.take (n * s) = xs) (hn : news.length = s) :
    (((cur.take ((i + 1) * s) ++ (xs.drop (i * s)) ++ cur.drop ((i + 1) * s + (xs.drop (i * s)).length)).take (i * s) ++ news ++
      (cur.take ((i + 1) * s) ++ (xs.drop (i * s)) ++ cur.drop ((i + 1) * s + (xs.drop (i * s)).length)).drop (i * s + news.length)).take ((n + 1) * s)) = xs.take (i * s) ++ news ++ xs.drop (i * s) := by
  have h1 : i * s ≤ n * s := Nat.mul_le_mul_right _ (by omega)
  have h2 : (n + 1) * s ≤ c * s := Nat.mul_le_mul_right _ hc
  have e1 : (i + 1) * s = i * s + s := by rw [Nat.add_mul]; omega
  have e2 : (n + 1) * s = n * s + s := by rw [Nat.add_mul]; omega
  have e3 : (i + 1) * s ≤ n * s := Nat.mul_le_mul_right _ hi
  have hxl : xs.length = n * s := by rw [← hx, List.length_take]; omega
  have hd : (xs.drop (i * s)).length = n * s - i * s := by rw [List.length_drop, hxl]
  apply List.ext_getElem?
  intro j
  rw [hd, hn]
  simp only [List.getElem?_take, List.getElem?_append, List.getElem?_drop, List.length_take, List.length_append, List.length_drop, hl, hxl, hn, ← hx]
  generalize i * s = p at *
  generalize n * s = q at *
  generalize c * s = r at *
  simp only [e1, e2] at *
  repeat' split
  all_goals first | omega | rfl | (congr 1; omega) | skip
  all_goals try (exfalso; omega)
theorem ins_grow {xs news zs : List Value} {i n s : Nat} (hi : i ≤ n) (hxl : xs.length = n * s) (hn : news.length = s) (hz : (n + 1) * s ≤ i * s + zs.length) :
    ((((xs.take (i * s) ++ zs).take (i * s) ++ news ++ (xs.take (i * s) ++ zs).drop (i * s + news.length)).take ((i + 1) * s) ++ xs.drop (i * s) ++
      ((xs.take (i * s) ++ zs).take (i * s) ++ news ++ (xs.take (i * s) ++ zs).drop (i * s + news.length)).drop ((i + 1) * s + (xs.drop (i * s)).length)).take ((n + 1) * s)) = xs.take (i * s) ++ news ++ xs.drop (i * s) := by
  have h1 : i * s ≤ n * s := Nat.mul_le_mul_right _ hi
  have e1 : (i + 1) * s = i * s + s := by rw [Nat.add_mul]; omega
  have e2 : (n + 1) * s = n * s + s := by rw [Nat.add_mul]; omega
  apply List.ext_getElem?
  intro j
  simp only [List.getElem?_take, List.getElem?_append, List.getElem?_drop, List.length_take, List.length_append, List.length_drop, hxl, hn]
  generalize i * s = p at *
  generalize n * s = q at *
  simp only [e1, e2] at *
  repeat' split
  all_goals first | omega | rfl | (congr 1; omega) | skip
  all_goals first | (exfalso; omega) | (rw [List.getElem?_eq_none (by omega)])
end Go.AX
namespace Go.Proofs.Ytefghfgmkndikaa
open Go Go.AX

theorem slT101 : slT Try.prog 101 108 4 40 = true := by kernel_rfl
theorem slT74 : slT Try.prog 74 103 12 128 = true := by kernel_rfl
theorem slT45 : slT Try.prog 45 99 2 32 = true := by kernel_rfl

/-- slices.Insert of one element. -/
theorem insV_ok {lo : Nat} {a : Option Addr} {n c i vb : Nat} {xs news : List Value} (h : Heap) (O : Own lo h 108 4 a n c xs) (hlo : lo ≤ h.size) (hi : i ≤ n) (hb : (n + 1) * 40 ≤ 140737488355328) (V : Blk h vb 108 news) (hnl : news.length = 4)
    (h1x : ∀ v ∈ xs, v.oneCell' = true) (h1n : ∀ v ∈ news, v.oneCell' = true) (hvb : a = none ∨ some vb ≠ ob a) (hlt : n < maxLen) {R : Value → Heap → Prop}
    (hR : ∀ a' c' h', Own lo h' 108 4 a' (n + 1) c' (xs.take (i * 4) ++ news ++ xs.drop (i * 4)) → Gr (ob a) h h' → (ob a' = ob a ∨ ∃ k, ob a' = some k ∧ h.size ≤ k) → R (.slice a' (n + 1) c') h') :
    CallsH Try.prog 115 [.slice a n c, vi i, sl vb 0 1 1] h R := by
  obtain ⟨hr1, hr2⟩ := O.room
  have hxl := O.1
  unfold maxLen at *
  refine f115ok (by simp) ?_
  (try simp (disch := first | exact Nat.le_of_ble_eq_true rfl | omega) only [AXR, AXB, J.dst, reduceIte, Nat.reduceEqDiff, Nat.reduceAdd, Nat.reduceMul, Nat.reduceLT, Nat.reduceLeDiff]); rw [f115c0_eq]; (try simp (disch := first | exact Nat.le_of_ble_eq_true rfl | omega) only [AXR, AXB, J.dst, reduceIte, Nat.reduceEqDiff, Nat.reduceAdd, Nat.reduceMul, Nat.reduceLT, Nat.reduceLeDiff, f115r0, f115r1, f115r2, f115r3, f115r4, f115r5, f115r6, f115r7, f115r8, f115r9, f115r10, f115r11, f115r12, f115r13, f115r14, f115r15, f115r16, f115r17, f115r18, f115r19, f115r20]); rw [f115c1_eq]; (try simp (disch := first | exact Nat.le_of_ble_eq_true rfl | omega) only [AXR, AXB, J.dst, reduceIte, Nat.reduceEqDiff, Nat.reduceAdd, Nat.reduceMul, Nat.reduceLT, Nat.reduceLeDiff, f115r0, f115r1, f115r2, f115r3, f115r4, f115r5, f115r6, f115r7, f115r8, f115r9, f115r10, f115r11, f115r12, f115r13, f115r14, f115r15, f115r16, f115r17, f115r18, f115r19, f115r20])
  refine slc_lo' (l := i) hi hr1 ?_
  intro a0 _
  (try simp (disch := first | exact Nat.le_of_ble_eq_true rfl | omega) only [AXR, AXB, J.dst, reduceIte, Nat.reduceEqDiff, Nat.reduceAdd, Nat.reduceMul, Nat.reduceLT, Nat.reduceLeDiff]); rw [f115c2_eq]; (try simp (disch := first | exact Nat.le_of_ble_eq_true rfl | omega) only [AXR, AXB, J.dst, reduceIte, Nat.reduceEqDiff, Nat.reduceAdd, Nat.reduceMul, Nat.reduceLT, Nat.reduceLeDiff, f115r0, f115r1, f115r2, f115r3, f115r4, f115r5, f115r6, f115r7, f115r8, f115r9, f115r10, f115r11, f115r12, f115r13, f115r14, f115r15, f115r16, f115r17, f115r18, f115r19, f115r20]); rw [f115c3_eq]; (try simp (disch := first | exact Nat.le_of_ble_eq_true rfl | omega) only [AXR, AXB, J.dst, reduceIte, Nat.reduceEqDiff, Nat.reduceAdd, Nat.reduceMul, Nat.reduceLT, Nat.reduceLeDiff, f115r0, f115r1, f115r2, f115r3, f115r4, f115r5, f115r6, f115r7, f115r8, f115r9, f115r10, f115r11, f115r12, f115r13, f115r14, f115r15, f115r16, f115r17, f115r18, f115r19, f115r20]); rw [f115c4_eq]; (try simp (disch := first | exact Nat.le_of_ble_eq_true rfl | omega) only [AXR, AXB, J.dst, reduceIte, Nat.reduceEqDiff, Nat.reduceAdd, Nat.reduceMul, Nat.reduceLT, Nat.reduceLeDiff, f115r0, f115r1, f115r2, f115r3, f115r4, f115r5, f115r6, f115r7, f115r8, f115r9, f115r10, f115r11, f115r12, f115r13, f115r14, f115r15, f115r16, f115r17, f115r18, f115r19, f115r20])
  rw [show (((1 : Nat) : Int) == 0) = false from rfl, br_false]
  (try simp (disch := first | exact Nat.le_of_ble_eq_true rfl | omega) only [AXR, AXB, J.dst, reduceIte, Nat.reduceEqDiff, Nat.reduceAdd, Nat.reduceMul, Nat.reduceLT, Nat.reduceLeDiff]); rw [f115c6_eq]; (try simp (disch := first | exact Nat.le_of_ble_eq_true rfl | omega) only [AXR, AXB, J.dst, reduceIte, Nat.reduceEqDiff, Nat.reduceAdd, Nat.reduceMul, Nat.reduceLT, Nat.reduceLeDiff, f115r0, f115r1, f115r2, f115r3, f115r4, f115r5, f115r6, f115r7, f115r8, f115r9, f115r10, f115r11, f115r12, f115r13, f115r14, f115r15, f115r16, f115r17, f115r18, f115r19, f115r20]); rw [f115c7_eq]; (try simp (disch := first | exact Nat.le_of_ble_eq_true rfl | omega) only [AXR, AXB, J.dst, reduceIte, Nat.reduceEqDiff, Nat.reduceAdd, Nat.reduceMul, Nat.reduceLT, Nat.reduceLeDiff, f115r0, f115r1, f115r2, f115r3, f115r4, f115r5, f115r6, f115r7, f115r8, f115r9, f115r10, f115r11, f115r12, f115r13, f115r14, f115r15, f115r16, f115r17, f115r18, f115r19, f115r20]); rw [f115c8_eq]; (try simp (disch := first | exact Nat.le_of_ble_eq_true rfl | omega) only [AXR, AXB, J.dst, reduceIte, Nat.reduceEqDiff, Nat.reduceAdd, Nat.reduceMul, Nat.reduceLT, Nat.reduceLeDiff, f115r0, f115r1, f115r2, f115r3, f115r4, f115r5, f115r6, f115r7, f115r8, f115r9, f115r10, f115r11, f115r12, f115r13, f115r14, f115r15, f115r16, f115r17, f115r18, f115r19, f115r20])
  refine ⟨fun h1 => ?_, fun h1 => ?_⟩
  · have hin : i = n := by have := eq_of_beq h1; omega
    subst hin
    (try simp (disch := first | exact Nat.le_of_ble_eq_true rfl | omega) only [AXR, AXB, J.dst, reduceIte, Nat.reduceEqDiff, Nat.reduceAdd, Nat.reduceMul, Nat.reduceLT, Nat.reduceLeDiff]); rw [f115c9_eq]; (try simp (disch := first | exact Nat.le_of_ble_eq_true rfl | omega) only [AXR, AXB, J.dst, reduceIte, Nat.reduceEqDiff, Nat.reduceAdd, Nat.reduceMul, Nat.reduceLT, Nat.reduceLeDiff, f115r0, f115r1, f115r2, f115r3, f115r4, f115r5, f115r6, f115r7, f115r8, f115r9, f115r10, f115r11, f115r12, f115r13, f115r14, f115r15, f115r16, f115r17, f115r18, f115r19, f115r20])
    rw [wL_raw]
    refine raw_append slT101 rfl rfl rfl O (by omega) (.inr ⟨vb, 0, rfl, V.row⟩) h1n (by unfold maxLen; omega) hb hlo ?_
    intro a' c' h' O' G' A'
    refine ⟨trivial, ?_⟩
    try simp (disch := first | exact Nat.le_of_ble_eq_true rfl | omega) only [AXR, AXB, J.dst, reduceIte, Nat.reduceEqDiff, Nat.reduceAdd, Nat.reduceMul, Nat.reduceLT, Nat.reduceLeDiff]
    refine hR _ _ _ ?_ G' A'
    have e1 : xs.take (i * 4) = xs := List.take_of_length_le (by omega)
    have e2 : xs.drop (i * 4) = [] := List.drop_of_length_le (by omega)
    rw [e1, e2, List.append_nil] at *
    exact O'
  have hin : i < n := by
    have : (i : Int) ≠ n := by simpa using h1
    omega
  obtain ⟨g, cur, rfl, hg, G, hcl, hct⟩ := O.blk (by omega)
  have hvb : vb ≠ g := by
    rcases hvb with hv | hv
    · cases hv
    · exact fun e => hv (by rw [e]; rfl)
  have hw : IntKind.i64.wrap ((n : Int) + ((1 : Nat) : Int)) = ((n + 1 : Nat) : Int) := i64_wrap (by omega) (by omega)
  have hwi : IntKind.i64.wrap ((i : Int) + ((1 : Nat) : Int)) = ((i + 1 : Nat) : Int) := i64_wrap (by omega) (by omega)
  have hwd : IntKind.i64.wrap (((n + 1 : Nat) : Int) - (i : Int)) = ((n + 1 - i : Nat) : Int) := by rw [i64_wrap (by omega) (by omega)]; omega
  (try simp (disch := first | exact Nat.le_of_ble_eq_true rfl | omega) only [AXR, AXB, J.dst, reduceIte, Nat.reduceEqDiff, Nat.reduceAdd, Nat.reduceMul, Nat.reduceLT, Nat.reduceLeDiff]); rw [f115c10_eq]; (try simp (disch := first | exact Nat.le_of_ble_eq_true rfl | omega) only [AXR, AXB, J.dst, reduceIte, Nat.reduceEqDiff, Nat.reduceAdd, Nat.reduceMul, Nat.reduceLT, Nat.reduceLeDiff, f115r0, f115r1, f115r2, f115r3, f115r4, f115r5, f115r6, f115r7, f115r8, f115r9, f115r10, f115r11, f115r12, f115r13, f115r14, f115r15, f115r16, f115r17, f115r18, f115r19, f115r20, hw]); rw [f115c11_eq]; (try simp (disch := first | exact Nat.le_of_ble_eq_true rfl | omega) only [AXR, AXB, J.dst, reduceIte, Nat.reduceEqDiff, Nat.reduceAdd, Nat.reduceMul, Nat.reduceLT, Nat.reduceLeDiff, f115r0, f115r1, f115r2, f115r3, f115r4, f115r5, f115r6, f115r7, f115r8, f115r9, f115r10, f115r11, f115r12, f115r13, f115r14, f115r15, f115r16, f115r17, f115r18, f115r19, f115r20, hw])
  refine ⟨fun h2 => ?_, fun h2 => ?_⟩
  · have hroom : c < n + 1 := by have := of_decide_eq_true h2; omega
    (try simp (disch := first | exact Nat.le_of_ble_eq_true rfl | omega) only [AXR, AXB, J.dst, reduceIte, Nat.reduceEqDiff, Nat.reduceAdd, Nat.reduceMul, Nat.reduceLT, Nat.reduceLeDiff]); rw [f115c12_eq]; (try simp (disch := first | exact Nat.le_of_ble_eq_true rfl | omega) only [AXR, AXB, J.dst, reduceIte, Nat.reduceEqDiff, Nat.reduceAdd, Nat.reduceMul, Nat.reduceLT, Nat.reduceLeDiff, f115r0, f115r1, f115r2, f115r3, f115r4, f115r5, f115r6, f115r7, f115r8, f115r9, f115r10, f115r11, f115r12, f115r13, f115r14, f115r15, f115r16, f115r17, f115r18, f115r19, f115r20])
    refine slc_hi (u := i) (by omega) ?_
    simp (disch := first | exact Nat.le_of_ble_eq_true rfl | omega) only [AXR, AXB, J.dst, reduceIte, Nat.reduceEqDiff, Nat.reduceAdd, Nat.reduceMul, Nat.reduceLT, Nat.reduceLeDiff, hw, hwd]
    rw [wL_raw]
    have hrow : Row h g 0 (xs.take (i * 4)) := by
      obtain ⟨g', e, _, hr⟩ := O.row (by omega)
      cases e
      have := hr.sub 0 (i * 4)
      simpa using this
    have hsum : i + (n + 1 - i) = n + 1 := by omega
    refine raw_zeros (kn := .i64) slT101 (by kernel_rfl) rfl (k := n + 1 - i) (n := i) rfl rfl hrow (by rw [List.length_take]; omega) (by omega) (by omega) (by unfold maxLen; omega) (by rw [hsum]; exact hb) ?_
    intro h3 c3 zs e3 s3 hc3 hm3 hz3 B3
    rw [hsum] at hc3 ⊢
    unfold maxLen at hm3
    refine ⟨trivial, ?_⟩
    try simp (disch := first | exact Nat.le_of_ble_eq_true rfl | omega) only [AXR, AXB, J.dst, reduceIte, Nat.reduceEqDiff, Nat.reduceAdd, Nat.reduceMul, Nat.reduceLT, Nat.reduceLeDiff]
    (try simp (disch := first | exact Nat.le_of_ble_eq_true rfl | omega) only [AXR, AXB, J.dst, reduceIte, Nat.reduceEqDiff, Nat.reduceAdd, Nat.reduceMul, Nat.reduceLT, Nat.reduceLeDiff]); rw [f115c13_eq]; (try simp (disch := first | exact Nat.le_of_ble_eq_true rfl | omega) only [AXR, AXB, J.dst, reduceIte, Nat.reduceEqDiff, Nat.reduceAdd, Nat.reduceMul, Nat.reduceLT, Nat.reduceLeDiff, f115r0, f115r1, f115r2, f115r3, f115r4, f115r5, f115r6, f115r7, f115r8, f115r9, f115r10, f115r11, f115r12, f115r13, f115r14, f115r15, f115r16, f115r17, f115r18, f115r19, f115r20])
    refine slc_lo (l := i) (by omega) (by omega) (by omega) ?_
    try simp (disch := first | exact Nat.le_of_ble_eq_true rfl | omega) only [AXR, AXB, J.dst, reduceIte, Nat.reduceEqDiff, Nat.reduceAdd, Nat.reduceMul, Nat.reduceLT, Nat.reduceLeDiff]
    rw [wL_raw]
    have V3 := V.ext e3
    have hgs := G.lt
    have hvs := V.lt
    have hl3 : (xs.take (i * 4) ++ zs).length = c3 * 4 := by
      rw [List.length_append, List.length_take, hz3]
      omega
    refine raw_copy slT101 rfl rfl rfl B3 (cs := news) (by rw [hnl, Nat.min_eq_left (by omega)]) V3.row (by rw [hl3, hnl]; omega) h1n ?_
    intro h4 u4 B4
    refine ⟨trivial, ?_⟩
    try simp (disch := first | exact Nat.le_of_ble_eq_true rfl | omega) only [AXR, AXB, J.dst, reduceIte, Nat.reduceEqDiff, Nat.reduceAdd, Nat.reduceMul, Nat.reduceLT, Nat.reduceLeDiff]
    (try simp (disch := first | exact Nat.le_of_ble_eq_true rfl | omega) only [AXR, AXB, J.dst, reduceIte, Nat.reduceEqDiff, Nat.reduceAdd, Nat.reduceMul, Nat.reduceLT, Nat.reduceLeDiff]); rw [f115c14_eq]; (try simp (disch := first | exact Nat.le_of_ble_eq_true rfl | omega) only [AXR, AXB, J.dst, reduceIte, Nat.reduceEqDiff, Nat.reduceAdd, Nat.reduceMul, Nat.reduceLT, Nat.reduceLeDiff, f115r0, f115r1, f115r2, f115r3, f115r4, f115r5, f115r6, f115r7, f115r8, f115r9, f115r10, f115r11, f115r12, f115r13, f115r14, f115r15, f115r16, f115r17, f115r18, f115r19, f115r20])
    refine ⟨fun _ => False, fun b hb => hb.elim, ?_⟩
    simp (disch := first | exact Nat.le_of_ble_eq_true rfl | omega) only [AXR, AXB, J.dst, reduceIte, Nat.reduceEqDiff, Nat.reduceAdd, Nat.reduceMul, Nat.reduceLT, Nat.reduceLeDiff, f115r11, hwi]
    refine slc_lo (l := i + 1) (by omega) (by omega) (by omega) ?_
    try simp (disch := first | exact Nat.le_of_ble_eq_true rfl | omega) only [AXR, AXB, J.dst, reduceIte, Nat.reduceEqDiff, Nat.reduceAdd, Nat.reduceMul, Nat.reduceLT, Nat.reduceLeDiff]
    refine slc_lo (l := i) (by omega) (by omega) (by omega) ?_
    try simp (disch := first | exact Nat.le_of_ble_eq_true rfl | omega) only [AXR, AXB, J.dst, reduceIte, Nat.reduceEqDiff, Nat.reduceAdd, Nat.reduceMul, Nat.reduceLT, Nat.reduceLeDiff]
    rw [wL_raw]
    have hrow4 : Row h4 g (0 + i * 4) (xs.drop (i * 4)) := by
      obtain ⟨g', e, _, hr⟩ := O.row (by omega)
      cases e
      have := (hr.ext e3).sub (i * 4) (n * 4 - i * 4)
      rw [List.take_of_length_le (by rw [List.length_drop]; omega)] at this
      exact this.at_ (u4.ne g (by omega))
    have hdl : (xs.drop (i * 4)).length = n * 4 - i * 4 := by rw [List.length_drop]; omega
    refine raw_copy slT101 rfl rfl rfl B4 (cs := xs.drop (i * 4)) (by rw [hdl, Nat.min_eq_left (by omega)]; omega) hrow4 ?_ (fun v hv => h1x v (List.mem_of_mem_drop hv)) ?_
    · rw [hdl]
      simp only [List.length_append, List.length_take, List.length_drop, hnl] at hl3 ⊢
      omega
    intro h5 u5 B5
    refine ⟨fun b hb => hb.elim, ?_⟩
    try simp (disch := first | exact Nat.le_of_ble_eq_true rfl | omega) only [AXR, AXB, J.dst, reduceIte, Nat.reduceEqDiff, Nat.reduceAdd, Nat.reduceMul, Nat.reduceLT, Nat.reduceLeDiff]
    (try simp (disch := first | exact Nat.le_of_ble_eq_true rfl | omega) only [AXR, AXB, J.dst, reduceIte, Nat.reduceEqDiff, Nat.reduceAdd, Nat.reduceMul, Nat.reduceLT, Nat.reduceLeDiff]); rw [f115c15_eq]; (try simp (disch := first | exact Nat.le_of_ble_eq_true rfl | omega) only [AXR, AXB, J.dst, reduceIte, Nat.reduceEqDiff, Nat.reduceAdd, Nat.reduceMul, Nat.reduceLT, Nat.reduceLeDiff, f115r0, f115r1, f115r2, f115r3, f115r4, f115r5, f115r6, f115r7, f115r8, f115r9, f115r10, f115r11, f115r12, f115r13, f115r14, f115r15, f115r16, f115r17, f115r18, f115r19, f115r20])
    simp only [Nat.zero_add] at B5
    have hcl5 : ∀ {l m : List Value} {p : Nat}, p + m.length ≤ l.length → (l.take p ++ m ++ l.drop (p + m.length)).length = l.length := fun h => by simp; omega
    have hl4 := hcl5 (l := xs.take (i * 4) ++ zs) (m := news) (p := i * 4) (by rw [hl3, hnl]; omega)
    refine hR _ _ _ (Own.of_blk hlo B5 ?_ hc3 (by unfold maxLen; omega) (ins_grow (by omega) hxl hnl ?_)) ((u5.ext (u4.ext e3 (Nat.le_refl _)) (Nat.le_refl _)).gr _) (.inr ⟨_, rfl, Nat.le_refl _⟩)
    · rw [hcl5 (by rw [hl4, hl3, hdl]; omega), hl4, hl3]
    · rw [hz3]; omega
  · have hroom : n + 1 ≤ c := by have := of_decide_eq_false h2; omega
    (try simp (disch := first | exact Nat.le_of_ble_eq_true rfl | omega) only [AXR, AXB, J.dst, reduceIte, Nat.reduceEqDiff, Nat.reduceAdd, Nat.reduceMul, Nat.reduceLT, Nat.reduceLeDiff]); rw [f115c16_eq]; (try simp (disch := first | exact Nat.le_of_ble_eq_true rfl | omega) only [AXR, AXB, J.dst, reduceIte, Nat.reduceEqDiff, Nat.reduceAdd, Nat.reduceMul, Nat.reduceLT, Nat.reduceLeDiff, f115r0, f115r1, f115r2, f115r3, f115r4, f115r5, f115r6, f115r7, f115r8, f115r9, f115r10, f115r11, f115r12, f115r13, f115r14, f115r15, f115r16, f115r17, f115r18, f115r19, f115r20, hw])
    refine slc_hi (u := n + 1) (by omega) ?_
    try simp (disch := first | exact Nat.le_of_ble_eq_true rfl | omega) only [AXR, AXB, J.dst, reduceIte, Nat.reduceEqDiff, Nat.reduceAdd, Nat.reduceMul, Nat.reduceLT, Nat.reduceLeDiff]
    (try simp (disch := first | exact Nat.le_of_ble_eq_true rfl | omega) only [AXR, AXB, J.dst, reduceIte, Nat.reduceEqDiff, Nat.reduceAdd, Nat.reduceMul, Nat.reduceLT, Nat.reduceLeDiff]); rw [f115c17_eq]; (try simp (disch := first | exact Nat.le_of_ble_eq_true rfl | omega) only [AXR, AXB, J.dst, reduceIte, Nat.reduceEqDiff, Nat.reduceAdd, Nat.reduceMul, Nat.reduceLT, Nat.reduceLeDiff, f115r0, f115r1, f115r2, f115r3, f115r4, f115r5, f115r6, f115r7, f115r8, f115r9, f115r10, f115r11, f115r12, f115r13, f115r14, f115r15, f115r16, f115r17, f115r18, f115r19, f115r20, hwi])
    refine slc_lo (l := i + 1) (by omega) (by omega) (by omega) ?_
    try simp (disch := first | exact Nat.le_of_ble_eq_true rfl | omega) only [AXR, AXB, J.dst, reduceIte, Nat.reduceEqDiff, Nat.reduceAdd, Nat.reduceMul, Nat.reduceLT, Nat.reduceLeDiff]
    rw [wL_raw]
    refine raw_overlaps slT101 rfl Try.func137 (by kernel_rfl) (by kernel_rfl) (by kernel_rfl) (tR := 4) (by kernel_rfl) rfl rfl V G hvb (by omega) ?_
    refine ⟨trivial, ?_⟩
    try simp (disch := first | exact Nat.le_of_ble_eq_true rfl | omega) only [AXR, AXB, J.dst, reduceIte, Nat.reduceEqDiff, Nat.reduceAdd, Nat.reduceMul, Nat.reduceLT, Nat.reduceLeDiff]
    (try simp (disch := first | exact Nat.le_of_ble_eq_true rfl | omega) only [AXR, AXB, J.dst, reduceIte, Nat.reduceEqDiff, Nat.reduceAdd, Nat.reduceMul, Nat.reduceLT, Nat.reduceLeDiff]); rw [f115c18_eq]; (try simp (disch := first | exact Nat.le_of_ble_eq_true rfl | omega) only [AXR, AXB, J.dst, reduceIte, Nat.reduceEqDiff, Nat.reduceAdd, Nat.reduceMul, Nat.reduceLT, Nat.reduceLeDiff, f115r0, f115r1, f115r2, f115r3, f115r4, f115r5, f115r6, f115r7, f115r8, f115r9, f115r10, f115r11, f115r12, f115r13, f115r14, f115r15, f115r16, f115r17, f115r18, f115r19, f115r20])
    (try simp (disch := first | exact Nat.le_of_ble_eq_true rfl | omega) only [AXR, AXB, J.dst, reduceIte, Nat.reduceEqDiff, Nat.reduceAdd, Nat.reduceMul, Nat.reduceLT, Nat.reduceLeDiff]); rw [f115c19_eq]; (try simp (disch := first | exact Nat.le_of_ble_eq_true rfl | omega) only [AXR, AXB, J.dst, reduceIte, Nat.reduceEqDiff, Nat.reduceAdd, Nat.reduceMul, Nat.reduceLT, Nat.reduceLeDiff, f115r0, f115r1, f115r2, f115r3, f115r4, f115r5, f115r6, f115r7, f115r8, f115r9, f115r10, f115r11, f115r12, f115r13, f115r14, f115r15, f115r16, f115r17, f115r18, f115r19, f115r20])
    refine ⟨fun _ => False, fun b hb => hb.elim, ?_⟩
    simp (disch := first | exact Nat.le_of_ble_eq_true rfl | omega) only [AXR, AXB, J.dst, reduceIte, Nat.reduceEqDiff, Nat.reduceAdd, Nat.reduceMul, Nat.reduceLT, Nat.reduceLeDiff, f115r15, hwi]
    refine slc_lo (l := i + 1) (by omega) (by omega) (by omega) ?_
    try simp (disch := first | exact Nat.le_of_ble_eq_true rfl | omega) only [AXR, AXB, J.dst, reduceIte, Nat.reduceEqDiff, Nat.reduceAdd, Nat.reduceMul, Nat.reduceLT, Nat.reduceLeDiff]
    refine slc_lo (l := i) (by omega) (by omega) (by omega) ?_
    try simp (disch := first | exact Nat.le_of_ble_eq_true rfl | omega) only [AXR, AXB, J.dst, reduceIte, Nat.reduceEqDiff, Nat.reduceAdd, Nat.reduceMul, Nat.reduceLT, Nat.reduceLeDiff]
    rw [wL_raw]
    have hcx : (cur.take (n * 4)).length = n * 4 := by rw [hct, hxl]
    have hcn : n * 4 ≤ cur.length := by rw [hcl]; omega
    have hrow : Row h g (0 + i * 4) (xs.drop (i * 4)) := by
      obtain ⟨g', e, _, hr⟩ := O.row (by omega)
      cases e
      have := hr.sub (i * 4) (n * 4 - i * 4)
      rw [List.take_of_length_le (by rw [List.length_drop]; omega)] at this
      exact this
    have hdl : (xs.drop (i * 4)).length = n * 4 - i * 4 := by rw [List.length_drop]; omega
    refine raw_copy slT101 rfl rfl rfl G (cs := xs.drop (i * 4)) (by rw [hdl, Nat.min_eq_right (by omega)]; omega) hrow (by rw [hdl, hcl]; omega) (fun v hv => h1x v (List.mem_of_mem_drop hv)) ?_
    intro h3 u3 B3
    refine ⟨fun b hb => hb.elim, ?_⟩
    try simp (disch := first | exact Nat.le_of_ble_eq_true rfl | omega) only [AXR, AXB, J.dst, reduceIte, Nat.reduceEqDiff, Nat.reduceAdd, Nat.reduceMul, Nat.reduceLT, Nat.reduceLeDiff]
    have hcl5 : ∀ {l m : List Value} {p : Nat}, p + m.length ≤ l.length → (l.take p ++ m ++ l.drop (p + m.length)).length = l.length := fun h => by simp; omega
    (try simp (disch := first | exact Nat.le_of_ble_eq_true rfl | omega) only [AXR, AXB, J.dst, reduceIte, Nat.reduceEqDiff, Nat.reduceAdd, Nat.reduceMul, Nat.reduceLT, Nat.reduceLeDiff]); rw [f115c20_eq]; (try simp (disch := first | exact Nat.le_of_ble_eq_true rfl | omega) only [AXR, AXB, J.dst, reduceIte, Nat.reduceEqDiff, Nat.reduceAdd, Nat.reduceMul, Nat.reduceLT, Nat.reduceLeDiff, f115r0, f115r1, f115r2, f115r3, f115r4, f115r5, f115r6, f115r7, f115r8, f115r9, f115r10, f115r11, f115r12, f115r13, f115r14, f115r15, f115r16, f115r17, f115r18, f115r19, f115r20])
    refine slc_lo (l := i) (by omega) (by omega) (by omega) ?_
    try simp (disch := first | exact Nat.le_of_ble_eq_true rfl | omega) only [AXR, AXB, J.dst, reduceIte, Nat.reduceEqDiff, Nat.reduceAdd, Nat.reduceMul, Nat.reduceLT, Nat.reduceLeDiff]
    rw [wL_raw]
    have V3 := u3.blk V hvb
    simp only [Nat.zero_add] at B3 ⊢
    have hl3 := hcl5 (l := cur) (m := xs.drop (i * 4)) (p := (i + 1) * 4) (by rw [hdl, hcl]; omega)
    refine raw_copy slT101 rfl rfl rfl B3 (cs := news) (by rw [hnl, Nat.min_eq_left (by omega)]) V3.row (by rw [hl3, hnl, hcl]; omega) h1n ?_
    intro h4 u4 B4
    refine ⟨trivial, ?_⟩
    try simp (disch := first | exact Nat.le_of_ble_eq_true rfl | omega) only [AXR, AXB, J.dst, reduceIte, Nat.reduceEqDiff, Nat.reduceAdd, Nat.reduceMul, Nat.reduceLT, Nat.reduceLeDiff]
    (try simp (disch := first | exact Nat.le_of_ble_eq_true rfl | omega) only [AXR, AXB, J.dst, reduceIte, Nat.reduceEqDiff, Nat.reduceAdd, Nat.reduceMul, Nat.reduceLT, Nat.reduceLeDiff]); rw [f115c21_eq]; (try simp (disch := first | exact Nat.le_of_ble_eq_true rfl | omega) only [AXR, AXB, J.dst, reduceIte, Nat.reduceEqDiff, Nat.reduceAdd, Nat.reduceMul, Nat.reduceLT, Nat.reduceLeDiff, f115r0, f115r1, f115r2, f115r3, f115r4, f115r5, f115r6, f115r7, f115r8, f115r9, f115r10, f115r11, f115r12, f115r13, f115r14, f115r15, f115r16, f115r17, f115r18, f115r19, f115r20])
    refine hR _ _ _ (Own.of_blk hg B4 ?_ hroom (by unfold maxLen; omega) (ins_shift hin hroom hcl hct hnl)) (u3.gr.trans u4.gr) (.inl rfl)
    rw [hcl5 (by rw [hl3, hnl, hcl]; omega), hl3, hcl]
end Go.Proofs.Ytefghfgmkndikaa
