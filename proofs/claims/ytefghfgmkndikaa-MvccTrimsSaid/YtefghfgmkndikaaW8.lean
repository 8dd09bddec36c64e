/-
  Walks: the reference's Copy.
-/
import Derived.Test.YtefghfgmkndikaaW7
set_option linter.unusedSimpArgs false
set_option linter.unusedVariables false
namespace Go.Proofs.Ytefghfgmkndikaa
open Go Go.AX

theorem one_sl (a : Option Addr) (n c : Nat) : ∀ v ∈ (Value.slice a n c).cells.toList, v.oneCell' = true := by
  intro v hv; simp only [cells_slice, List.mem_cons, List.not_mem_nil, or_false] at hv; subst hv; rfl

theorem copy_ok {B : Nat → Prop} {a : Option Addr} {c : Nat} (cs : List Cell) (h : Heap) (S : SlC B h a cs) (hn : cs.length ≤ big) (F : ∀ c ∈ cs, c.vers.length ≤ big) {R : Value → Heap → Prop}
    (hR : ∀ a' c' h', OwnC h.size h' a' cs.length c' cs → Ext h h' → R (.slice a' cs.length c') h') : CallsH Try.prog 48 [.slice a cs.length c] h R := by
  have hbig : big = 1000000 := rfl
  refine f48ok (by simp) ?_
  (try simp (disch := first | exact Nat.le_of_ble_eq_true rfl | omega) only [AXR, AXB, J.dst, reduceIte, Nat.reduceEqDiff, Nat.reduceAdd, Nat.reduceMul, Nat.reduceLT, Nat.reduceLeDiff]); rw [f48c0_eq]; (try simp (disch := first | exact Nat.le_of_ble_eq_true rfl | omega) only [AXR, AXB, J.dst, reduceIte, Nat.reduceEqDiff, Nat.reduceAdd, Nat.reduceMul, Nat.reduceLT, Nat.reduceLeDiff, f48r0, f48r1, f48r2, f48r3, f48r4, f48r5, f48r6, f48r7, f48r8]); rw [f48c1_eq]; (try simp (disch := first | exact Nat.le_of_ble_eq_true rfl | omega) only [AXR, AXB, J.dst, reduceIte, Nat.reduceEqDiff, Nat.reduceAdd, Nat.reduceMul, Nat.reduceLT, Nat.reduceLeDiff, f48r0, f48r1, f48r2, f48r3, f48r4, f48r5, f48r6, f48r7, f48r8]); rw [f48c2_eq]; (try simp (disch := first | exact Nat.le_of_ble_eq_true rfl | omega) only [AXR, AXB, J.dst, reduceIte, Nat.reduceEqDiff, Nat.reduceAdd, Nat.reduceMul, Nat.reduceLT, Nat.reduceLeDiff, f48r0, f48r1, f48r2, f48r3, f48r4, f48r5, f48r6, f48r7, f48r8])
  rw [f48c3_eq]
  refine loop_in (fun n σ h' => Ext h h' ∧ ∃ (k c' : Nat) (a' : Option Addr), k + n = cs.length ∧ OwnC h.size h' a' k c' (cs.take k) ∧ σ = [(0, .slice a cs.length c), (3, .slice a' k c'), (4, vi k)])
    cs.length ⟨Ext.refl _, 0, 0, none, by omega, OwnC.nil _ _, rfl⟩ ?_
  rintro n σ h' ⟨e1, k, c', a', hk, O, rfl⟩ Q' hnx hex hrt _
  (try simp (disch := first | exact Nat.le_of_ble_eq_true rfl | omega) only [AXR, AXB, J.dst, reduceIte, Nat.reduceEqDiff, Nat.reduceAdd, Nat.reduceMul, Nat.reduceLT, Nat.reduceLeDiff]); rw [f48c4_eq]; (try simp (disch := first | exact Nat.le_of_ble_eq_true rfl | omega) only [AXR, AXB, J.dst, reduceIte, Nat.reduceEqDiff, Nat.reduceAdd, Nat.reduceMul, Nat.reduceLT, Nat.reduceLeDiff, f48r0, f48r1, f48r2, f48r3, f48r4, f48r5, f48r6, f48r7, f48r8]); rw [f48c5_eq]; (try simp (disch := first | exact Nat.le_of_ble_eq_true rfl | omega) only [AXR, AXB, J.dst, reduceIte, Nat.reduceEqDiff, Nat.reduceAdd, Nat.reduceMul, Nat.reduceLT, Nat.reduceLeDiff, f48r0, f48r1, f48r2, f48r3, f48r4, f48r5, f48r6, f48r7, f48r8])
  refine ⟨fun h2 => ?_, fun h2 => ?_⟩
  · have hkl : k < cs.length := by have := of_decide_eq_true h2; omega
    obtain ⟨x, hx⟩ := get_ex hkl
    obtain ⟨b, o, v, rfl, _, hrow, hcr⟩ := (S.ext e1).elem hx
    rw [f48c6_eq]
    (try simp (disch := first | exact Nat.le_of_ble_eq_true rfl | omega) only [AXR, AXB, J.dst, reduceIte, Nat.reduceEqDiff, Nat.reduceAdd, Nat.reduceMul, Nat.reduceLT, Nat.reduceLeDiff]); rw [f48c7_eq]; (try simp (disch := first | exact Nat.le_of_ble_eq_true rfl | omega) only [AXR, AXB, J.dst, reduceIte, Nat.reduceEqDiff, Nat.reduceAdd, Nat.reduceMul, Nat.reduceLT, Nat.reduceLeDiff, f48r0, f48r1, f48r2, f48r3, f48r4, f48r5, f48r6, f48r7, f48r8, row_cv hrow])
    refine ⟨by omega, by omega, ?_⟩
    refine wL_newN ?_; rintro b4 h4 e4 s4 hb4 B4
    refine wL_stN rfl rfl rfl B4 (by decide) (eCV_one v) ?_; rintro h5 u5 (B5 : Blk _ _ _ (eCV v))
    have e5 := u5.ext e4 (by omega)
    (try simp (disch := first | exact Nat.le_of_ble_eq_true rfl | omega) only [AXR, AXB, J.dst, reduceIte, Nat.reduceEqDiff, Nat.reduceAdd, Nat.reduceMul, Nat.reduceLT, Nat.reduceLeDiff]); rw [f48c8_eq]; (try simp (disch := first | exact Nat.le_of_ble_eq_true rfl | omega) only [AXR, AXB, J.dst, reduceIte, Nat.reduceEqDiff, Nat.reduceAdd, Nat.reduceMul, Nat.reduceLT, Nat.reduceLeDiff, f48r0, f48r1, f48r2, f48r3, f48r4, f48r5, f48r6, f48r7, f48r8])
    refine wL_bslN rfl ?_; intro b6 h6 e6 s6 hb6 B6
    have B5 := B5.ext e6
    simp (disch := first | exact Nat.le_of_ble_eq_true rfl | omega) only [AXR, AXB, J.dst, reduceIte, Nat.reduceEqDiff, Nat.reduceAdd, Nat.reduceMul, Nat.reduceLT, Nat.reduceLeDiff, B5.cel, eCV, hcr.vn]
    rw [wL_raw]
    have O6 : Own h5.size h6 108 4 (some ⟨b6, 0, none⟩) 0 0 [] := Own.of_blk (by omega) B6 (by simp) (Nat.le_refl _) (Nat.zero_le _) (by simp)
    have hfl := flatMap_length eVer_len x.vers
    have hxn := F x (List.mem_of_getElem? hx)
    refine raw_append slT101 rfl rfl rfl O6 hfl ?_ (one_flatMap eVer_one x.vers) (by unfold maxLen; omega) (by omega) e6.size ?_
    · by_cases hv : x.vers = []
      · left; rw [hv]; rfl
      · obtain ⟨b', o', h1', _, h3⟩ := (hcr.vers.ext (e5.trans e6)) hv
        exact .inr ⟨b', o', h1', h3⟩
    intro a7 c7 h7 O7 G7 A7
    have e7 : Ext h5 h7 := G7.ext e6 (fun k hk => by cases hk; show h5.size ≤ b6; omega)
    refine ⟨trivial, ?_⟩
    simp only [Nat.zero_add, List.nil_append] at O7 ⊢
    try simp (disch := first | exact Nat.le_of_ble_eq_true rfl | omega) only [AXR, AXB, J.dst, reduceIte, Nat.reduceEqDiff, Nat.reduceAdd, Nat.reduceMul, Nat.reduceLT, Nat.reduceLeDiff]
    have hb7 := O7.ob
    have hs5 : b4 < h5.size := by have := u5.size; omega
    have B7 := G7.blk B5 (by intro e; have : b4 = b6 := by cases e; rfl
                             omega)
    refine wL_stN rfl rfl rfl B7 (by rw [eCV_len]; exact Nat.le_of_ble_eq_true rfl) (one_sl _ _ _) ?_
    rintro h8 u8 (B8 : Blk _ _ _ (eCV { v with va := a7, vn := x.vers.length, vc := c7 }))
    try simp (disch := first | exact Nat.le_of_ble_eq_true rfl | omega) only [AXR, AXB, J.dst, reduceIte, Nat.reduceEqDiff, Nat.reduceAdd, Nat.reduceMul, Nat.reduceLT, Nat.reduceLeDiff]
    (try simp (disch := first | exact Nat.le_of_ble_eq_true rfl | omega) only [AXR, AXB, J.dst, reduceIte, Nat.reduceEqDiff, Nat.reduceAdd, Nat.reduceMul, Nat.reduceLT, Nat.reduceLeDiff]); rw [f48c9_eq]; (try simp (disch := first | exact Nat.le_of_ble_eq_true rfl | omega) only [AXR, AXB, J.dst, reduceIte, Nat.reduceEqDiff, Nat.reduceAdd, Nat.reduceMul, Nat.reduceLT, Nat.reduceLeDiff, f48r0, f48r1, f48r2, f48r3, f48r4, f48r5, f48r6, f48r7, f48r8, B8.rd, eCV])
    refine wL_bslN rfl ?_; rintro b9 h9 e9 s9 hb9 (B9 : Blk _ _ _ (eCV { v with va := a7, vn := x.vers.length, vc := c7 }))
    try simp (disch := first | exact Nat.le_of_ble_eq_true rfl | omega) only [AXR, AXB, J.dst, reduceIte, Nat.reduceEqDiff, Nat.reduceAdd, Nat.reduceMul, Nat.reduceLT, Nat.reduceLeDiff]
    rw [wL_raw]
    have hO := O.row
    have e8 : Ext h' h8 := u8.ext (e5.trans e7) (by omega)
    have e59 : Ext h' h9 := e8.trans e9
    have O9 := (O7.gr u8.gr (fun j hj => by have := hb7 j hj; intro e; cases e; omega)).ext e9
    have O79 := O.ext e59
    have hz := e1.size
    have hz9 := e59.size
    have hz5 := e5.size
    have r9 : OC h5.size h9 { v with va := a7, vn := x.vers.length, vc := c7 } x := ⟨hcr.key, hcr.locked, hcr.lock, rfl, O9⟩
    refine raw_push rfl rfl rfl O79 B9 (r9.cr.to fun b hb => ⟨⟨?_, hb.2.1, ?_⟩, rfl⟩) (by omega) (by omega) ?_
    · omega
    · intro e; have := hO b e.symm; omega
    intro a8 c8 h10 O10 G10 A10
    refine ⟨trivial, ?_⟩
    try simp (disch := first | exact Nat.le_of_ble_eq_true rfl | omega) only [AXR, AXB, J.dst, reduceIte, Nat.reduceEqDiff, Nat.reduceAdd, Nat.reduceMul, Nat.reduceLT, Nat.reduceLeDiff]
    (try simp (disch := first | exact Nat.le_of_ble_eq_true rfl | omega) only [AXR, AXB, J.dst, reduceIte, Nat.reduceEqDiff, Nat.reduceAdd, Nat.reduceMul, Nat.reduceLT, Nat.reduceLeDiff]); rw [f48c10_eq]; (try simp (disch := first | exact Nat.le_of_ble_eq_true rfl | omega) only [AXR, AXB, J.dst, reduceIte, Nat.reduceEqDiff, Nat.reduceAdd, Nat.reduceMul, Nat.reduceLT, Nat.reduceLeDiff, f48r0, f48r1, f48r2, f48r3, f48r4, f48r5, f48r6, f48r7, f48r8])
    rw [i64_wrap (by omega) (by omega)]
    refine hnx (n - 1) _ _ (by omega) ⟨G10.ext (e1.trans e59) (fun j hj => (hO j hj).1), k + 1, c8, a8, by omega, ?_, rfl⟩
    rw [List.take_add_one, hx]
    exact O10
  · have hkl : k = cs.length := by have := of_decide_eq_false h2; omega
    subst hkl
    refine hex _ _ ?_
    (try simp (disch := first | exact Nat.le_of_ble_eq_true rfl | omega) only [AXR, AXB, J.dst, reduceIte, Nat.reduceEqDiff, Nat.reduceAdd, Nat.reduceMul, Nat.reduceLT, Nat.reduceLeDiff]); rw [f48c11_eq]; (try simp (disch := first | exact Nat.le_of_ble_eq_true rfl | omega) only [AXR, AXB, J.dst, reduceIte, Nat.reduceEqDiff, Nat.reduceAdd, Nat.reduceMul, Nat.reduceLT, Nat.reduceLeDiff, f48r0, f48r1, f48r2, f48r3, f48r4, f48r5, f48r6, f48r7, f48r8])
    rw [List.take_length] at O
    exact hR _ _ _ O e1
end Go.Proofs.Ytefghfgmkndikaa
