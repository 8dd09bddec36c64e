/-
  Walks: a scan.
-/
import Derived.Test.YtefghfgmkndikaaWM
set_option linter.unusedSimpArgs false
set_option linter.unusedVariables false
namespace Go.AX
open Go
/-- One pair is appended. -/
def scanL (t : Stamp) (most : Int) : List Cell → List Pai → List Pai × Int
  | [], acc => (acc, 0)
  | x :: xs, acc => if (tellV x.vers t).2 = false then scanL t most xs acc else if (acc.length : Int) ≥ most then ([], 3) else scanL t most xs (acc ++ [⟨x.key, (tellV x.vers t).1⟩])
end Go.AX
namespace Go.Proofs.Ytefghfgmkndikaa
open Go Go.AX

section
variable {B : Nat → Prop} {a : Option Addr} {c n : Nat} {cs : List Cell} {h : Heap} {R : Value → Heap → Prop}
theorem withinL_sub (cs : List Cell) (s : Spn) : ∀ x ∈ withinL cs s, x ∈ cs := by
  unfold withinL
  split
  · simp
  · intro x hx; exact List.mem_of_mem_drop (List.mem_of_mem_take hx)
theorem withinL_le (cs : List Cell) (s : Spn) : (withinL cs s).length ≤ cs.length := by
  unfold withinL
  split
  · simp
  · rw [List.length_take, List.length_drop]; omega

theorem scanG (g : Gd n cs) (hn : n ≤ 900000) (S : SlC B h a cs) (hc : cs.length ≤ c) (s : Spn) (t : Stamp) (most : Int)
    (hR : ∀ a' c' h', Own h.size h' 99 2 a' (scanL t most (withinL cs s) []).1.length c' ((scanL t most (withinL cs s) []).1.flatMap ePai) → Ext h h' → R (.tuple #[.slice a' (scanL t most (withinL cs s) []).1.length c', vi (scanL t most (withinL cs s) []).2]) h') :
    CallsH Try.prog 47 [.slice a cs.length c, .agg (eSpn s).toArray, .agg (eStamp t).toArray, vi most] h R := by
  obtain ⟨z1, z2, z3, z4, z5, z6⟩ := szAll g.sz hn
  have hbig : big = 1000000 := rfl
  refine f47ok (by simp) ?_
  (try simp (config := { maxSteps := 1000000 }) (disch := first | exact Nat.le_of_ble_eq_true rfl | omega) only [AXS, AXB, J.dst, reduceIte, Nat.reduceEqDiff, Nat.reduceAdd, Nat.reduceMul, Nat.reduceLT, Nat.reduceLeDiff]); rw [f47c0_eq]; (try simp (config := { maxSteps := 1000000 }) (disch := first | exact Nat.le_of_ble_eq_true rfl | omega) only [AXS, AXB, J.dst, reduceIte, Nat.reduceEqDiff, Nat.reduceAdd, Nat.reduceMul, Nat.reduceLT, Nat.reduceLeDiff, f47r0, f47r1, f47r2, f47r3, f47r4, f47r5, f47r6, f47r7, f47r8, f47r9, f47r10, f47r11])
  refine wL_boxN rfl ?_; rintro b1 h1 e1 s1 hb1 (B1 : Blk _ _ _ (eSpn s))
  refine wL_boxN rfl ?_; rintro b2 h2 e2 s2 hb2 (B2 : Blk _ _ _ (eStamp t))
  replace B1 := B1.ext e2
  have e02 := e1.trans e2
  (try simp (config := { maxSteps := 1000000 }) (disch := first | exact Nat.le_of_ble_eq_true rfl | omega) only [AXS, AXB, J.dst, reduceIte, Nat.reduceEqDiff, Nat.reduceAdd, Nat.reduceMul, Nat.reduceLT, Nat.reduceLeDiff]); rw [f47c1_eq]; (try simp (config := { maxSteps := 1000000 }) (disch := first | exact Nat.le_of_ble_eq_true rfl | omega) only [AXS, AXB, J.dst, reduceIte, Nat.reduceEqDiff, Nat.reduceAdd, Nat.reduceMul, Nat.reduceLT, Nat.reduceLeDiff, f47r0, f47r1, f47r2, f47r3, f47r4, f47r5, f47r6, f47r7, f47r8, f47r9, f47r10, f47r11, B1.rd, eSpn]); rw [f47c2_eq]; (try simp (config := { maxSteps := 1000000 }) (disch := first | exact Nat.le_of_ble_eq_true rfl | omega) only [AXS, AXB, J.dst, reduceIte, Nat.reduceEqDiff, Nat.reduceAdd, Nat.reduceMul, Nat.reduceLT, Nat.reduceLeDiff, f47r0, f47r1, f47r2, f47r3, f47r4, f47r5, f47r6, f47r7, f47r8, f47r9, f47r10, f47r11, B1.rd, eSpn])
  refine withinG g hn (S.ext e02) hc s ?_
  intro aw cw h3 W hw e3
  refine ⟨trivial, ?_⟩
  have hws := withinL_sub cs s
  have hwl := withinL_le cs s
  generalize withinL cs s = ws at *
  replace B2 := B2.ext e3
  have e03 := e02.trans e3
  try simp (config := { maxSteps := 1000000 }) (disch := first | exact Nat.le_of_ble_eq_true rfl | omega) only [AXS, AXB, J.dst, reduceIte, Nat.reduceEqDiff, Nat.reduceAdd, Nat.reduceMul, Nat.reduceLT, Nat.reduceLeDiff]
  rw [f47c3_eq]
  refine loop_in (fun n σ h' => Ext h3 h' ∧ ∃ (k c1 : Nat) (a1 : Option Addr) (acc : List Pai), k + n = ws.length ∧ acc.length ≤ k ∧ scanL t most ws [] = scanL t most (ws.drop k) acc ∧ Own h3.size h' 99 2 a1 acc.length c1 (acc.flatMap ePai) ∧
      σ = [(3, vi most), (6, ptr b2 0), (10, .slice a1 acc.length c1), (17, .slice aw ws.length cw), (18, vi ws.length), (19, vi k)]) ws.length ⟨Ext.refl _, 0, 0, none, [], by omega, by simp, rfl, Own.nil _ _ _ _, rfl⟩ ?_
  rintro m σ h4 ⟨e4, k, c1, a1, acc, hk, hak, hsc, O, rfl⟩ Q' hnx hex hrt _
  (try simp (config := { maxSteps := 1000000 }) (disch := first | exact Nat.le_of_ble_eq_true rfl | omega) only [AXS, AXB, J.dst, reduceIte, Nat.reduceEqDiff, Nat.reduceAdd, Nat.reduceMul, Nat.reduceLT, Nat.reduceLeDiff]); rw [f47c4_eq]; (try simp (config := { maxSteps := 1000000 }) (disch := first | exact Nat.le_of_ble_eq_true rfl | omega) only [AXS, AXB, J.dst, reduceIte, Nat.reduceEqDiff, Nat.reduceAdd, Nat.reduceMul, Nat.reduceLT, Nat.reduceLeDiff, f47r0, f47r1, f47r2, f47r3, f47r4, f47r5, f47r6, f47r7, f47r8, f47r9, f47r10, f47r11]); rw [f47c5_eq]; (try simp (config := { maxSteps := 1000000 }) (disch := first | exact Nat.le_of_ble_eq_true rfl | omega) only [AXS, AXB, J.dst, reduceIte, Nat.reduceEqDiff, Nat.reduceAdd, Nat.reduceMul, Nat.reduceLT, Nat.reduceLeDiff, f47r0, f47r1, f47r2, f47r3, f47r4, f47r5, f47r6, f47r7, f47r8, f47r9, f47r10, f47r11])
  refine ⟨fun hh => ?_, fun hh => ?_⟩
  · have hkl : k < ws.length := by have := of_decide_eq_true hh; omega
    obtain ⟨x, hx⟩ := get_ex hkl
    obtain ⟨b, o, v, rfl, _, hrow, hcr⟩ := (W.ext e4).elem hx
    have hdrop : ws.drop k = x :: ws.drop (k + 1) := by
      rw [List.drop_eq_getElem_cons hkl]
      rw [List.getElem?_eq_getElem hkl] at hx; cases hx; rfl
    have hxv := z4 x (hws x (List.mem_of_getElem? hx))
    rw [hdrop] at hsc
    (try simp (config := { maxSteps := 1000000 }) (disch := first | exact Nat.le_of_ble_eq_true rfl | omega) only [AXS, AXB, J.dst, reduceIte, Nat.reduceEqDiff, Nat.reduceAdd, Nat.reduceMul, Nat.reduceLT, Nat.reduceLeDiff]); rw [f47c6_eq]; (try simp (config := { maxSteps := 1000000 }) (disch := first | exact Nat.le_of_ble_eq_true rfl | omega) only [AXS, AXB, J.dst, reduceIte, Nat.reduceEqDiff, Nat.reduceAdd, Nat.reduceMul, Nat.reduceLT, Nat.reduceLeDiff, f47r0, f47r1, f47r2, f47r3, f47r4, f47r5, f47r6, f47r7, f47r8, f47r9, f47r10, f47r11, row_cv hrow]); rw [f47c7_eq]; (try simp (config := { maxSteps := 1000000 }) (disch := first | exact Nat.le_of_ble_eq_true rfl | omega) only [AXS, AXB, J.dst, reduceIte, Nat.reduceEqDiff, Nat.reduceAdd, Nat.reduceMul, Nat.reduceLT, Nat.reduceLeDiff, f47r0, f47r1, f47r2, f47r3, f47r4, f47r5, f47r6, f47r7, f47r8, f47r9, f47r10, f47r11, row_cv hrow])
    refine ⟨by omega, by omega, ?_⟩
    refine wL_newN ?_; rintro b5 h5 e5 s5 hb5 B5
    try simp (config := { maxSteps := 1000000 }) (disch := first | exact Nat.le_of_ble_eq_true rfl | omega) only [AXS, AXB, J.dst, reduceIte, Nat.reduceEqDiff, Nat.reduceAdd, Nat.reduceMul, Nat.reduceLT, Nat.reduceLeDiff]
    refine wL_stN rfl rfl rfl B5 (by decide) (eCV_one v) ?_; rintro h6 u6 (B6 : Blk _ _ _ (eCV v))
    have e6 := u6.ext e5 (by omega)
    have hs0 := e03.size
    have hs4 := e4.size
    replace B2 := B2.ext (e4.trans e6)
    have O6 : Own h3.size h6 99 2 a1 acc.length c1 (acc.flatMap ePai) := O.ext e6
    (try simp (config := { maxSteps := 1000000 }) (disch := first | exact Nat.le_of_ble_eq_true rfl | omega) only [AXS, AXB, J.dst, reduceIte, Nat.reduceEqDiff, Nat.reduceAdd, Nat.reduceMul, Nat.reduceLT, Nat.reduceLeDiff]); rw [f47c8_eq]; (try simp (config := { maxSteps := 1000000 }) (disch := first | exact Nat.le_of_ble_eq_true rfl | omega) only [AXS, AXB, J.dst, reduceIte, Nat.reduceEqDiff, Nat.reduceAdd, Nat.reduceMul, Nat.reduceLT, Nat.reduceLeDiff, f47r0, f47r1, f47r2, f47r3, f47r4, f47r5, f47r6, f47r7, f47r8, f47r9, f47r10, f47r11, B6.rd, B2.rd, eCV, eStamp])
    refine tells_ok v x t _ (hcr.ext e6) hxv ?_
    intro h7 e7
    refine ⟨trivial, ?_⟩
    replace B6 := B6.ext e7; replace O6 := O6.ext e7
    have e37 := e4.trans (e6.trans e7)
    (try simp (config := { maxSteps := 1000000 }) (disch := first | exact Nat.le_of_ble_eq_true rfl | omega) only [AXS, AXB, J.dst, reduceIte, Nat.reduceEqDiff, Nat.reduceAdd, Nat.reduceMul, Nat.reduceLT, Nat.reduceLeDiff]); rw [f47c9_eq]; (try simp (config := { maxSteps := 1000000 }) (disch := first | exact Nat.le_of_ble_eq_true rfl | omega) only [AXS, AXB, J.dst, reduceIte, Nat.reduceEqDiff, Nat.reduceAdd, Nat.reduceMul, Nat.reduceLT, Nat.reduceLeDiff, f47r0, f47r1, f47r2, f47r3, f47r4, f47r5, f47r6, f47r7, f47r8, f47r9, f47r10, f47r11]); rw [f47c10_eq]; (try simp (config := { maxSteps := 1000000 }) (disch := first | exact Nat.le_of_ble_eq_true rfl | omega) only [AXS, AXB, J.dst, reduceIte, Nat.reduceEqDiff, Nat.reduceAdd, Nat.reduceMul, Nat.reduceLT, Nat.reduceLeDiff, f47r0, f47r1, f47r2, f47r3, f47r4, f47r5, f47r6, f47r7, f47r8, f47r9, f47r10, f47r11])
    refine ⟨fun h8 => ?_, fun h8 => ?_⟩
    · have hno : (tellV x.vers t).2 = false := by simpa using h8
      (try simp (config := { maxSteps := 1000000 }) (disch := first | exact Nat.le_of_ble_eq_true rfl | omega) only [AXS, AXB, J.dst, reduceIte, Nat.reduceEqDiff, Nat.reduceAdd, Nat.reduceMul, Nat.reduceLT, Nat.reduceLeDiff]); rw [f47c15_eq]; (try simp (config := { maxSteps := 1000000 }) (disch := first | exact Nat.le_of_ble_eq_true rfl | omega) only [AXS, AXB, J.dst, reduceIte, Nat.reduceEqDiff, Nat.reduceAdd, Nat.reduceMul, Nat.reduceLT, Nat.reduceLeDiff, f47r0, f47r1, f47r2, f47r3, f47r4, f47r5, f47r6, f47r7, f47r8, f47r9, f47r10, f47r11])
      rw [i64_wrap (by omega) (by omega)]
      refine hnx (m - 1) _ _ (by omega) ⟨e37, k + 1, c1, a1, acc, by omega, by omega, ?_, O6, rfl⟩
      rw [hsc]
      show (if _ then _ else _) = _
      rw [if_pos hno]
    · have hyes : ¬ (tellV x.vers t).2 = false := by simpa using h8
      (try simp (config := { maxSteps := 1000000 }) (disch := first | exact Nat.le_of_ble_eq_true rfl | omega) only [AXS, AXB, J.dst, reduceIte, Nat.reduceEqDiff, Nat.reduceAdd, Nat.reduceMul, Nat.reduceLT, Nat.reduceLeDiff]); rw [f47c11_eq]; (try simp (config := { maxSteps := 1000000 }) (disch := first | exact Nat.le_of_ble_eq_true rfl | omega) only [AXS, AXB, J.dst, reduceIte, Nat.reduceEqDiff, Nat.reduceAdd, Nat.reduceMul, Nat.reduceLT, Nat.reduceLeDiff, f47r0, f47r1, f47r2, f47r3, f47r4, f47r5, f47r6, f47r7, f47r8, f47r9, f47r10, f47r11]); rw [f47c12_eq]; (try simp (config := { maxSteps := 1000000 }) (disch := first | exact Nat.le_of_ble_eq_true rfl | omega) only [AXS, AXB, J.dst, reduceIte, Nat.reduceEqDiff, Nat.reduceAdd, Nat.reduceMul, Nat.reduceLT, Nat.reduceLeDiff, f47r0, f47r1, f47r2, f47r3, f47r4, f47r5, f47r6, f47r7, f47r8, f47r9, f47r10, f47r11])
      refine ⟨fun h9 => ?_, fun h9 => ?_⟩
      · have hge : (acc.length : Int) ≥ most := of_decide_eq_true h9
        have hfin : scanL t most ws [] = ([], 3) := by
          rw [hsc]
          show (if _ then _ else if _ then _ else _) = _
          rw [if_neg hyes, if_pos hge]
        (try simp (config := { maxSteps := 1000000 }) (disch := first | exact Nat.le_of_ble_eq_true rfl | omega) only [AXS, AXB, J.dst, reduceIte, Nat.reduceEqDiff, Nat.reduceAdd, Nat.reduceMul, Nat.reduceLT, Nat.reduceLeDiff]); rw [f47c13_eq]; (try simp (config := { maxSteps := 1000000 }) (disch := first | exact Nat.le_of_ble_eq_true rfl | omega) only [AXS, AXB, J.dst, reduceIte, Nat.reduceEqDiff, Nat.reduceAdd, Nat.reduceMul, Nat.reduceLT, Nat.reduceLeDiff, f47r0, f47r1, f47r2, f47r3, f47r4, f47r5, f47r6, f47r7, f47r8, f47r9, f47r10, f47r11])
        refine hrt _ _ ?_
        simp (config := { maxSteps := 1000000 }) (disch := first | exact Nat.le_of_ble_eq_true rfl | omega) only [AXS, AXB, J.dst, reduceIte, Nat.reduceEqDiff, Nat.reduceAdd, Nat.reduceMul, Nat.reduceLT, Nat.reduceLeDiff]
        have := hR none 0 h7 (by rw [hfin]; exact Own.nil _ _ _ _) (e03.trans e37)
        rw [hfin] at this
        exact this
      · have hlt : ¬ (acc.length : Int) ≥ most := of_decide_eq_false h9
        have hkey := hcr.key
        (try simp (config := { maxSteps := 1000000 }) (disch := first | exact Nat.le_of_ble_eq_true rfl | omega) only [AXS, AXB, J.dst, reduceIte, Nat.reduceEqDiff, Nat.reduceAdd, Nat.reduceMul, Nat.reduceLT, Nat.reduceLeDiff]); rw [f47c14_eq]; (try simp (config := { maxSteps := 1000000 }) (disch := first | exact Nat.le_of_ble_eq_true rfl | omega) only [AXS, AXB, J.dst, reduceIte, Nat.reduceEqDiff, Nat.reduceAdd, Nat.reduceMul, Nat.reduceLT, Nat.reduceLeDiff, f47r0, f47r1, f47r2, f47r3, f47r4, f47r5, f47r6, f47r7, f47r8, f47r9, f47r10, f47r11, B6.cel, eCV, hkey])
        refine wL_bslN rfl ?_; rintro b10 h10 e10 s10 hb10 (B10 : Blk _ _ _ (ePai ⟨x.key, (tellV x.vers t).1⟩))
        try simp (config := { maxSteps := 1000000 }) (disch := first | exact Nat.le_of_ble_eq_true rfl | omega) only [AXS, AXB, J.dst, reduceIte, Nat.reduceEqDiff, Nat.reduceAdd, Nat.reduceMul, Nat.reduceLT, Nat.reduceLeDiff]
        rw [wL_raw]
        refine raw_append slT45 rfl rfl rfl (O6.ext e10) (news := ePai ⟨x.key, (tellV x.vers t).1⟩) (by rw [ePai_len]) (.inr ⟨b10, 0, rfl, B10.row⟩) (ePai_one _) (by unfold maxLen; omega) (by omega) (e37.trans e10).size ?_
        intro a11 c11 h11 O11 G11 A11
        refine ⟨trivial, ?_⟩
        have e311 : Ext h3 h11 := G11.ext (e37.trans e10) (fun j hj => (O6.ob j hj).1)
        (try simp (config := { maxSteps := 1000000 }) (disch := first | exact Nat.le_of_ble_eq_true rfl | omega) only [AXS, AXB, J.dst, reduceIte, Nat.reduceEqDiff, Nat.reduceAdd, Nat.reduceMul, Nat.reduceLT, Nat.reduceLeDiff]); rw [f47c15_eq]; (try simp (config := { maxSteps := 1000000 }) (disch := first | exact Nat.le_of_ble_eq_true rfl | omega) only [AXS, AXB, J.dst, reduceIte, Nat.reduceEqDiff, Nat.reduceAdd, Nat.reduceMul, Nat.reduceLT, Nat.reduceLeDiff, f47r0, f47r1, f47r2, f47r3, f47r4, f47r5, f47r6, f47r7, f47r8, f47r9, f47r10, f47r11])
        rw [i64_wrap (by omega) (by omega)]
        refine hnx (m - 1) _ _ (by omega) ⟨e311, k + 1, c11, a11, acc ++ [⟨x.key, (tellV x.vers t).1⟩], by omega, by simp; omega, ?_, ?_, ?_⟩
        · rw [hsc]
          show (if _ then _ else if _ then _ else _) = _
          rw [if_neg hyes, if_neg hlt]
        · simpa using O11
        · simp
  · have hkl : k = ws.length := by have := of_decide_eq_false hh; omega
    have hs0 := e03.size
    refine hex _ _ ?_
    have hfin : scanL t most ws [] = (acc, 0) := by
      rw [hsc, hkl, List.drop_length]; rfl
    (try simp (config := { maxSteps := 1000000 }) (disch := first | exact Nat.le_of_ble_eq_true rfl | omega) only [AXS, AXB, J.dst, reduceIte, Nat.reduceEqDiff, Nat.reduceAdd, Nat.reduceMul, Nat.reduceLT, Nat.reduceLeDiff]); rw [f47c16_eq]; (try simp (config := { maxSteps := 1000000 }) (disch := first | exact Nat.le_of_ble_eq_true rfl | omega) only [AXS, AXB, J.dst, reduceIte, Nat.reduceEqDiff, Nat.reduceAdd, Nat.reduceMul, Nat.reduceLT, Nat.reduceLeDiff, f47r0, f47r1, f47r2, f47r3, f47r4, f47r5, f47r6, f47r7, f47r8, f47r9, f47r10, f47r11])
    have := hR a1 c1 h4 (by rw [hfin]; exact O.mono hs0) (e03.trans e4)
    rw [hfin] at this
    exact this
end
end Go.Proofs.Ytefghfgmkndikaa
