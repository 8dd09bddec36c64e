/-
  The law MvccAny: its walk.
-/
import Derived.Test.YtefghfgmkndikaaMB
import Derived.Test.YtefghfgmkndikaaGL13
set_option linter.unusedSimpArgs false
set_option linter.unusedVariables false
namespace Go.Proofs.Ytefghfgmkndikaa
open Go Go.AX

theorem any_ok {B : Nat → Prop} {a : Option Addr} {c : Nat} (cs : List Cell) (key : ByteArray) (t : Stamp) (s : Spn) (by_ : Try4) (most : Int) (o : Op8) (h : Heap) (S : SlC B h a cs) (hn : cs.length ≤ maxLen) (hcap : cs.length ≤ c) (F : Fit cs) {R : Value → Heap → Prop}
    (hR : ∀ h', Ext h h' → R (.bool true) h') : CallsH Try.prog 13 [.slice a cs.length c, .string key, .agg (eStamp t).toArray, .agg (eSpn s).toArray, .agg (eTry by_).toArray, vi most, .agg (eOp8 o).toArray] h R := by
  have hbig : big = 1000000 := rfl
  refine f13ok (by simp) ?_
  (try simp (config := { maxSteps := 1000000 }) (disch := first | exact Nat.le_of_ble_eq_true rfl | omega) only [AXS, AXB, J.dst, reduceIte, Nat.reduceEqDiff, Nat.reduceAdd, Nat.reduceMul, Nat.reduceLT, Nat.reduceLeDiff]); rw [f13c0_eq]; (try simp (config := { maxSteps := 1000000 }) (disch := first | exact Nat.le_of_ble_eq_true rfl | omega) only [AXS, AXB, J.dst, reduceIte, Nat.reduceEqDiff, Nat.reduceAdd, Nat.reduceMul, Nat.reduceLT, Nat.reduceLeDiff, f13r0, f13r1, f13r2, f13r3, f13r4, f13r5, f13r6, f13r7, f13r8])
  refine wL_boxN rfl ?_; rintro b1 h1 e1 s1 hb1 (B1 : Blk _ _ _ (eStamp t))
  refine wL_boxN rfl ?_; rintro b2 h2 e2 s2 hb2 (B2 : Blk _ _ _ (eSpn s))
  refine wL_boxN rfl ?_; rintro b3 h3 e3 s3 hb3 (B3 : Blk _ _ _ (eTry by_))
  refine wL_boxN rfl ?_; rintro b4 h4 e4 s4 hb4 (B4 : Blk _ _ _ (eOp8 o))
  replace B1 := B1.ext (e2.trans (e3.trans e4)); replace B2 := B2.ext (e3.trans e4); replace B3 := B3.ext e4
  have e := e1.trans (e2.trans (e3.trans e4))
  (try simp (config := { maxSteps := 1000000 }) (disch := first | exact Nat.le_of_ble_eq_true rfl | omega) only [AXS, AXB, J.dst, reduceIte, Nat.reduceEqDiff, Nat.reduceAdd, Nat.reduceMul, Nat.reduceLT, Nat.reduceLeDiff]); rw [f13c1_eq]; (try simp (config := { maxSteps := 1000000 }) (disch := first | exact Nat.le_of_ble_eq_true rfl | omega) only [AXS, AXB, J.dst, reduceIte, Nat.reduceEqDiff, Nat.reduceAdd, Nat.reduceMul, Nat.reduceLT, Nat.reduceLeDiff, f13r0, f13r1, f13r2, f13r3, f13r4, f13r5, f13r6, f13r7, f13r8])
  refine begun_ok _ ?_
  intro h5 e5
  refine ⟨trivial, ?_⟩
  replace B1 := B1.ext e5; replace B2 := B2.ext e5; replace B3 := B3.ext e5; replace B4 := B4.ext e5; replace e := e.trans e5
  replace S := S.ext e
  (try simp (config := { maxSteps := 1000000 }) (disch := first | exact Nat.le_of_ble_eq_true rfl | omega) only [AXS, AXB, J.dst, reduceIte, Nat.reduceEqDiff, Nat.reduceAdd, Nat.reduceMul, Nat.reduceLT, Nat.reduceLeDiff]); rw [f13c2_eq]; (try simp (config := { maxSteps := 1000000 }) (disch := first | exact Nat.le_of_ble_eq_true rfl | omega) only [AXS, AXB, J.dst, reduceIte, Nat.reduceEqDiff, Nat.reduceAdd, Nat.reduceMul, Nat.reduceLT, Nat.reduceLeDiff, f13r0, f13r1, f13r2, f13r3, f13r4, f13r5, f13r6, f13r7, f13r8])
  rw [f13c4_eq]
  simp (config := { maxSteps := 1000000 }) (disch := first | exact Nat.le_of_ble_eq_true rfl | omega) only [AXJ, AXS, AXB, J.dst, reduceIte, Nat.reduceEqDiff, Nat.reduceAdd, Nat.reduceMul, Nat.reduceLT, Nat.reduceLeDiff, f13r3]
  refine lightC_ok cs _ S hn F ?_
  intro bl hbl _
  refine ⟨trivial, ?_⟩
  have app : ∀ (t1 : Bool) (h6 : Heap), Ext h5 h6 → (t1 = false → Sz 60 cs) → wC Try.prog f13c5 (endW [Rs.tmp 14] R) [(32, .bool t1), (0, .slice a cs.length c), (1, .string key), (5, vi most), (9, ptr b1 0), (10, ptr b2 0), (11, ptr b3 0), (13, ptr b4 0)] h6 := by
    intro t1 h6 e6 ht
    replace e := e.trans e6
    replace B1 := B1.ext e6; replace B2 := B2.ext e6; replace B3 := B3.ext e6; replace B4 := B4.ext e6; replace S := S.ext e6
    rw [f13c5_eq]
    simp (config := { maxSteps := 1000000 }) (disch := first | exact Nat.le_of_ble_eq_true rfl | omega) only [AXS, AXB, J.dst, reduceIte, Nat.reduceEqDiff, Nat.reduceAdd, Nat.reduceMul, Nat.reduceLT, Nat.reduceLeDiff]
    refine ⟨fun hh => ?_, fun hh => ?_⟩
    · (try simp (config := { maxSteps := 1000000 }) (disch := first | exact Nat.le_of_ble_eq_true rfl | omega) only [AXS, AXB, J.dst, reduceIte, Nat.reduceEqDiff, Nat.reduceAdd, Nat.reduceMul, Nat.reduceLT, Nat.reduceLeDiff]); rw [f13c6_eq]; (try simp (config := { maxSteps := 1000000 }) (disch := first | exact Nat.le_of_ble_eq_true rfl | omega) only [AXS, AXB, J.dst, reduceIte, Nat.reduceEqDiff, Nat.reduceAdd, Nat.reduceMul, Nat.reduceLT, Nat.reduceLeDiff, f13r0, f13r1, f13r2, f13r3, f13r4, f13r5, f13r6, f13r7, f13r8])
      exact hR _ e
    have hz := ht hh
    obtain ⟨z1, z2, z3, z4, z5, z6⟩ := szAll hz (by omega)
    (try simp (config := { maxSteps := 1000000 }) (disch := first | exact Nat.le_of_ble_eq_true rfl | omega) only [AXS, AXB, J.dst, reduceIte, Nat.reduceEqDiff, Nat.reduceAdd, Nat.reduceMul, Nat.reduceLT, Nat.reduceLeDiff]); rw [f13c7_eq]; (try simp (config := { maxSteps := 1000000 }) (disch := first | exact Nat.le_of_ble_eq_true rfl | omega) only [AXS, AXB, J.dst, reduceIte, Nat.reduceEqDiff, Nat.reduceAdd, Nat.reduceMul, Nat.reduceLT, Nat.reduceLeDiff, f13r0, f13r1, f13r2, f13r3, f13r4, f13r5, f13r6, f13r7, f13r8])
    refine rmay_ok cs _ S z5 z6 ?_
    intro b hb h7 e7
    refine ⟨trivial, ?_⟩
    replace e := e.trans e7
    replace B1 := B1.ext e7; replace B2 := B2.ext e7; replace B3 := B3.ext e7; replace B4 := B4.ext e7; replace S := S.ext e7
    (try simp (config := { maxSteps := 1000000 }) (disch := first | exact Nat.le_of_ble_eq_true rfl | omega) only [AXS, AXB, J.dst, reduceIte, Nat.reduceEqDiff, Nat.reduceAdd, Nat.reduceMul, Nat.reduceLT, Nat.reduceLeDiff]); rw [f13c8_eq]; (try simp (config := { maxSteps := 1000000 }) (disch := first | exact Nat.le_of_ble_eq_true rfl | omega) only [AXS, AXB, J.dst, reduceIte, Nat.reduceEqDiff, Nat.reduceAdd, Nat.reduceMul, Nat.reduceLT, Nat.reduceLeDiff, f13r0, f13r1, f13r2, f13r3, f13r4, f13r5, f13r6, f13r7, f13r8])
    refine ⟨fun hm => ?_, fun hm => ?_⟩
    · have hm : b = false := by simpa using hm
      subst hm
      (try simp (config := { maxSteps := 1000000 }) (disch := first | exact Nat.le_of_ble_eq_true rfl | omega) only [AXS, AXB, J.dst, reduceIte, Nat.reduceEqDiff, Nat.reduceAdd, Nat.reduceMul, Nat.reduceLT, Nat.reduceLeDiff]); rw [f13c9_eq]; (try simp (config := { maxSteps := 1000000 }) (disch := first | exact Nat.le_of_ble_eq_true rfl | omega) only [AXS, AXB, J.dst, reduceIte, Nat.reduceEqDiff, Nat.reduceAdd, Nat.reduceMul, Nat.reduceLT, Nat.reduceLeDiff, f13r0, f13r1, f13r2, f13r3, f13r4, f13r5, f13r6, f13r7, f13r8])
      refine may_ok cs _ S z5 z6 ?_
      intro b' hb' h8 e8
      refine ⟨trivial, ?_⟩
      have : b' = false := by
        cases b' with
        | false => rfl
        | true => have := hb.2 (hb'.1 rfl); cases this
      subst this
      simp (config := { maxSteps := 1000000 }) (disch := first | exact Nat.le_of_ble_eq_true rfl | omega) only [AXS, AXB, J.dst, reduceIte, Nat.reduceEqDiff, Nat.reduceAdd, Nat.reduceMul, Nat.reduceLT, Nat.reduceLeDiff]
      exact hR _ (e.trans e8)
    · have hm : b = true := by simpa using hm
      have g : Gd 60 cs := ⟨(mayP_iff cs).1 (hb.1 hm), hz⟩
      (try simp (config := { maxSteps := 1000000 }) (disch := first | exact Nat.le_of_ble_eq_true rfl | omega) only [AXS, AXB, J.dst, reduceIte, Nat.reduceEqDiff, Nat.reduceAdd, Nat.reduceMul, Nat.reduceLT, Nat.reduceLeDiff]); rw [f13c10_eq]; (try simp (config := { maxSteps := 1000000 }) (disch := first | exact Nat.le_of_ble_eq_true rfl | omega) only [AXS, AXB, J.dst, reduceIte, Nat.reduceEqDiff, Nat.reduceAdd, Nat.reduceMul, Nat.reduceLT, Nat.reduceLeDiff, f13r0, f13r1, f13r2, f13r3, f13r4, f13r5, f13r6, f13r7, f13r8, B4.rd])
      refine doG g (by omega) S o ?_
      rw [rdoL_eq g.good]
      intro ax cx ay ny cy h8 g8 O8 Oy e8
      refine ⟨trivial, ?_⟩
      obtain rfl := OwnC.len Oy
      replace e := e.trans e8
      replace B1 := B1.ext e8; replace B2 := B2.ext e8; replace B3 := B3.ext e8; replace S := S.ext e8
      (try simp (config := { maxSteps := 1000000 }) (disch := first | exact Nat.le_of_ble_eq_true rfl | omega) only [AXS, AXB, J.dst, reduceIte, Nat.reduceEqDiff, Nat.reduceAdd, Nat.reduceMul, Nat.reduceLT, Nat.reduceLeDiff]); rw [f13c11_eq]; (try simp (config := { maxSteps := 1000000 }) (disch := first | exact Nat.le_of_ble_eq_true rfl | omega) only [AXS, AXB, J.dst, reduceIte, Nat.reduceEqDiff, Nat.reduceAdd, Nat.reduceMul, Nat.reduceLT, Nat.reduceLeDiff, f13r0, f13r1, f13r2, f13r3, f13r4, f13r5, f13r6, f13r7, f13r8, B1.rd, B2.rd, B3.rd, eStamp, eSpn, eTry])
      refine toldG g (by omega) S hcap key t s by_ most ?_
      intro h9 e9
      refine ⟨trivial, ?_⟩
      simp (config := { maxSteps := 1000000 }) (disch := first | exact Nat.le_of_ble_eq_true rfl | omega) only [AXJ, AXS, AXB, J.dst, reduceIte, Nat.reduceEqDiff, Nat.reduceAdd, Nat.reduceMul, Nat.reduceLT, Nat.reduceLeDiff]
      refine sameG g8 (by omega) (O8.slc.ext e9) (Oy.slc.ext e9) rfl ?_
      intro h10 e10
      refine ⟨trivial, ?_⟩
      simp (config := { maxSteps := 1000000 }) (disch := first | exact Nat.le_of_ble_eq_true rfl | omega) only [AXJ, AXS, AXB, J.dst, reduceIte, Nat.reduceEqDiff, Nat.reduceAdd, Nat.reduceMul, Nat.reduceLT, Nat.reduceLeDiff, f13r8a]
      exact hR _ (e.trans (e9.trans e10))
  cases bl with
  | false =>
    simp (config := { maxSteps := 1000000 }) (disch := first | exact Nat.le_of_ble_eq_true rfl | omega) only [AXJ, AXS, AXB, J.dst, reduceIte, Nat.reduceEqDiff, Nat.reduceAdd, Nat.reduceMul, Nat.reduceLT, Nat.reduceLeDiff, f13r3, f13r3a]
    exact app true h5 (Ext.refl _) (fun h => by cases h)
  | true =>
    simp (config := { maxSteps := 1000000 }) (disch := first | exact Nat.le_of_ble_eq_true rfl | omega) only [AXJ, AXS, AXB, J.dst, reduceIte, Nat.reduceEqDiff, Nat.reduceAdd, Nat.reduceMul, Nat.reduceLT, Nat.reduceLeDiff, f13r3]
    cases hk : decide ((key.size : Int) > 100) with
    | true =>
      simp (config := { maxSteps := 1000000 }) (disch := first | exact Nat.le_of_ble_eq_true rfl | omega) only [AXJ, AXS, AXB, J.dst, reduceIte, Nat.reduceEqDiff, Nat.reduceAdd, Nat.reduceMul, Nat.reduceLT, Nat.reduceLeDiff, f13r3a]
      exact app true h5 (Ext.refl _) (fun h => by cases h)
    | false =>
      simp (config := { maxSteps := 1000000 }) (disch := first | exact Nat.le_of_ble_eq_true rfl | omega) only [AXJ, AXS, AXB, J.dst, reduceIte, Nat.reduceEqDiff, Nat.reduceAdd, Nat.reduceMul, Nat.reduceLT, Nat.reduceLeDiff, f13r3a, B4.rd]
      refine wL_bslN rfl ?_; rintro b6 h6 e6 s6 hb6 (B6 : Blk _ _ _ (eOp8 o))
      try simp (config := { maxSteps := 1000000 }) (disch := first | exact Nat.le_of_ble_eq_true rfl | omega) only [AXJ, AXS, AXB, J.dst, reduceIte, Nat.reduceEqDiff, Nat.reduceAdd, Nat.reduceMul, Nat.reduceLT, Nat.reduceLeDiff]
      refine light_ok (B := fun _ => True) (a := some ⟨b6, 0, none⟩) [o] 1 _ ?_ (by simp [maxLen]) ?_
      · intro _
        refine ⟨b6, 0, rfl, trivial, ?_⟩
        simpa using B6.row
      refine ⟨trivial, ?_⟩
      simp (config := { maxSteps := 1000000 }) (disch := first | exact Nat.le_of_ble_eq_true rfl | omega) only [AXJ, AXS, AXB, J.dst, reduceIte, Nat.reduceEqDiff, Nat.reduceAdd, Nat.reduceMul, Nat.reduceLT, Nat.reduceLeDiff]
      exact app _ h6 e6 (fun _ => hbl rfl)
end Go.Proofs.Ytefghfgmkndikaa
