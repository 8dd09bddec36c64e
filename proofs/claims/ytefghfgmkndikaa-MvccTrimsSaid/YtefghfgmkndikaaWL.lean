/-
  Walks: whether two lists of cells are the same.
-/
import Derived.Test.YtefghfgmkndikaaPR
import Derived.Test.YtefghfgmkndikaaGF
set_option linter.unusedSimpArgs false
set_option linter.unusedVariables false
namespace Go.Proofs.Ytefghfgmkndikaa
open Go Go.AX

theorem cell_eq_iff (x y : Cell) : x = y ↔ x.key = y.key ∧ x.locked = y.locked ∧ x.lock = y.lock ∧ x.vers = y.vers := by
  constructor
  · rintro rfl; simp
  · rintro ⟨h1, h2, h3, h4⟩
    cases x; cases y; simp_all
theorem list_eq_iff {α : Type} {l m : List α} (hl : l.length = m.length) (h : ∀ (i : Nat) (a b : α), l[i]? = some a → m[i]? = some b → a = b) : l = m := by
  apply List.ext_getElem hl
  intro i h1 h2
  exact h i _ _ (List.getElem?_eq_getElem h1) (List.getElem?_eq_getElem h2)
theorem eqA_ver (neg : Bool) (s t : Ver) : eqA neg [.i .i64, .i .i64, .b, .s] (.agg (eVer s).toArray) (.agg (eVer t).toArray) = some (.bool (if neg then !decide (s = t) else decide (s = t))) := by
  obtain ⟨⟨a1, a2⟩, b1, c1⟩ := s
  obtain ⟨⟨a1', a2'⟩, b1', c1'⟩ := t
  have : (a1 == a1' && (a2 == a2' && (b1 == b1' && c1.toList == c1'.toList))) = decide ((⟨⟨a1, a2⟩, b1, c1⟩ : Ver) = ⟨⟨a1', a2'⟩, b1', c1'⟩) := by
    rw [keq_iff, Bool.eq_iff_iff]; simp [and_assoc]
  simp only [eqA, eVer, eqKds, eqKd, and_self, if_true, Option.bind_some, Option.map_some, Bool.and_true, this]
theorem eqA_verN (s t : Ver) : eqA true [.i .i64, .i .i64, .b, .s] (.agg (eVer s).toArray) (.agg (eVer t).toArray) = some (.bool (!decide (s = t))) := eqA_ver true s t

theorem eqA_lck2 (s t : Lck) : eqA true [.i .i64, .i .i64, .i .i64, .i .i64, .i .i64, .i .i64, .i .i64, .b, .s] (.agg #[vi s.by_.node, vi s.by_.life, vi s.by_.seq, vi s.by_.attempt, vi s.home, vi s.at_.wall, vi s.at_.tie, .bool s.drop, .string s.data])
    (.agg #[vi t.by_.node, vi t.by_.life, vi t.by_.seq, vi t.by_.attempt, vi t.home, vi t.at_.wall, vi t.at_.tie, .bool t.drop, .string t.data]) = some (.bool (!decide (s = t))) := eqA_lckN s t

theorem same_ok {B B' : Nat → Prop} {a a' : Option Addr} {c c' : Nat} (cs ds : List Cell) (h : Heap) (S : SlC B h a cs) (S' : SlC B' h a' ds) (hn : cs.length ≤ big) (F : ∀ c ∈ cs, c.vers.length ≤ big) {R : Value → Heap → Prop}
    (hR : ∀ b, (b = true ↔ cs = ds) → ∀ h', Ext h h' → R (.bool b) h') : CallsH Try.prog 43 [.slice a cs.length c, .slice a' ds.length c'] h R := by
  have hbig : big = 1000000 := rfl
  refine f43ok (by simp) ?_
  (try simp (config := { maxSteps := 1000000 }) (disch := first | exact Nat.le_of_ble_eq_true rfl | omega) only [AXS, AXB, J.dst, reduceIte, Nat.reduceEqDiff, Nat.reduceAdd, Nat.reduceMul, Nat.reduceLT, Nat.reduceLeDiff]); rw [f43c0_eq]; (try simp (config := { maxSteps := 1000000 }) (disch := first | exact Nat.le_of_ble_eq_true rfl | omega) only [AXS, AXB, J.dst, reduceIte, Nat.reduceEqDiff, Nat.reduceAdd, Nat.reduceMul, Nat.reduceLT, Nat.reduceLeDiff, f43r0, f43r1, f43r2, f43r3, f43r4, f43r5, f43r6, f43r7, f43r8, f43r9, f43r10, f43r11, f43r12, f43r13, f43r14]); rw [f43c1_eq]; (try simp (config := { maxSteps := 1000000 }) (disch := first | exact Nat.le_of_ble_eq_true rfl | omega) only [AXS, AXB, J.dst, reduceIte, Nat.reduceEqDiff, Nat.reduceAdd, Nat.reduceMul, Nat.reduceLT, Nat.reduceLeDiff, f43r0, f43r1, f43r2, f43r3, f43r4, f43r5, f43r6, f43r7, f43r8, f43r9, f43r10, f43r11, f43r12, f43r13, f43r14]); rw [f43c2_eq]; (try simp (config := { maxSteps := 1000000 }) (disch := first | exact Nat.le_of_ble_eq_true rfl | omega) only [AXS, AXB, J.dst, reduceIte, Nat.reduceEqDiff, Nat.reduceAdd, Nat.reduceMul, Nat.reduceLT, Nat.reduceLeDiff, f43r0, f43r1, f43r2, f43r3, f43r4, f43r5, f43r6, f43r7, f43r8, f43r9, f43r10, f43r11, f43r12, f43r13, f43r14])
  refine ⟨fun hh => ?_, fun hh => ?_⟩
  · (try simp (config := { maxSteps := 1000000 }) (disch := first | exact Nat.le_of_ble_eq_true rfl | omega) only [AXS, AXB, J.dst, reduceIte, Nat.reduceEqDiff, Nat.reduceAdd, Nat.reduceMul, Nat.reduceLT, Nat.reduceLeDiff]); rw [f43c3_eq]; (try simp (config := { maxSteps := 1000000 }) (disch := first | exact Nat.le_of_ble_eq_true rfl | omega) only [AXS, AXB, J.dst, reduceIte, Nat.reduceEqDiff, Nat.reduceAdd, Nat.reduceMul, Nat.reduceLT, Nat.reduceLeDiff, f43r0, f43r1, f43r2, f43r3, f43r4, f43r5, f43r6, f43r7, f43r8, f43r9, f43r10, f43r11, f43r12, f43r13, f43r14])
    refine hR false ⟨fun h => (by cases h), fun h => ?_⟩ _ (Ext.refl _)
    subst h; simp at hh
  have hlen : cs.length = ds.length := Int.ofNat.inj (by simpa using hh)
  (try simp (config := { maxSteps := 1000000 }) (disch := first | exact Nat.le_of_ble_eq_true rfl | omega) only [AXS, AXB, J.dst, reduceIte, Nat.reduceEqDiff, Nat.reduceAdd, Nat.reduceMul, Nat.reduceLT, Nat.reduceLeDiff]); rw [f43c4_eq]; (try simp (config := { maxSteps := 1000000 }) (disch := first | exact Nat.le_of_ble_eq_true rfl | omega) only [AXS, AXB, J.dst, reduceIte, Nat.reduceEqDiff, Nat.reduceAdd, Nat.reduceMul, Nat.reduceLT, Nat.reduceLeDiff, f43r0, f43r1, f43r2, f43r3, f43r4, f43r5, f43r6, f43r7, f43r8, f43r9, f43r10, f43r11, f43r12, f43r13, f43r14])
  rw [f43c5_eq]
  refine loop_in (fun n σ h' => Ext h h' ∧ ∃ k : Nat, k + n = cs.length ∧ σ = [(0, .slice a cs.length c), (1, .slice a' ds.length c'), (5, vi k)] ∧ ∀ j x y, j < k → cs[j]? = some x → ds[j]? = some y → x = y) cs.length ⟨Ext.refl _, 0, by omega, rfl, by intros; omega⟩ ?_
  rintro n σ h1 ⟨e1, k, hk, rfl, hok⟩ Q' hnx hex hrt _
  (try simp (config := { maxSteps := 1000000 }) (disch := first | exact Nat.le_of_ble_eq_true rfl | omega) only [AXS, AXB, J.dst, reduceIte, Nat.reduceEqDiff, Nat.reduceAdd, Nat.reduceMul, Nat.reduceLT, Nat.reduceLeDiff]); rw [f43c6_eq]; (try simp (config := { maxSteps := 1000000 }) (disch := first | exact Nat.le_of_ble_eq_true rfl | omega) only [AXS, AXB, J.dst, reduceIte, Nat.reduceEqDiff, Nat.reduceAdd, Nat.reduceMul, Nat.reduceLT, Nat.reduceLeDiff, f43r0, f43r1, f43r2, f43r3, f43r4, f43r5, f43r6, f43r7, f43r8, f43r9, f43r10, f43r11, f43r12, f43r13, f43r14]); rw [f43c7_eq]; (try simp (config := { maxSteps := 1000000 }) (disch := first | exact Nat.le_of_ble_eq_true rfl | omega) only [AXS, AXB, J.dst, reduceIte, Nat.reduceEqDiff, Nat.reduceAdd, Nat.reduceMul, Nat.reduceLT, Nat.reduceLeDiff, f43r0, f43r1, f43r2, f43r3, f43r4, f43r5, f43r6, f43r7, f43r8, f43r9, f43r10, f43r11, f43r12, f43r13, f43r14])
  refine ⟨fun h2 => ?_, fun h2 => ?_⟩
  · have hkl : k < cs.length := by have := of_decide_eq_true h2; omega
    obtain ⟨x, hx⟩ := get_ex hkl
    obtain ⟨y, hy⟩ := get_ex (l := ds) (k := k) (by omega)
    obtain ⟨b, o, v, rfl, _, hrow, hcr⟩ := (S.ext e1).elem hx
    obtain ⟨b', o', v', rfl, _, hrow', hcr'⟩ := (S'.ext e1).elem hy
    have hlb := hrow.lt (by rw [eCV_len]; omega)
    have hlb' := hrow'.lt (by rw [eCV_len]; omega)
    have hno : x ≠ y → ∀ h8, Ext h1 h8 → Q' .ret [(4, .bool false)] h8 := fun hne h8 e8 => hrt _ _ (by
      try simp (config := { maxSteps := 1000000 }) (disch := first | exact Nat.le_of_ble_eq_true rfl | omega) only [AXS, AXB, J.dst, reduceIte, Nat.reduceEqDiff, Nat.reduceAdd, Nat.reduceMul, Nat.reduceLT, Nat.reduceLeDiff]
      refine hR false ⟨fun h => (by cases h), fun h => ?_⟩ _ (e1.trans e8)
      subst h
      rw [hx] at hy; cases hy
      exact absurd rfl hne)
    -- behind the two new variables
    have mid : ∀ (h5 : Heap) (b6 b7 : Nat), Ext h1 h5 → Blk h5 b6 103 (eCV v) → Blk h5 b7 103 (eCV v') →
        wC Try.prog f43c10 (X.inBlock 1 (X.then (fun σ h => wC Try.prog f43c22 Q' σ h) Q')) [(0, .slice (some ⟨b, o, none⟩) cs.length c), (1, .slice (some ⟨b', o', none⟩) ds.length c'), (5, vi k), (6, ptr b6 0), (7, ptr b7 0)] h5 := by
      intro h5 b6 b7 e5 B6 B7
      have h1k := hcr.key
      have h2k := hcr'.key
      have h1l := hcr.locked
      have h2l := hcr'.locked
      have h1o := hcr.lock
      have h2o := hcr'.lock
      have h1v := hcr.vn
      have h2v := hcr'.vn
      rw [f43c10_eq]
      simp (config := { maxSteps := 1000000 }) (disch := first | exact Nat.le_of_ble_eq_true rfl | omega) only [AXJ, AXS, AXB, J.dst, reduceIte, Nat.reduceEqDiff, Nat.reduceAdd, Nat.reduceMul, Nat.reduceLT, Nat.reduceLeDiff, f43r6, B6.cel, B7.cel, eCV, h1k, h2k, h1l, h2l, keq_iff]
      simp (config := { maxSteps := 1000000 }) (disch := first | exact Nat.le_of_ble_eq_true rfl | omega) only [AXJ, AXS, AXB, J.dst, reduceIte, Nat.reduceEqDiff, Nat.reduceAdd, Nat.reduceMul, Nat.reduceLT, Nat.reduceLeDiff, f43r6a, B6.rd, B7.rd, eCV, h1o, h2o, eqA_lck2]
      simp (config := { maxSteps := 1000000 }) (disch := first | exact Nat.le_of_ble_eq_true rfl | omega) only [AXJ, AXS, AXB, J.dst, reduceIte, Nat.reduceEqDiff, Nat.reduceAdd, Nat.reduceMul, Nat.reduceLT, Nat.reduceLeDiff, f43r6b, B6.cel, B7.cel, eCV, h1v, h2v]
      have ht : ((!decide (x.key = y.key) || !x.locked == y.locked || !decide (x.lock = y.lock) || (x.vers.length : Int) != y.vers.length) = false) ↔ (x.key = y.key ∧ x.locked = y.locked ∧ x.lock = y.lock ∧ x.vers.length = y.vers.length) := by
        simp [and_assoc]
        omega
      revert ht
      generalize (!decide (x.key = y.key) || !x.locked == y.locked || !decide (x.lock = y.lock) || (x.vers.length : Int) != y.vers.length) = t
      intro ht
      cases t with
      | true =>
        (try simp (config := { maxSteps := 1000000 }) (disch := first | exact Nat.le_of_ble_eq_true rfl | omega) only [AXS, AXB, J.dst, reduceIte, Nat.reduceEqDiff, Nat.reduceAdd, Nat.reduceMul, Nat.reduceLT, Nat.reduceLeDiff]); rw [f43c11_eq]; (try simp (config := { maxSteps := 1000000 }) (disch := first | exact Nat.le_of_ble_eq_true rfl | omega) only [AXS, AXB, J.dst, reduceIte, Nat.reduceEqDiff, Nat.reduceAdd, Nat.reduceMul, Nat.reduceLT, Nat.reduceLeDiff, f43r0, f43r1, f43r2, f43r3, f43r4, f43r5, f43r6, f43r7, f43r8, f43r9, f43r10, f43r11, f43r12, f43r13, f43r14]); rw [f43c12_eq]; (try simp (config := { maxSteps := 1000000 }) (disch := first | exact Nat.le_of_ble_eq_true rfl | omega) only [AXS, AXB, J.dst, reduceIte, Nat.reduceEqDiff, Nat.reduceAdd, Nat.reduceMul, Nat.reduceLT, Nat.reduceLeDiff, f43r0, f43r1, f43r2, f43r3, f43r4, f43r5, f43r6, f43r7, f43r8, f43r9, f43r10, f43r11, f43r12, f43r13, f43r14])
        refine hno ?_ _ e5
        rintro rfl
        have := ht.2 ⟨rfl, rfl, rfl, rfl⟩
        cases this
      | false =>
        obtain ⟨q1, q2, q3, q4⟩ := ht.1 rfl
        have SV := hcr.vers.ext e5
        have SV' := hcr'.vers.ext e5
        have hvl := F x (List.mem_of_getElem? hx)
        (try simp (config := { maxSteps := 1000000 }) (disch := first | exact Nat.le_of_ble_eq_true rfl | omega) only [AXS, AXB, J.dst, reduceIte, Nat.reduceEqDiff, Nat.reduceAdd, Nat.reduceMul, Nat.reduceLT, Nat.reduceLeDiff]); rw [f43c11_eq]; (try simp (config := { maxSteps := 1000000 }) (disch := first | exact Nat.le_of_ble_eq_true rfl | omega) only [AXS, AXB, J.dst, reduceIte, Nat.reduceEqDiff, Nat.reduceAdd, Nat.reduceMul, Nat.reduceLT, Nat.reduceLeDiff, f43r0, f43r1, f43r2, f43r3, f43r4, f43r5, f43r6, f43r7, f43r8, f43r9, f43r10, f43r11, f43r12, f43r13, f43r14]); rw [f43c13_eq]; (try simp (config := { maxSteps := 1000000 }) (disch := first | exact Nat.le_of_ble_eq_true rfl | omega) only [AXS, AXB, J.dst, reduceIte, Nat.reduceEqDiff, Nat.reduceAdd, Nat.reduceMul, Nat.reduceLT, Nat.reduceLeDiff, f43r0, f43r1, f43r2, f43r3, f43r4, f43r5, f43r6, f43r7, f43r8, f43r9, f43r10, f43r11, f43r12, f43r13, f43r14])
        rw [f43c14_eq]
        refine loop_in1 (fun n' σ h' => Ext h5 h' ∧ ∃ i : Nat, i + n' = x.vers.length ∧ σ = [(0, .slice (some ⟨b, o, none⟩) cs.length c), (1, .slice (some ⟨b', o', none⟩) ds.length c'), (5, vi k), (6, ptr b6 0), (7, ptr b7 0), (8, vi i)] ∧
          ∀ j w w', j < i → x.vers[j]? = some w → y.vers[j]? = some w' → w = w') x.vers.length ⟨Ext.refl _, 0, by omega, rfl, by intros; omega⟩ ?_
        rintro n2 σ h6 ⟨e6, i, hi, rfl, hokv⟩ Q2 hnx2 hex2 hrt2 _
        replace B6 := B6.ext e6
        replace B7 := B7.ext e6
        (try simp (config := { maxSteps := 1000000 }) (disch := first | exact Nat.le_of_ble_eq_true rfl | omega) only [AXS, AXB, J.dst, reduceIte, Nat.reduceEqDiff, Nat.reduceAdd, Nat.reduceMul, Nat.reduceLT, Nat.reduceLeDiff]); rw [f43c15_eq]; (try simp (config := { maxSteps := 1000000 }) (disch := first | exact Nat.le_of_ble_eq_true rfl | omega) only [AXS, AXB, J.dst, reduceIte, Nat.reduceEqDiff, Nat.reduceAdd, Nat.reduceMul, Nat.reduceLT, Nat.reduceLeDiff, f43r0, f43r1, f43r2, f43r3, f43r4, f43r5, f43r6, f43r7, f43r8, f43r9, f43r10, f43r11, f43r12, f43r13, f43r14, B6.cel, eCV, h1v])
        (try simp (config := { maxSteps := 1000000 }) (disch := first | exact Nat.le_of_ble_eq_true rfl | omega) only [AXS, AXB, J.dst, reduceIte, Nat.reduceEqDiff, Nat.reduceAdd, Nat.reduceMul, Nat.reduceLT, Nat.reduceLeDiff]); rw [f43c16_eq]; (try simp (config := { maxSteps := 1000000 }) (disch := first | exact Nat.le_of_ble_eq_true rfl | omega) only [AXS, AXB, J.dst, reduceIte, Nat.reduceEqDiff, Nat.reduceAdd, Nat.reduceMul, Nat.reduceLT, Nat.reduceLeDiff, f43r0, f43r1, f43r2, f43r3, f43r4, f43r5, f43r6, f43r7, f43r8, f43r9, f43r10, f43r11, f43r12, f43r13, f43r14])
        refine ⟨fun h7 => ?_, fun h7 => ?_⟩
        · have hil : i < x.vers.length := by have := of_decide_eq_true h7; omega
          obtain ⟨w, hw⟩ := get_ex hil
          obtain ⟨w', hw'⟩ := get_ex (l := y.vers) (k := i) (by omega)
          obtain ⟨vb, vo, hva, _, hrowv⟩ := (SV.ext e6).elem eVer_len hw
          obtain ⟨vb', vo', hva', _, hrowv'⟩ := (SV'.ext e6).elem eVer_len hw'
          have l1 := hrowv.lt (by rw [eVer_len]; omega)
          have l2 := hrowv'.lt (by rw [eVer_len]; omega)
          have l3 := B6.lt
          have l4 := B7.lt
          (try simp (config := { maxSteps := 1000000 }) (disch := first | exact Nat.le_of_ble_eq_true rfl | omega) only [AXS, AXB, J.dst, reduceIte, Nat.reduceEqDiff, Nat.reduceAdd, Nat.reduceMul, Nat.reduceLT, Nat.reduceLeDiff]); rw [f43c17_eq]; (try simp (config := { maxSteps := 1000000 }) (disch := first | exact Nat.le_of_ble_eq_true rfl | omega) only [AXS, AXB, J.dst, reduceIte, Nat.reduceEqDiff, Nat.reduceAdd, Nat.reduceMul, Nat.reduceLT, Nat.reduceLeDiff, f43r0, f43r1, f43r2, f43r3, f43r4, f43r5, f43r6, f43r7, f43r8, f43r9, f43r10, f43r11, f43r12, f43r13, f43r14])
          rw [f43c18_eq]
          refine drw_lt ?_
          simp (config := { maxSteps := 1000000 }) (disch := first | exact Nat.le_of_ble_eq_true rfl | omega) only [AXS, AXB, J.dst, reduceIte, Nat.reduceEqDiff, Nat.reduceAdd, Nat.reduceMul, Nat.reduceLT, Nat.reduceLeDiff, f43r10, B6.cel, B7.cel, eCV, h1v, h2v, hva, hva', row_ver hrowv, row_ver hrowv', eqA_verN]
          refine ⟨by omega, by omega, by omega, by omega, by omega, by omega, by omega, by omega, ?_⟩
          (try simp (config := { maxSteps := 1000000 }) (disch := first | exact Nat.le_of_ble_eq_true rfl | omega) only [AXS, AXB, J.dst, reduceIte, Nat.reduceEqDiff, Nat.reduceAdd, Nat.reduceMul, Nat.reduceLT, Nat.reduceLeDiff]); rw [f43c19_eq]; (try simp (config := { maxSteps := 1000000 }) (disch := first | exact Nat.le_of_ble_eq_true rfl | omega) only [AXS, AXB, J.dst, reduceIte, Nat.reduceEqDiff, Nat.reduceAdd, Nat.reduceMul, Nat.reduceLT, Nat.reduceLeDiff, f43r0, f43r1, f43r2, f43r3, f43r4, f43r5, f43r6, f43r7, f43r8, f43r9, f43r10, f43r11, f43r12, f43r13, f43r14])
          refine ⟨fun h8 => ?_, fun h8 => ?_⟩
          · have hne : ¬ w = w' := by simpa using h8
            (try simp (config := { maxSteps := 1000000 }) (disch := first | exact Nat.le_of_ble_eq_true rfl | omega) only [AXS, AXB, J.dst, reduceIte, Nat.reduceEqDiff, Nat.reduceAdd, Nat.reduceMul, Nat.reduceLT, Nat.reduceLeDiff]); rw [f43c20_eq]; (try simp (config := { maxSteps := 1000000 }) (disch := first | exact Nat.le_of_ble_eq_true rfl | omega) only [AXS, AXB, J.dst, reduceIte, Nat.reduceEqDiff, Nat.reduceAdd, Nat.reduceMul, Nat.reduceLT, Nat.reduceLeDiff, f43r0, f43r1, f43r2, f43r3, f43r4, f43r5, f43r6, f43r7, f43r8, f43r9, f43r10, f43r11, f43r12, f43r13, f43r14])
            refine hrt2 _ _ ?_
            simp (config := { maxSteps := 1000000 }) (disch := first | exact Nat.le_of_ble_eq_true rfl | omega) only [AXS, AXB, J.dst, reduceIte, Nat.reduceEqDiff, Nat.reduceAdd, Nat.reduceMul, Nat.reduceLT, Nat.reduceLeDiff]
            refine hno ?_ _ (e5.trans e6)
            rintro rfl
            rw [hw] at hw'; cases hw'
            exact hne rfl
          · have he : w = w' := by simpa using h8
            (try simp (config := { maxSteps := 1000000 }) (disch := first | exact Nat.le_of_ble_eq_true rfl | omega) only [AXS, AXB, J.dst, reduceIte, Nat.reduceEqDiff, Nat.reduceAdd, Nat.reduceMul, Nat.reduceLT, Nat.reduceLeDiff]); rw [f43c21_eq]; (try simp (config := { maxSteps := 1000000 }) (disch := first | exact Nat.le_of_ble_eq_true rfl | omega) only [AXS, AXB, J.dst, reduceIte, Nat.reduceEqDiff, Nat.reduceAdd, Nat.reduceMul, Nat.reduceLT, Nat.reduceLeDiff, f43r0, f43r1, f43r2, f43r3, f43r4, f43r5, f43r6, f43r7, f43r8, f43r9, f43r10, f43r11, f43r12, f43r13, f43r14])
            rw [i64_wrap (by omega) (by omega)]
            refine hnx2 (n2 - 1) _ _ (by omega) ⟨e6, i + 1, by omega, rfl, ?_⟩
            intro j u u' hj hu hu'
            rcases Nat.lt_or_ge j i with hlt | hge
            · exact hokv j u u' hlt hu hu'
            · have : j = i := by omega
              subst this
              rw [hw] at hu; cases hu
              rw [hw'] at hu'; cases hu'
              exact he
        · have hil : i = x.vers.length := by have := of_decide_eq_false h7; omega
          refine hex2 _ _ ?_
          (try simp (config := { maxSteps := 1000000 }) (disch := first | exact Nat.le_of_ble_eq_true rfl | omega) only [AXS, AXB, J.dst, reduceIte, Nat.reduceEqDiff, Nat.reduceAdd, Nat.reduceMul, Nat.reduceLT, Nat.reduceLeDiff]); rw [f43c22_eq]; (try simp (config := { maxSteps := 1000000 }) (disch := first | exact Nat.le_of_ble_eq_true rfl | omega) only [AXS, AXB, J.dst, reduceIte, Nat.reduceEqDiff, Nat.reduceAdd, Nat.reduceMul, Nat.reduceLT, Nat.reduceLeDiff, f43r0, f43r1, f43r2, f43r3, f43r4, f43r5, f43r6, f43r7, f43r8, f43r9, f43r10, f43r11, f43r12, f43r13, f43r14])
          rw [i64_wrap (by omega) (by omega)]
          refine hnx (n - 1) _ _ (by omega) ⟨e1.trans (e5.trans e6), k + 1, by omega, rfl, ?_⟩
          intro j u u' hj hu hu'
          rcases Nat.lt_or_ge j k with hlt | hge
          · exact hok j u u' hlt hu hu'
          · have : j = k := by omega
            subst this
            rw [hx] at hu; cases hu
            rw [hy] at hu'; cases hu'
            exact (cell_eq_iff _ _).2 ⟨q1, q2, q3, list_eq_iff q4 fun m w w' hw hw' => hokv m w w' (by have := (List.getElem?_eq_some_iff.1 hw).1; omega) hw hw'⟩
    (try simp (config := { maxSteps := 1000000 }) (disch := first | exact Nat.le_of_ble_eq_true rfl | omega) only [AXS, AXB, J.dst, reduceIte, Nat.reduceEqDiff, Nat.reduceAdd, Nat.reduceMul, Nat.reduceLT, Nat.reduceLeDiff]); rw [f43c8_eq]; (try simp (config := { maxSteps := 1000000 }) (disch := first | exact Nat.le_of_ble_eq_true rfl | omega) only [AXS, AXB, J.dst, reduceIte, Nat.reduceEqDiff, Nat.reduceAdd, Nat.reduceMul, Nat.reduceLT, Nat.reduceLeDiff, f43r0, f43r1, f43r2, f43r3, f43r4, f43r5, f43r6, f43r7, f43r8, f43r9, f43r10, f43r11, f43r12, f43r13, f43r14])
    rw [f43c9_eq]
    refine drt_lt ?_
    have hS := e1.size
    simp only [f43r5, wT_one, wT_alt, wT_nil]
    simp (config := { maxSteps := 1000000 }) (disch := first | exact Nat.le_of_ble_eq_true rfl | omega) only [AXS, AXB, J.dst, reduceIte, Nat.reduceEqDiff, Nat.reduceAdd, Nat.reduceMul, Nat.reduceLT, Nat.reduceLeDiff, row_cv hrow, row_cv hrow']
    refine ⟨by omega, by omega, by omega, by omega, by omega, by omega, ?_⟩
    refine ⟨?_, ?_⟩
    · refine wL_newD (Nat.le_refl _) ?_; rintro b6 h6 e6 s6 hb6 B6
      refine wL_newD (by omega) ?_; rintro b7 h7 e7 s7 hb7 B7
      replace B6 := B6.ext e7
      try simp (config := { maxSteps := 1000000 }) (disch := first | exact Nat.le_of_ble_eq_true rfl | omega) only [AXS, AXB, J.dst, reduceIte, Nat.reduceEqDiff, Nat.reduceAdd, Nat.reduceMul, Nat.reduceLT, Nat.reduceLeDiff]
      refine wL_stD rfl rfl (by show ¬ b6 < _; omega) rfl B6 (by decide) (eCV_one v) ?_; rintro h8 u8 (B8 : Blk _ _ _ (eCV v))
      replace B7 := u8.blk B7 (by omega)
      refine wL_stD rfl rfl (by show ¬ b7 < _; omega) rfl B7 (by decide) (eCV_one v') ?_; rintro h9 u9 (B9 : Blk _ _ _ (eCV v'))
      replace B8 := u9.blk B8 (by omega)
      try simp (config := { maxSteps := 1000000 }) (disch := first | exact Nat.le_of_ble_eq_true rfl | omega) only [AXS, AXB, J.dst, reduceIte, Nat.reduceEqDiff, Nat.reduceAdd, Nat.reduceMul, Nat.reduceLT, Nat.reduceLeDiff]
      exact mid _ _ _ (u9.ext (u8.ext (e6.trans e7) (by omega)) (by omega)) B8 B9
    · refine wL_newD (Nat.le_refl _) ?_; rintro b7 h6 e6 s6 hb6 B7
      refine wL_newD (by omega) ?_; rintro b6 h7 e7 s7 hb7 B6
      replace B7 := B7.ext e7
      try simp (config := { maxSteps := 1000000 }) (disch := first | exact Nat.le_of_ble_eq_true rfl | omega) only [AXS, AXB, J.dst, reduceIte, Nat.reduceEqDiff, Nat.reduceAdd, Nat.reduceMul, Nat.reduceLT, Nat.reduceLeDiff]
      refine wL_stD rfl rfl (by show ¬ b6 < _; omega) rfl B6 (by decide) (eCV_one v) ?_; rintro h8 u8 (B8 : Blk _ _ _ (eCV v))
      replace B7 := u8.blk B7 (by omega)
      refine wL_stD rfl rfl (by show ¬ b7 < _; omega) rfl B7 (by decide) (eCV_one v') ?_; rintro h9 u9 (B9 : Blk _ _ _ (eCV v'))
      replace B8 := u9.blk B8 (by omega)
      try simp (config := { maxSteps := 1000000 }) (disch := first | exact Nat.le_of_ble_eq_true rfl | omega) only [AXS, AXB, J.dst, reduceIte, Nat.reduceEqDiff, Nat.reduceAdd, Nat.reduceMul, Nat.reduceLT, Nat.reduceLeDiff]
      exact mid _ _ _ (u9.ext (u8.ext (e6.trans e7) (by omega)) (by omega)) B8 B9
  · have hkl : k = cs.length := by have := of_decide_eq_false h2; omega
    refine hex _ _ ?_
    (try simp (config := { maxSteps := 1000000 }) (disch := first | exact Nat.le_of_ble_eq_true rfl | omega) only [AXS, AXB, J.dst, reduceIte, Nat.reduceEqDiff, Nat.reduceAdd, Nat.reduceMul, Nat.reduceLT, Nat.reduceLeDiff]); rw [f43c23_eq]; (try simp (config := { maxSteps := 1000000 }) (disch := first | exact Nat.le_of_ble_eq_true rfl | omega) only [AXS, AXB, J.dst, reduceIte, Nat.reduceEqDiff, Nat.reduceAdd, Nat.reduceMul, Nat.reduceLT, Nat.reduceLeDiff, f43r0, f43r1, f43r2, f43r3, f43r4, f43r5, f43r6, f43r7, f43r8, f43r9, f43r10, f43r11, f43r12, f43r13, f43r14])
    refine hR true ⟨fun _ => list_eq_iff hlen fun i x y hx hy => hok i x y (by have := (List.getElem?_eq_some_iff.1 hx).1; omega) hx hy, fun _ => rfl⟩ _ e1
end Go.Proofs.Ytefghfgmkndikaa
