/-
  Walks: May.
-/
import Derived.Test.YtefghfgmkndikaaWH
import Derived.Test.YtefghfgmkndikaaFK
set_option linter.unusedSimpArgs false
set_option linter.unusedVariables false
namespace Go.AX
open Go
def OkC (cs : List Cell) (i : Nat) (x : Cell) : Prop :=
  (∀ y, 0 < i → cs[i - 1]? = some y → klt y.key x.key = true) ∧ (x.locked = false → x.lock = noLock) ∧ (x.locked = false → x.vers ≠ []) ∧ (x.lock.drop = true → x.lock.data = noB)
def OkV (vs : List Ver) (k : Nat) (v : Ver) : Prop := (∀ u, 0 < k → vs[k - 1]? = some u → Stamp.lt u.at_ v.at_ = true) ∧ (v.drop = true → v.data = noB)
/-- Cells that may be. -/
def MayP (cs : List Cell) : Prop := ∀ i x, cs[i]? = some x → OkC cs i x ∧ ∀ k v, x.vers[k]? = some v → OkV x.vers k v
theorem eqA_lckB (neg : Bool) (s t : Lck) : eqA neg [.i .i64, .i .i64, .i .i64, .i .i64, .i .i64, .i .i64, .i .i64, .b, .s] (.agg (eLck s).toArray) (.agg (eLck t).toArray) = some (.bool (if neg then !decide (s = t) else decide (s = t))) := by
  obtain ⟨⟨a1, a2, a3, a4⟩, b1, ⟨c1, c2⟩, d1, e1⟩ := s
  obtain ⟨⟨a1', a2', a3', a4'⟩, b1', ⟨c1', c2'⟩, d1', e1'⟩ := t
  have : (a1 == a1' && (a2 == a2' && (a3 == a3' && (a4 == a4' && (b1 == b1' && (c1 == c1' && (c2 == c2' && (d1 == d1' && e1.toList == e1'.toList)))))))) =
      decide ((⟨⟨a1, a2, a3, a4⟩, b1, ⟨c1, c2⟩, d1, e1⟩ : Lck) = ⟨⟨a1', a2', a3', a4'⟩, b1', ⟨c1', c2'⟩, d1', e1'⟩) := by
    rw [keq_iff, Bool.eq_iff_iff]; simp [and_assoc]
  simp only [eqA, eLck, eqKds, eqKd, and_self, if_true, Option.bind_some, Option.map_some, Bool.and_true, this]
theorem eqA_lck (s t : Lck) : eqA false [.i .i64, .i .i64, .i .i64, .i .i64, .i .i64, .i .i64, .i .i64, .b, .s] (.agg (eLck s).toArray) (.agg (eLck t).toArray) = some (.bool (decide (s = t))) := eqA_lckB false s t
theorem eqA_lckN (s t : Lck) : eqA true [.i .i64, .i .i64, .i .i64, .i .i64, .i .i64, .i .i64, .i .i64, .b, .s] (.agg (eLck s).toArray) (.agg (eLck t).toArray) = some (.bool (!decide (s = t))) := eqA_lckB true s t
end Go.AX
namespace Go.Proofs.Ytefghfgmkndikaa
open Go Go.AX

theorem eqA_no (l : Lck) : eqA true [.i .i64, .i .i64, .i .i64, .i .i64, .i .i64, .i .i64, .i .i64, .b, .s] (.agg #[vi l.by_.node, vi l.by_.life, vi l.by_.seq, vi l.by_.attempt, vi l.home, vi l.at_.wall, vi l.at_.tie, .bool l.drop, .string l.data])
    (.agg #[.int .i64 0, .int .i64 0, .int .i64 0, .int .i64 0, .int .i64 0, .int .i64 0, .int .i64 0, .bool false, .string ⟨#[]⟩]) = some (.bool (!decide (l = noLock))) := eqA_lckN l noLock

set_option maxHeartbeats 4000000 in
theorem may_ok {B : Nat → Prop} {a : Option Addr} {c : Nat} (cs : List Cell) (h : Heap) (S : SlC B h a cs) (hn : cs.length ≤ big) (F : ∀ c ∈ cs, c.vers.length ≤ big) {R : Value → Heap → Prop}
    (hR : ∀ b, (b = true ↔ MayP cs) → ∀ h', Ext h h' → R (.bool b) h') : CallsH Try.prog 45 [.slice a cs.length c] h R := by
  have hbig : big = 1000000 := rfl
  refine f45ok (by simp) ?_
  (try simp (disch := first | exact Nat.le_of_ble_eq_true rfl | omega) only [AXR, AXB, J.dst, reduceIte, Nat.reduceEqDiff, Nat.reduceAdd, Nat.reduceMul, Nat.reduceLT, Nat.reduceLeDiff]); rw [f45c0_eq]; (try simp (disch := first | exact Nat.le_of_ble_eq_true rfl | omega) only [AXR, AXB, J.dst, reduceIte, Nat.reduceEqDiff, Nat.reduceAdd, Nat.reduceMul, Nat.reduceLT, Nat.reduceLeDiff, f45r0, f45r1, f45r2, f45r3, f45r4, f45r5, f45r6, f45r7, f45r8, f45r9, f45r10, f45r11, f45r12, f45r13]); rw [f45c1_eq]; (try simp (disch := first | exact Nat.le_of_ble_eq_true rfl | omega) only [AXR, AXB, J.dst, reduceIte, Nat.reduceEqDiff, Nat.reduceAdd, Nat.reduceMul, Nat.reduceLT, Nat.reduceLeDiff, f45r0, f45r1, f45r2, f45r3, f45r4, f45r5, f45r6, f45r7, f45r8, f45r9, f45r10, f45r11, f45r12, f45r13])
  rw [f45c2_eq]
  refine loop_in (fun n σ h' => Ext h h' ∧ ∃ k : Nat, k + n = cs.length ∧ σ = [(0, .slice a cs.length c), (7, .slice a cs.length c), (8, vi cs.length), (9, vi k)] ∧
      ∀ i x, i < k → cs[i]? = some x → OkC cs i x ∧ ∀ k v, x.vers[k]? = some v → OkV x.vers k v)
    cs.length ⟨Ext.refl _, 0, by omega, rfl, by intros; omega⟩ ?_
  rintro n σ h' ⟨e1, k, hk, rfl, hok⟩ Q' hnx hex hrt _
  (try simp (disch := first | exact Nat.le_of_ble_eq_true rfl | omega) only [AXR, AXB, J.dst, reduceIte, Nat.reduceEqDiff, Nat.reduceAdd, Nat.reduceMul, Nat.reduceLT, Nat.reduceLeDiff]); rw [f45c3_eq]; (try simp (disch := first | exact Nat.le_of_ble_eq_true rfl | omega) only [AXR, AXB, J.dst, reduceIte, Nat.reduceEqDiff, Nat.reduceAdd, Nat.reduceMul, Nat.reduceLT, Nat.reduceLeDiff, f45r0, f45r1, f45r2, f45r3, f45r4, f45r5, f45r6, f45r7, f45r8, f45r9, f45r10, f45r11, f45r12, f45r13]); rw [f45c4_eq]; (try simp (disch := first | exact Nat.le_of_ble_eq_true rfl | omega) only [AXR, AXB, J.dst, reduceIte, Nat.reduceEqDiff, Nat.reduceAdd, Nat.reduceMul, Nat.reduceLT, Nat.reduceLeDiff, f45r0, f45r1, f45r2, f45r3, f45r4, f45r5, f45r6, f45r7, f45r8, f45r9, f45r10, f45r11, f45r12, f45r13])
  refine ⟨fun h2 => ?_, fun h2 => ?_⟩
  · have hkl : k < cs.length := by have := of_decide_eq_true h2; omega
    obtain ⟨x, hx⟩ := get_ex hkl
    obtain ⟨b, o, v, rfl, _, hrow, hcr⟩ := (S.ext e1).elem hx
    have hno : ¬ MayP cs → ∀ h8, Ext h' h8 → Q' .ret [(2, .bool false)] h8 := fun hm h8 e8 => hrt _ _ (by
      try simp (disch := first | exact Nat.le_of_ble_eq_true rfl | omega) only [AXR, AXB, J.dst, reduceIte, Nat.reduceEqDiff, Nat.reduceAdd, Nat.reduceMul, Nat.reduceLT, Nat.reduceLeDiff]
      exact hR false ⟨fun h => (by cases h), fun h => absurd h hm⟩ _ (e1.trans e8))
    rw [f45c5_eq]
    (try simp (disch := first | exact Nat.le_of_ble_eq_true rfl | omega) only [AXR, AXB, J.dst, reduceIte, Nat.reduceEqDiff, Nat.reduceAdd, Nat.reduceMul, Nat.reduceLT, Nat.reduceLeDiff]); rw [f45c6_eq]; (try simp (disch := first | exact Nat.le_of_ble_eq_true rfl | omega) only [AXR, AXB, J.dst, reduceIte, Nat.reduceEqDiff, Nat.reduceAdd, Nat.reduceMul, Nat.reduceLT, Nat.reduceLeDiff, f45r0, f45r1, f45r2, f45r3, f45r4, f45r5, f45r6, f45r7, f45r8, f45r9, f45r10, f45r11, f45r12, f45r13, row_cv hrow])
    refine ⟨by omega, by omega, ?_⟩
    refine wL_newN ?_; rintro b4 h4 e4 s4 hb4 B4
    try simp (disch := first | exact Nat.le_of_ble_eq_true rfl | omega) only [AXR, AXB, J.dst, reduceIte, Nat.reduceEqDiff, Nat.reduceAdd, Nat.reduceMul, Nat.reduceLT, Nat.reduceLeDiff]
    refine wL_stN rfl rfl rfl B4 (by decide) (eCV_one v) ?_; rintro h5 u5 (B5 : Blk _ _ _ (eCV v))
    have e5 := u5.ext e4 (by omega)
    try simp (disch := first | exact Nat.le_of_ble_eq_true rfl | omega) only [AXR, AXB, J.dst, reduceIte, Nat.reduceEqDiff, Nat.reduceAdd, Nat.reduceMul, Nat.reduceLT, Nat.reduceLeDiff]
    have hlt := B5.lt
    have fin : ∀ t : Bool, (t = false ↔ OkC cs k x) → wC Try.prog f45c8 (X.inBlock 1 (X.then (fun σ h => wC Try.prog f45c20 Q' σ h) Q'))
        [(59, .bool t), (0, .slice (some ⟨b, o, none⟩) cs.length c), (4, ptr b4 0), (7, .slice (some ⟨b, o, none⟩) cs.length c), (8, vi cs.length), (9, vi k)] h5 := by
      intro t ht
      cases t with
      | true =>
        (try simp (disch := first | exact Nat.le_of_ble_eq_true rfl | omega) only [AXR, AXB, J.dst, reduceIte, Nat.reduceEqDiff, Nat.reduceAdd, Nat.reduceMul, Nat.reduceLT, Nat.reduceLeDiff]); rw [f45c8_eq]; (try simp (disch := first | exact Nat.le_of_ble_eq_true rfl | omega) only [AXR, AXB, J.dst, reduceIte, Nat.reduceEqDiff, Nat.reduceAdd, Nat.reduceMul, Nat.reduceLT, Nat.reduceLeDiff, f45r0, f45r1, f45r2, f45r3, f45r4, f45r5, f45r6, f45r7, f45r8, f45r9, f45r10, f45r11, f45r12, f45r13]); rw [f45c9_eq]; (try simp (disch := first | exact Nat.le_of_ble_eq_true rfl | omega) only [AXR, AXB, J.dst, reduceIte, Nat.reduceEqDiff, Nat.reduceAdd, Nat.reduceMul, Nat.reduceLT, Nat.reduceLeDiff, f45r0, f45r1, f45r2, f45r3, f45r4, f45r5, f45r6, f45r7, f45r8, f45r9, f45r10, f45r11, f45r12, f45r13])
        refine hno ?_ _ e5
        intro hm
        have := ht.2 (hm k x hx).1
        cases this
      | false =>
        have hok0 := ht.1 rfl
        have hvn := hcr.vn
        (try simp (disch := first | exact Nat.le_of_ble_eq_true rfl | omega) only [AXR, AXB, J.dst, reduceIte, Nat.reduceEqDiff, Nat.reduceAdd, Nat.reduceMul, Nat.reduceLT, Nat.reduceLeDiff]); rw [f45c8_eq]; (try simp (disch := first | exact Nat.le_of_ble_eq_true rfl | omega) only [AXR, AXB, J.dst, reduceIte, Nat.reduceEqDiff, Nat.reduceAdd, Nat.reduceMul, Nat.reduceLT, Nat.reduceLeDiff, f45r0, f45r1, f45r2, f45r3, f45r4, f45r5, f45r6, f45r7, f45r8, f45r9, f45r10, f45r11, f45r12, f45r13, B5.cel, eCV, hvn]); rw [f45c10_eq]; (try simp (disch := first | exact Nat.le_of_ble_eq_true rfl | omega) only [AXR, AXB, J.dst, reduceIte, Nat.reduceEqDiff, Nat.reduceAdd, Nat.reduceMul, Nat.reduceLT, Nat.reduceLeDiff, f45r0, f45r1, f45r2, f45r3, f45r4, f45r5, f45r6, f45r7, f45r8, f45r9, f45r10, f45r11, f45r12, f45r13, B5.cel, eCV, hvn])
        rw [f45c11_eq]
        have SV := hcr.vers.ext e5
        have hvl := F x (List.mem_of_getElem? hx)
        refine loop_in1 (fun n' σ h' => Ext h5 h' ∧ ∃ i : Nat, i + n' = x.vers.length ∧ σ = [(0, .slice (some ⟨b, o, none⟩) cs.length c), (4, ptr b4 0), (7, .slice (some ⟨b, o, none⟩) cs.length c), (8, vi cs.length), (9, vi k), (61, .slice v.va x.vers.length v.vc), (62, vi x.vers.length), (63, vi i)] ∧
          ∀ j w, j < i → x.vers[j]? = some w → OkV x.vers j w) x.vers.length ⟨Ext.refl _, 0, by omega, rfl, by intros; omega⟩ ?_
        rintro n2 σ h6 ⟨e6, i, hi, rfl, hokv⟩ Q2 hnx2 hex2 hrt2 _
        (try simp (disch := first | exact Nat.le_of_ble_eq_true rfl | omega) only [AXR, AXB, J.dst, reduceIte, Nat.reduceEqDiff, Nat.reduceAdd, Nat.reduceMul, Nat.reduceLT, Nat.reduceLeDiff]); rw [f45c12_eq]; (try simp (disch := first | exact Nat.le_of_ble_eq_true rfl | omega) only [AXR, AXB, J.dst, reduceIte, Nat.reduceEqDiff, Nat.reduceAdd, Nat.reduceMul, Nat.reduceLT, Nat.reduceLeDiff, f45r0, f45r1, f45r2, f45r3, f45r4, f45r5, f45r6, f45r7, f45r8, f45r9, f45r10, f45r11, f45r12, f45r13]); rw [f45c13_eq]; (try simp (disch := first | exact Nat.le_of_ble_eq_true rfl | omega) only [AXR, AXB, J.dst, reduceIte, Nat.reduceEqDiff, Nat.reduceAdd, Nat.reduceMul, Nat.reduceLT, Nat.reduceLeDiff, f45r0, f45r1, f45r2, f45r3, f45r4, f45r5, f45r6, f45r7, f45r8, f45r9, f45r10, f45r11, f45r12, f45r13])
        refine ⟨fun h7 => ?_, fun h7 => ?_⟩
        · have hil : i < x.vers.length := by have := of_decide_eq_true h7; omega
          obtain ⟨w, hw⟩ := get_ex hil
          obtain ⟨vb, vo, hva, _, hrowv⟩ := (SV.ext e6).elem eVer_len hw
          rw [f45c14_eq]
          rw [hva] at hnx2
          (try simp (disch := first | exact Nat.le_of_ble_eq_true rfl | omega) only [AXR, AXB, J.dst, reduceIte, Nat.reduceEqDiff, Nat.reduceAdd, Nat.reduceMul, Nat.reduceLT, Nat.reduceLeDiff]); rw [f45c15_eq]; (try simp (disch := first | exact Nat.le_of_ble_eq_true rfl | omega) only [AXR, AXB, J.dst, reduceIte, Nat.reduceEqDiff, Nat.reduceAdd, Nat.reduceMul, Nat.reduceLT, Nat.reduceLeDiff, f45r0, f45r1, f45r2, f45r3, f45r4, f45r5, f45r6, f45r7, f45r8, f45r9, f45r10, f45r11, f45r12, f45r13, hva, row_ver hrowv])
          refine ⟨by omega, by omega, ?_⟩
          refine wL_newN ?_; rintro b6 h8 e8 s8 hb6 B6
          try simp (disch := first | exact Nat.le_of_ble_eq_true rfl | omega) only [AXR, AXB, J.dst, reduceIte, Nat.reduceEqDiff, Nat.reduceAdd, Nat.reduceMul, Nat.reduceLT, Nat.reduceLeDiff]
          refine wL_stN rfl rfl rfl B6 (by decide) (eVer_one w) ?_; rintro h9 u9 (B9 : Blk _ _ _ (eVer w))
          have e9 := u9.ext e8 (by omega)
          have B5' := B5.ext (e6.trans e9)
          have hl9 := B9.lt
          have hl5 := B5'.lt
          try simp (disch := first | exact Nat.le_of_ble_eq_true rfl | omega) only [AXR, AXB, J.dst, reduceIte, Nat.reduceEqDiff, Nat.reduceAdd, Nat.reduceMul, Nat.reduceLT, Nat.reduceLeDiff]
          have fin2 : ∀ (h10 : Heap) (t : Bool), Ext h9 h10 → (t = false ↔ OkV x.vers i w) → wC Try.prog f45c17 (X.inBlock 3 (X.then (fun σ h => wC Try.prog f45c19 Q2 σ h) Q2))
              [(91, .bool t), (0, .slice (some ⟨b, o, none⟩) cs.length c), (4, ptr b4 0), (7, .slice (some ⟨b, o, none⟩) cs.length c), (8, vi cs.length), (9, vi k), (61, .slice (some ⟨vb, vo, none⟩) x.vers.length v.vc), (62, vi x.vers.length), (63, vi i)] h10 := by
            intro h10 t e10 ht
            cases t with
            | true =>
              (try simp (disch := first | exact Nat.le_of_ble_eq_true rfl | omega) only [AXR, AXB, J.dst, reduceIte, Nat.reduceEqDiff, Nat.reduceAdd, Nat.reduceMul, Nat.reduceLT, Nat.reduceLeDiff]); rw [f45c17_eq]; (try simp (disch := first | exact Nat.le_of_ble_eq_true rfl | omega) only [AXR, AXB, J.dst, reduceIte, Nat.reduceEqDiff, Nat.reduceAdd, Nat.reduceMul, Nat.reduceLT, Nat.reduceLeDiff, f45r0, f45r1, f45r2, f45r3, f45r4, f45r5, f45r6, f45r7, f45r8, f45r9, f45r10, f45r11, f45r12, f45r13]); rw [f45c18_eq]; (try simp (disch := first | exact Nat.le_of_ble_eq_true rfl | omega) only [AXR, AXB, J.dst, reduceIte, Nat.reduceEqDiff, Nat.reduceAdd, Nat.reduceMul, Nat.reduceLT, Nat.reduceLeDiff, f45r0, f45r1, f45r2, f45r3, f45r4, f45r5, f45r6, f45r7, f45r8, f45r9, f45r10, f45r11, f45r12, f45r13])
              refine hrt2 _ _ ?_
              try simp (disch := first | exact Nat.le_of_ble_eq_true rfl | omega) only [AXR, AXB, J.dst, reduceIte, Nat.reduceEqDiff, Nat.reduceAdd, Nat.reduceMul, Nat.reduceLT, Nat.reduceLeDiff]
              refine hno ?_ _ (e5.trans (e6.trans (e9.trans e10)))
              intro hm
              have := ht.2 ((hm k x hx).2 i w hw)
              cases this
            | false =>
              (try simp (disch := first | exact Nat.le_of_ble_eq_true rfl | omega) only [AXR, AXB, J.dst, reduceIte, Nat.reduceEqDiff, Nat.reduceAdd, Nat.reduceMul, Nat.reduceLT, Nat.reduceLeDiff]); rw [f45c17_eq]; (try simp (disch := first | exact Nat.le_of_ble_eq_true rfl | omega) only [AXR, AXB, J.dst, reduceIte, Nat.reduceEqDiff, Nat.reduceAdd, Nat.reduceMul, Nat.reduceLT, Nat.reduceLeDiff, f45r0, f45r1, f45r2, f45r3, f45r4, f45r5, f45r6, f45r7, f45r8, f45r9, f45r10, f45r11, f45r12, f45r13]); rw [f45c19_eq]; (try simp (disch := first | exact Nat.le_of_ble_eq_true rfl | omega) only [AXR, AXB, J.dst, reduceIte, Nat.reduceEqDiff, Nat.reduceAdd, Nat.reduceMul, Nat.reduceLT, Nat.reduceLeDiff, f45r0, f45r1, f45r2, f45r3, f45r4, f45r5, f45r6, f45r7, f45r8, f45r9, f45r10, f45r11, f45r12, f45r13])
              rw [i64_wrap (by omega) (by omega)]
              refine hnx2 (n2 - 1) _ _ (by omega) ⟨e6.trans (e9.trans e10), i + 1, by omega, rfl, ?_⟩
              intro j u hj hu
              rcases Nat.lt_or_ge j i with hlt | hge
              · exact hokv j u hlt hu
              · have : j = i := by omega
                subst this
                rw [hw] at hu; cases hu
                exact ht.1 rfl
          rw [f45c16_eq]
          refine drw_lt ?_
          have hdz : ((!w.data.toList == ByteArray.toList ⟨#[]⟩)) = !decide (w.data = noB) := by rw [keq_iff]; rfl
          have seg2 : ∀ (h10 : Heap) (t : Bool), Ext h9 h10 → (t = false ↔ ∀ u, 0 < i → x.vers[i - 1]? = some u → Stamp.lt u.at_ w.at_ = true) → wL Try.prog (some ⟨(· < h9.size), h9⟩) f45r9a 0 (fun σ h => wC Try.prog f45c17 (X.inBlock 3 (X.then (fun σ h => wC Try.prog f45c19 Q2 σ h) Q2)) σ h)
              [(82, .bool t), (0, .slice (some ⟨b, o, none⟩) cs.length c), (4, ptr b4 0), (6, ptr b6 0), (7, .slice (some ⟨b, o, none⟩) cs.length c), (8, vi cs.length), (9, vi k), (61, .slice (some ⟨vb, vo, none⟩) x.vers.length v.vc), (62, vi x.vers.length), (63, vi i)] h10 := by
            intro h10 t e10 ht
            simp (config := { maxSteps := 1000000 }) (disch := first | exact Nat.le_of_ble_eq_true rfl | omega) only [AXJ, AXS, AXB, J.dst, reduceIte, Nat.reduceEqDiff, Nat.reduceAdd, Nat.reduceMul, Nat.reduceLT, Nat.reduceLeDiff, f45r9a, B9.cel, eVer, hdz]
            refine ⟨fun _ => hl9, fun _ _ => hl9, ?_⟩
            refine fin2 h10 _ e10 ?_
            unfold OkV
            rw [← ht]
            cases t <;> cases w.drop <;> simp
          rcases Nat.eq_zero_or_pos i with hz | hp
          · subst hz
            simp (config := { maxSteps := 1000000 }) (disch := first | exact Nat.le_of_ble_eq_true rfl | omega) only [AXJ, AXS, AXB, J.dst, reduceIte, Nat.reduceEqDiff, Nat.reduceAdd, Nat.reduceMul, Nat.reduceLT, Nat.reduceLeDiff, f45r9, decide_eq_false (show ¬ (((0 : Nat) : Int) > 0) by omega)]
            exact ⟨fun _ => hl5, seg2 _ false (Ext.refl _) (by simp)⟩
          · obtain ⟨u, hu⟩ := get_ex (show i - 1 < x.vers.length by omega)
            obtain ⟨vb', vo', hva', _, hrowu⟩ := (SV.ext (e6.trans e9)).elem eVer_len hu
            rw [hva] at hva'; cases hva'
            have hw1 : IntKind.i64.wrap ((i : Int) - 1) = ((i - 1 : Nat) : Int) := by rw [i64_wrap (by omega) (by omega)]; omega
            have hbl := hrowu.lt (by rw [eVer_len]; omega)
            simp (config := { maxSteps := 1000000 }) (disch := first | exact Nat.le_of_ble_eq_true rfl | omega) only [AXJ, AXS, AXB, J.dst, reduceIte, Nat.reduceEqDiff, Nat.reduceAdd, Nat.reduceMul, Nat.reduceLT, Nat.reduceLeDiff, f45r9, decide_eq_true (show ((i : Int) > 0) by omega), B5'.cel, B9.cel, B9.rd, eCV, hw1, row_ver hrowu, hva, hvn, eVer, eStamp]
            refine ⟨fun _ => hl5, fun _ => by omega, fun _ => by omega, fun _ => hbl, fun _ => hl9, ?_⟩
            refine less_ok u.at_ w.at_ _ ?_
            intro h10 e10
            refine ⟨kp_ext (Nat.le_refl _) e10, ?_⟩
            simp (config := { maxSteps := 1000000 }) (disch := first | exact Nat.le_of_ble_eq_true rfl | omega) only [AXJ, AXS, AXB, J.dst, reduceIte, Nat.reduceEqDiff, Nat.reduceAdd, Nat.reduceMul, Nat.reduceLT, Nat.reduceLeDiff]
            refine seg2 h10 _ e10 ?_
            refine ⟨fun h0 z _ hz => ?_, fun h0 => by rw [h0 u hp hu]; rfl⟩
            rw [hu] at hz; cases hz
            simpa using h0
        · have hil : i = x.vers.length := by have := of_decide_eq_false h7; omega
          refine hex2 _ _ ?_
          (try simp (disch := first | exact Nat.le_of_ble_eq_true rfl | omega) only [AXR, AXB, J.dst, reduceIte, Nat.reduceEqDiff, Nat.reduceAdd, Nat.reduceMul, Nat.reduceLT, Nat.reduceLeDiff]); rw [f45c20_eq]; (try simp (disch := first | exact Nat.le_of_ble_eq_true rfl | omega) only [AXR, AXB, J.dst, reduceIte, Nat.reduceEqDiff, Nat.reduceAdd, Nat.reduceMul, Nat.reduceLT, Nat.reduceLeDiff, f45r0, f45r1, f45r2, f45r3, f45r4, f45r5, f45r6, f45r7, f45r8, f45r9, f45r10, f45r11, f45r12, f45r13])
          rw [i64_wrap (by omega) (by omega)]
          refine hnx (n - 1) _ _ (by omega) ⟨e1.trans (e5.trans e6), k + 1, by omega, rfl, ?_⟩
          intro j y hj hy
          rcases Nat.lt_or_ge j k with hlt | hge
          · exact hok j y hlt hy
          · have : j = k := by omega
            subst this
            rw [hx] at hy; cases hy
            exact ⟨hok0, fun m u hu => hokv m u (by have := (List.getElem?_eq_some_iff.1 hu).1; omega) hu⟩
    rw [f45c7_eq]
    refine drw_lt ?_
    have hoc : OkC cs k x ↔ ((∀ y, 0 < k → cs[k - 1]? = some y → klt y.key x.key = true) ∧ (x.locked = false → x.lock = noLock) ∧ (x.locked = false → x.vers ≠ []) ∧ (x.lock.drop = true → x.lock.data = noB)) := Iff.rfl
    have hvz : (((x.vers.length : Nat) : Int) == 0) = decide (x.vers = []) := by
      cases x.vers with
      | nil => rfl
      | cons a l => rw [decide_eq_false (by simp)]; simp; omega
    have hdz : ((!x.lock.data.toList == ByteArray.toList ⟨#[]⟩)) = !decide (x.lock.data = noB) := by rw [keq_iff]; rfl
    have hlk := hcr.locked
    have hlc := hcr.lock
    have hvn := hcr.vn
    have seg1 : ∀ t : Bool, (t = false ↔ ∀ y, 0 < k → cs[k - 1]? = some y → klt y.key x.key = true) → wL Try.prog (some ⟨(· < h5.size), h5⟩) f45r4a 0 (fun σ h => wC Try.prog f45c8 (X.inBlock 1 (X.then (fun σ h => wC Try.prog f45c20 Q' σ h) Q')) σ h)
        [(26, .bool t), (0, .slice (some ⟨b, o, none⟩) cs.length c), (4, ptr b4 0), (7, .slice (some ⟨b, o, none⟩) cs.length c), (8, vi cs.length), (9, vi k)] h5 := by
      intro t ht
      simp (config := { maxSteps := 1000000 }) (disch := first | exact Nat.le_of_ble_eq_true rfl | omega) only [AXJ, AXS, AXB, J.dst, reduceIte, Nat.reduceEqDiff, Nat.reduceAdd, Nat.reduceMul, Nat.reduceLT, Nat.reduceLeDiff, f45r4a, B5.cel, B5.rd, eCV, hlk, hlc, hvn, eqA_no]
      refine ⟨fun _ => hlt, fun _ _ => hlt, ?_⟩
      simp (config := { maxSteps := 1000000 }) (disch := first | exact Nat.le_of_ble_eq_true rfl | omega) only [AXJ, AXS, AXB, J.dst, reduceIte, Nat.reduceEqDiff, Nat.reduceAdd, Nat.reduceMul, Nat.reduceLT, Nat.reduceLeDiff, f45r4b, B5.cel, B5.rd, eCV, hlk, hlc, hvn, hvz]
      refine ⟨fun _ => hlt, fun _ _ => hlt, ?_⟩
      simp (config := { maxSteps := 1000000 }) (disch := first | exact Nat.le_of_ble_eq_true rfl | omega) only [AXJ, AXS, AXB, J.dst, reduceIte, Nat.reduceEqDiff, Nat.reduceAdd, Nat.reduceMul, Nat.reduceLT, Nat.reduceLeDiff, f45r4c, B5.cel, B5.rd, eCV, hlk, hlc, hvn, hdz]
      refine ⟨fun _ => hlt, fun _ _ => hlt, ?_⟩
      refine fin _ ?_
      rw [hoc, ← ht]
      cases t <;> cases x.locked <;> cases x.lock.drop <;> simp [and_assoc]
    rcases Nat.eq_zero_or_pos k with hz | hp
    · subst hz
      simp (config := { maxSteps := 1000000 }) (disch := first | exact Nat.le_of_ble_eq_true rfl | omega) only [AXJ, AXS, AXB, J.dst, reduceIte, Nat.reduceEqDiff, Nat.reduceAdd, Nat.reduceMul, Nat.reduceLT, Nat.reduceLeDiff, f45r4, decide_eq_false (show ¬ (((0 : Nat) : Int) > 0) by omega)]
      exact ⟨fun _ => hlt, seg1 false (by simp)⟩
    · obtain ⟨y, hy⟩ := get_ex (show k - 1 < cs.length by omega)
      obtain ⟨b', o', yv, hb', _, hrowy, hcy⟩ := (S.ext (e1.trans e5)).elem hy
      cases hb'
      have hw1 : IntKind.i64.wrap ((k : Int) - 1) = ((k - 1 : Nat) : Int) := by rw [i64_wrap (by omega) (by omega)]; omega
      have hbl := hrowy.lt (by rw [eCV_len]; omega)
      simp (config := { maxSteps := 1000000 }) (disch := first | exact Nat.le_of_ble_eq_true rfl | omega) only [AXJ, AXS, AXB, J.dst, reduceIte, Nat.reduceEqDiff, Nat.reduceAdd, Nat.reduceMul, Nat.reduceLT, Nat.reduceLeDiff, f45r4, decide_eq_true (show ((k : Int) > 0) by omega), B5.cel, eCV, hw1, row_cv hrowy]
      refine ⟨fun _ => hlt, fun _ => by omega, fun _ => by omega, fun _ => hbl, ?_⟩
      refine seg1 _ ?_
      rw [hcr.key, hcy.key, keq_iff]
      show ((klt x.key y.key || decide (x.key = y.key)) = false) ↔ _
      rw [kle_iff]
      refine ⟨fun h0 z _ hz => ?_, fun h0 => by rw [h0 y hp hy]; rfl⟩
      rw [hy] at hz; cases hz
      simpa using h0
  · have hkl : k = cs.length := by have := of_decide_eq_false h2; omega
    refine hex _ _ ?_
    (try simp (disch := first | exact Nat.le_of_ble_eq_true rfl | omega) only [AXR, AXB, J.dst, reduceIte, Nat.reduceEqDiff, Nat.reduceAdd, Nat.reduceMul, Nat.reduceLT, Nat.reduceLeDiff]); rw [f45c21_eq]; (try simp (disch := first | exact Nat.le_of_ble_eq_true rfl | omega) only [AXR, AXB, J.dst, reduceIte, Nat.reduceEqDiff, Nat.reduceAdd, Nat.reduceMul, Nat.reduceLT, Nat.reduceLeDiff, f45r0, f45r1, f45r2, f45r3, f45r4, f45r5, f45r6, f45r7, f45r8, f45r9, f45r10, f45r11, f45r12, f45r13])
    refine hR true ⟨fun _ i x hx => hok i x (by have := (List.getElem?_eq_some_iff.1 hx).1; omega) hx, fun _ => rfl⟩ _ e1
end Go.Proofs.Ytefghfgmkndikaa
