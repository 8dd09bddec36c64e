/-
  Walks: the reference's Settle.
-/
import Derived.Test.YtefghfgmkndikaaWD
set_option linter.unusedSimpArgs false
set_option linter.unusedVariables false
namespace Go.AX
open Go
def rsettleC (by_ : Try4) (yes : Bool) (c : Cell) : Cell :=
  if c.locked && decide (c.lock.by_ = by_) then ⟨c.key, if yes then withV c.vers (verL c.lock) else c.vers, false, noLock⟩ else c
def rsettleL (cs : List Cell) (by_ : Try4) (yes : Bool) : List Cell := cs.filterMap fun c => leftC (rsettleC by_ yes c)
end Go.AX
namespace Go.Proofs.Ytefghfgmkndikaa
open Go Go.AX

theorem rsettle_ok {B : Nat → Prop} {a : Option Addr} {c : Nat} (cs : List Cell) (by_ : Try4) (yes : Bool) (h : Heap) (S : SlC B h a cs) (hn : cs.length ≤ big) (F : ∀ c ∈ cs, c.vers.length < big) {R : Value → Heap → Prop}
    (hR : ∀ a' n' c' h', OwnC h.size h' a' n' c' (rsettleL cs by_ yes) → Ext h h' → R (.slice a' n' c') h') : CallsH Try.prog 80 [.slice a cs.length c, .agg (eTry by_).toArray, .bool yes] h R := by
  have hbig : big = 1000000 := rfl
  refine f80ok (by simp) ?_
  (try simp (disch := first | exact Nat.le_of_ble_eq_true rfl | omega) only [AXR, AXB, J.dst, reduceIte, Nat.reduceEqDiff, Nat.reduceAdd, Nat.reduceMul, Nat.reduceLT, Nat.reduceLeDiff]); rw [f80c0_eq]; (try simp (disch := first | exact Nat.le_of_ble_eq_true rfl | omega) only [AXR, AXB, J.dst, reduceIte, Nat.reduceEqDiff, Nat.reduceAdd, Nat.reduceMul, Nat.reduceLT, Nat.reduceLeDiff, f80r0, f80r1, f80r2, f80r3, f80r4, f80r5, f80r6, f80r7, f80r8, f80r9, f80r10, f80r11, f80r12, f80r13])
  refine wL_boxN rfl ?_; rintro b1 h1 e1 s1 hb1 (B1 : Blk _ _ _ (eTry by_))
  (try simp (disch := first | exact Nat.le_of_ble_eq_true rfl | omega) only [AXR, AXB, J.dst, reduceIte, Nat.reduceEqDiff, Nat.reduceAdd, Nat.reduceMul, Nat.reduceLT, Nat.reduceLeDiff]); rw [f80c1_eq]; (try simp (disch := first | exact Nat.le_of_ble_eq_true rfl | omega) only [AXR, AXB, J.dst, reduceIte, Nat.reduceEqDiff, Nat.reduceAdd, Nat.reduceMul, Nat.reduceLT, Nat.reduceLeDiff, f80r0, f80r1, f80r2, f80r3, f80r4, f80r5, f80r6, f80r7, f80r8, f80r9, f80r10, f80r11, f80r12, f80r13]); rw [f80c2_eq]; (try simp (disch := first | exact Nat.le_of_ble_eq_true rfl | omega) only [AXR, AXB, J.dst, reduceIte, Nat.reduceEqDiff, Nat.reduceAdd, Nat.reduceMul, Nat.reduceLT, Nat.reduceLeDiff, f80r0, f80r1, f80r2, f80r3, f80r4, f80r5, f80r6, f80r7, f80r8, f80r9, f80r10, f80r11, f80r12, f80r13])
  refine copy_ok cs _ (S.ext e1) hn (fun c hc => Nat.le_of_lt (F c hc)) ?_
  intro al cl h2 L e2
  try simp (disch := first | exact Nat.le_of_ble_eq_true rfl | omega) only [AXR, AXB, J.dst, reduceIte, Nat.reduceEqDiff, Nat.reduceAdd, Nat.reduceMul, Nat.reduceLT, Nat.reduceLeDiff]
  (try simp (disch := first | exact Nat.le_of_ble_eq_true rfl | omega) only [AXR, AXB, J.dst, reduceIte, Nat.reduceEqDiff, Nat.reduceAdd, Nat.reduceMul, Nat.reduceLT, Nat.reduceLeDiff]); rw [f80c3_eq]; (try simp (disch := first | exact Nat.le_of_ble_eq_true rfl | omega) only [AXR, AXB, J.dst, reduceIte, Nat.reduceEqDiff, Nat.reduceAdd, Nat.reduceMul, Nat.reduceLT, Nat.reduceLeDiff, f80r0, f80r1, f80r2, f80r3, f80r4, f80r5, f80r6, f80r7, f80r8, f80r9, f80r10, f80r11, f80r12, f80r13])
  rw [f80c4_eq]
  have e12 := e1.trans e2
  refine loop_in (fun n σ h' => Ext h2 h' ∧ ∃ (k m c' : Nat) (a' : Option Addr), k + n = cs.length ∧ m ≤ k ∧ OwnC h1.size h' a' m c' ((cs.take k).filterMap fun c => leftC (rsettleC by_ yes c)) ∧ (∀ j, ob a' = some j → h2.size ≤ j) ∧
      σ = [(2, .bool yes), (4, ptr b1 0), (7, .slice a' m c'), (8, .slice al cs.length cl), (9, vi k)])
    cs.length ⟨Ext.refl _, 0, 0, 0, none, by omega, by omega, OwnC.nil _ _, by simp [ob], rfl⟩ ?_
  rintro n σ h' ⟨e3, k, m, c', a', hk, hm, O, hA, rfl⟩ Q' hnx hex hrt _
  have S2 := L.slc
  (try simp (disch := first | exact Nat.le_of_ble_eq_true rfl | omega) only [AXR, AXB, J.dst, reduceIte, Nat.reduceEqDiff, Nat.reduceAdd, Nat.reduceMul, Nat.reduceLT, Nat.reduceLeDiff]); rw [f80c5_eq]; (try simp (disch := first | exact Nat.le_of_ble_eq_true rfl | omega) only [AXR, AXB, J.dst, reduceIte, Nat.reduceEqDiff, Nat.reduceAdd, Nat.reduceMul, Nat.reduceLT, Nat.reduceLeDiff, f80r0, f80r1, f80r2, f80r3, f80r4, f80r5, f80r6, f80r7, f80r8, f80r9, f80r10, f80r11, f80r12, f80r13]); rw [f80c6_eq]; (try simp (disch := first | exact Nat.le_of_ble_eq_true rfl | omega) only [AXR, AXB, J.dst, reduceIte, Nat.reduceEqDiff, Nat.reduceAdd, Nat.reduceMul, Nat.reduceLT, Nat.reduceLeDiff, f80r0, f80r1, f80r2, f80r3, f80r4, f80r5, f80r6, f80r7, f80r8, f80r9, f80r10, f80r11, f80r12, f80r13])
  refine ⟨fun h2 => ?_, fun h2 => ?_⟩
  · have hkl : k < cs.length := by have := of_decide_eq_true h2; omega
    obtain ⟨x, hx⟩ := get_ex hkl
    obtain ⟨b, o, v, rfl, _, hrow, hcr⟩ := S2.elem hx
    have hxF := F x (List.mem_of_getElem? hx)
    rw [f80c7_eq]
    (try simp (disch := first | exact Nat.le_of_ble_eq_true rfl | omega) only [AXR, AXB, J.dst, reduceIte, Nat.reduceEqDiff, Nat.reduceAdd, Nat.reduceMul, Nat.reduceLT, Nat.reduceLeDiff]); rw [f80c8_eq]; (try simp (disch := first | exact Nat.le_of_ble_eq_true rfl | omega) only [AXR, AXB, J.dst, reduceIte, Nat.reduceEqDiff, Nat.reduceAdd, Nat.reduceMul, Nat.reduceLT, Nat.reduceLeDiff, f80r0, f80r1, f80r2, f80r3, f80r4, f80r5, f80r6, f80r7, f80r8, f80r9, f80r10, f80r11, f80r12, f80r13, row_cv (hrow.ext e3)])
    refine ⟨by omega, by omega, ?_⟩
    refine wL_newN ?_; rintro b4 h4 e4 s4 hb4 B4
    refine wL_stN rfl rfl rfl B4 (by decide) (eCV_one v) ?_; rintro h5 u5 (B5 : Blk _ _ _ (eCV v))
    have e5 := u5.ext e4 (by omega)
    try simp (disch := first | exact Nat.le_of_ble_eq_true rfl | omega) only [AXR, AXB, J.dst, reduceIte, Nat.reduceEqDiff, Nat.reduceAdd, Nat.reduceMul, Nat.reduceLT, Nat.reduceLeDiff]
    have hO := O.row
    have hs1 := B1.lt
    have hs2 := e2.size
    have hs3 := e3.size
    have hs5 := e5.size
    have e35 := e3.trans e5
    have hb45 := B5.lt
    -- what is left is appended
    have app : ∀ (h8 : Heap) (τ : Env) (v8 : CV) (c8 : Cell), Ext h' h8 → Blk h8 b4 103 (eCV v8) → CR (fun b => h1.size ≤ b ∧ b < h8.size ∧ some b ≠ ob a') h8 v8 c8 → c8 = rsettleC by_ yes x →
        AX.look τ 2 = some (.bool yes) → AX.look τ 4 = some (ptr b1 0) → AX.look τ 7 = some (.slice a' m c') → AX.look τ 10 = some (ptr b4 0) → AX.look τ 8 = some (.slice (some ⟨b, o, none⟩) cs.length cl) → AX.look τ 9 = some (vi k) →
        wC Try.prog f80c15 (X.inBlock 1 (X.then (fun σ h => wC Try.prog f80c18 Q' σ h) Q')) τ h8 := by
      intro h8 τ v8 c8 e8 B8 O8 hres l2 l4 l7 l10 l8 l9
      have hw : IntKind.i64.wrap ((k : Int) + 1) = ((k + 1 : Nat) : Int) := i64_wrap (by omega) (by omega)
      have hskip : leftC c8 = none → wC Try.prog f80c16 (X.inBlock 1 (X.then (fun σ h => wC Try.prog f80c18 Q' σ h) Q')) [(2, .bool yes), (4, ptr b1 0), (7, .slice a' m c'), (8, .slice (some ⟨b, o, none⟩) cs.length cl), (9, vi k), (10, ptr b4 0), (57, .bool false)] h8 := by
        intro hl
        (try simp (disch := first | exact Nat.le_of_ble_eq_true rfl | omega) only [AXR, AXB, J.dst, reduceIte, Nat.reduceEqDiff, Nat.reduceAdd, Nat.reduceMul, Nat.reduceLT, Nat.reduceLeDiff]); rw [f80c16_eq]; (try simp (disch := first | exact Nat.le_of_ble_eq_true rfl | omega) only [AXR, AXB, J.dst, reduceIte, Nat.reduceEqDiff, Nat.reduceAdd, Nat.reduceMul, Nat.reduceLT, Nat.reduceLeDiff, f80r0, f80r1, f80r2, f80r3, f80r4, f80r5, f80r6, f80r7, f80r8, f80r9, f80r10, f80r11, f80r12, f80r13, br_false])
        (try simp (disch := first | exact Nat.le_of_ble_eq_true rfl | omega) only [AXR, AXB, J.dst, reduceIte, Nat.reduceEqDiff, Nat.reduceAdd, Nat.reduceMul, Nat.reduceLT, Nat.reduceLeDiff]); rw [f80c18_eq]; (try simp (disch := first | exact Nat.le_of_ble_eq_true rfl | omega) only [AXR, AXB, J.dst, reduceIte, Nat.reduceEqDiff, Nat.reduceAdd, Nat.reduceMul, Nat.reduceLT, Nat.reduceLeDiff, f80r0, f80r1, f80r2, f80r3, f80r4, f80r5, f80r6, f80r7, f80r8, f80r9, f80r10, f80r11, f80r12, f80r13, hw])
        refine hnx (n - 1) _ _ (by omega) ⟨e3.trans e8, k + 1, m, c', a', by omega, by omega, ?_, hA, rfl⟩
        rw [List.take_add_one, hx, List.filterMap_append]
        simp only [Option.toList, List.filterMap_cons, List.filterMap_nil, ← hres, hl, List.append_nil]
        exact O.ext e8
      have hkeep : leftC c8 = some c8 → wC Try.prog f80c16 (X.inBlock 1 (X.then (fun σ h => wC Try.prog f80c18 Q' σ h) Q')) [(2, .bool yes), (4, ptr b1 0), (7, .slice a' m c'), (8, .slice (some ⟨b, o, none⟩) cs.length cl), (9, vi k), (10, ptr b4 0), (57, .bool true)] h8 := by
        intro hl
        (try simp (disch := first | exact Nat.le_of_ble_eq_true rfl | omega) only [AXR, AXB, J.dst, reduceIte, Nat.reduceEqDiff, Nat.reduceAdd, Nat.reduceMul, Nat.reduceLT, Nat.reduceLeDiff]); rw [f80c16_eq]; (try simp (disch := first | exact Nat.le_of_ble_eq_true rfl | omega) only [AXR, AXB, J.dst, reduceIte, Nat.reduceEqDiff, Nat.reduceAdd, Nat.reduceMul, Nat.reduceLT, Nat.reduceLeDiff, f80r0, f80r1, f80r2, f80r3, f80r4, f80r5, f80r6, f80r7, f80r8, f80r9, f80r10, f80r11, f80r12, f80r13, br_true])
        (try simp (disch := first | exact Nat.le_of_ble_eq_true rfl | omega) only [AXR, AXB, J.dst, reduceIte, Nat.reduceEqDiff, Nat.reduceAdd, Nat.reduceMul, Nat.reduceLT, Nat.reduceLeDiff]); rw [f80c17_eq]; (try simp (disch := first | exact Nat.le_of_ble_eq_true rfl | omega) only [AXR, AXB, J.dst, reduceIte, Nat.reduceEqDiff, Nat.reduceAdd, Nat.reduceMul, Nat.reduceLT, Nat.reduceLeDiff, f80r0, f80r1, f80r2, f80r3, f80r4, f80r5, f80r6, f80r7, f80r8, f80r9, f80r10, f80r11, f80r12, f80r13, B8.rd, eCV])
        refine wL_bslN rfl ?_; rintro b9 h9 e9 s9 hb9 (B9 : Blk _ _ _ (eCV v8))
        try simp (disch := first | exact Nat.le_of_ble_eq_true rfl | omega) only [AXR, AXB, J.dst, reduceIte, Nat.reduceEqDiff, Nat.reduceAdd, Nat.reduceMul, Nat.reduceLT, Nat.reduceLeDiff]
        rw [wL_raw]
        have e89 := e8.trans e9
        have hs89 := e89.size
        refine raw_push rfl rfl rfl (O.ext e89) B9 (O8.to fun b hb => ⟨⟨hb.1, ?_, hb.2.2⟩, e9.at_ b hb.2.1⟩) (by omega) (by omega) ?_
        · have := e9.size; omega
        intro a10 c10 h10 O10 G10 A10
        refine ⟨trivial, ?_⟩
        try simp (disch := first | exact Nat.le_of_ble_eq_true rfl | omega) only [AXR, AXB, J.dst, reduceIte, Nat.reduceEqDiff, Nat.reduceAdd, Nat.reduceMul, Nat.reduceLT, Nat.reduceLeDiff]
        (try simp (disch := first | exact Nat.le_of_ble_eq_true rfl | omega) only [AXR, AXB, J.dst, reduceIte, Nat.reduceEqDiff, Nat.reduceAdd, Nat.reduceMul, Nat.reduceLT, Nat.reduceLeDiff]); rw [f80c18_eq]; (try simp (disch := first | exact Nat.le_of_ble_eq_true rfl | omega) only [AXR, AXB, J.dst, reduceIte, Nat.reduceEqDiff, Nat.reduceAdd, Nat.reduceMul, Nat.reduceLT, Nat.reduceLeDiff, f80r0, f80r1, f80r2, f80r3, f80r4, f80r5, f80r6, f80r7, f80r8, f80r9, f80r10, f80r11, f80r12, f80r13, hw])
        refine hnx (n - 1) _ _ (by omega) ⟨G10.ext (e3.trans e89) hA, k + 1, m + 1, c10, a10, by omega, by omega, ?_, ?_, rfl⟩
        · rw [List.take_add_one, hx, List.filterMap_append]
          simp only [Option.toList, List.filterMap_cons, List.filterMap_nil, ← hres, hl]
          exact O10
        · intro j hj
          rcases A10 with e | ⟨q, e, hq⟩
          · exact hA j (e ▸ hj)
          · rw [e] at hj; cases hj; omega
      (try simp (disch := first | exact Nat.le_of_ble_eq_true rfl | omega) only [AXR, AXB, J.dst, reduceIte, Nat.reduceEqDiff, Nat.reduceAdd, Nat.reduceMul, Nat.reduceLT, Nat.reduceLeDiff]); rw [f80c15_eq]; (try simp (disch := first | exact Nat.le_of_ble_eq_true rfl | omega) only [AXR, AXB, J.dst, reduceIte, Nat.reduceEqDiff, Nat.reduceAdd, Nat.reduceMul, Nat.reduceLT, Nat.reduceLeDiff, f80r0, f80r1, f80r2, f80r3, f80r4, f80r5, f80r6, f80r7, f80r8, f80r9, f80r10, f80r11, f80r12, f80r13, B8.cel, eCV, l2, l4, l7, l10, l8, l9])
      have hlk := O8.locked
      rw [vers_pos c8 O8.vn, hlk]
      refine ⟨fun hl => hkeep (by simp [leftC, hl]), fun hl => ?_⟩
      by_cases hv : c8.vers = []
      · rw [decide_eq_false (by simp [hv])]
        exact hskip (by simp [leftC, hl, hv])
      · rw [decide_eq_true hv]
        exact hkeep (by simp [leftC, hv])
    -- the lock is taken away
    have clr : ∀ (h8 : Heap) (τ : Env) (v8 : CV) (c8 : Cell), Ext h' h8 → Blk h8 b4 103 (eCV v8) → CR (fun b => h1.size ≤ b ∧ b < h8.size ∧ some b ≠ ob a' ∧ b ≠ b4) h8 v8 c8 → (⟨c8.key, c8.vers, false, noLock⟩ : Cell) = rsettleC by_ yes x →
        AX.look τ 2 = some (.bool yes) → AX.look τ 4 = some (ptr b1 0) → AX.look τ 7 = some (.slice a' m c') → AX.look τ 10 = some (ptr b4 0) → AX.look τ 8 = some (.slice (some ⟨b, o, none⟩) cs.length cl) → AX.look τ 9 = some (vi k) →
        wC Try.prog f80c14 (X.then (fun σ h => wC Try.prog f80c15 (X.inBlock 1 (X.then (fun σ h => wC Try.prog f80c18 Q' σ h) Q')) σ h) (X.inBlock 1 (X.then (fun σ h => wC Try.prog f80c18 Q' σ h) Q'))) τ h8 := by
      intro h8 τ v8 c8 e8 B8 O8 hres l2 l4 l7 l10 l8 l9
      (try simp (disch := first | exact Nat.le_of_ble_eq_true rfl | omega) only [AXR, AXB, J.dst, reduceIte, Nat.reduceEqDiff, Nat.reduceAdd, Nat.reduceMul, Nat.reduceLT, Nat.reduceLeDiff]); rw [f80c14_eq]; (try simp (disch := first | exact Nat.le_of_ble_eq_true rfl | omega) only [AXR, AXB, J.dst, reduceIte, Nat.reduceEqDiff, Nat.reduceAdd, Nat.reduceMul, Nat.reduceLT, Nat.reduceLeDiff, f80r0, f80r1, f80r2, f80r3, f80r4, f80r5, f80r6, f80r7, f80r8, f80r9, f80r10, f80r11, f80r12, f80r13, l2, l4, l7, l10, l8, l9])
      refine wL_stN (by first | exact l10 | rfl) rfl rfl B8 (by rw [eCV_len]; exact Nat.le_of_ble_eq_true rfl) (one_b _) ?_
      rintro h9 u9 B9
      simp (disch := first | exact Nat.le_of_ble_eq_true rfl | omega) only [AXR, AXB, J.dst, reduceIte, Nat.reduceEqDiff, Nat.reduceAdd, Nat.reduceMul, Nat.reduceLT, Nat.reduceLeDiff, l2, l4, l7, l10, l8, l9]
      refine wL_stN rfl rfl rfl B9 (by rw [putL_length, eCV_len]; exact Nat.le_of_ble_eq_true rfl) (one_lck noLock) ?_
      rintro h10 u10 (B10 : Blk _ _ _ (eCV { v8 with locked := false, lock := noLock }))
      simp (disch := first | exact Nat.le_of_ble_eq_true rfl | omega) only [AXR, AXB, J.dst, reduceIte, Nat.reduceEqDiff, Nat.reduceAdd, Nat.reduceMul, Nat.reduceLT, Nat.reduceLeDiff, l2, l4, l7, l10, l8, l9]
      refine app h10 _ { v8 with locked := false, lock := noLock } ⟨c8.key, c8.vers, false, noLock⟩ (u10.ext (u9.ext e8 (by omega)) (by omega)) B10 ⟨O8.key, rfl, rfl, O8.vn, O8.cap, O8.vers.to fun b hb => ⟨⟨hb.1, ?_, hb.2.2.1⟩, ?_⟩⟩ hres rfl rfl rfl rfl rfl rfl
      · rw [u10.size, u9.size]; exact hb.2.1
      · exact (u10.ne b hb.2.2.2).trans (u9.ne b hb.2.2.2)
    have B17 : Blk h5 b1 37 (eTry by_) := B1.ext (e2.trans e35)
    have O5 : CR (fun b => h1.size ≤ b ∧ b < h5.size ∧ some b ≠ ob a' ∧ b ≠ b4) h5 v x := hcr.to fun b hb => ⟨⟨hb.1, by omega, fun e => by have := hA b e.symm; omega, by omega⟩, e35.at_ b hb.2⟩
    (try simp (disch := first | exact Nat.le_of_ble_eq_true rfl | omega) only [AXR, AXB, J.dst, reduceIte, Nat.reduceEqDiff, Nat.reduceAdd, Nat.reduceMul, Nat.reduceLT, Nat.reduceLeDiff]); rw [f80c9_eq]; (try simp (disch := first | exact Nat.le_of_ble_eq_true rfl | omega) only [AXR, AXB, J.dst, reduceIte, Nat.reduceEqDiff, Nat.reduceAdd, Nat.reduceMul, Nat.reduceLT, Nat.reduceLeDiff, f80r0, f80r1, f80r2, f80r3, f80r4, f80r5, f80r6, f80r7, f80r8, f80r9, f80r10, f80r11, f80r12, f80r13, B5.cel, B5.rd, B17.rd, eCV, eTry, eqA_try, hcr.locked, hcr.lock])
    have hno : (x.locked && decide (x.lock.by_ = by_)) = false → wC Try.prog f80c10 (X.inBlock 1 (X.then (fun σ h => wC Try.prog f80c18 Q' σ h) Q'))
      [(2, .bool yes), (4, ptr b1 0), (7, .slice a' m c'), (8, .slice (some ⟨b, o, none⟩) cs.length cl), (9, vi k), (10, ptr b4 0), (31, .bool false)] h5 := by
      intro hf
      (try simp (disch := first | exact Nat.le_of_ble_eq_true rfl | omega) only [AXR, AXB, J.dst, reduceIte, Nat.reduceEqDiff, Nat.reduceAdd, Nat.reduceMul, Nat.reduceLT, Nat.reduceLeDiff]); rw [f80c10_eq]; (try simp (disch := first | exact Nat.le_of_ble_eq_true rfl | omega) only [AXR, AXB, J.dst, reduceIte, Nat.reduceEqDiff, Nat.reduceAdd, Nat.reduceMul, Nat.reduceLT, Nat.reduceLeDiff, f80r0, f80r1, f80r2, f80r3, f80r4, f80r5, f80r6, f80r7, f80r8, f80r9, f80r10, f80r11, f80r12, f80r13, br_false])
      exact app h5 _ v x e5 B5 (O5.imp fun b hb => ⟨hb.1, hb.2.1, hb.2.2.1⟩) (by unfold rsettleC; rw [if_neg (by simp [hf])]) rfl rfl rfl rfl rfl rfl
    refine ⟨fun hl => ?_, fun hl => hno (by simp [hl])⟩
    by_cases hby : x.lock.by_ = by_
    · rw [decide_eq_true hby]
      have hset : rsettleC by_ yes x = ⟨x.key, if yes then withV x.vers (verL x.lock) else x.vers, false, noLock⟩ := by
        unfold rsettleC; rw [if_pos (by simp [hl, hby])]
      (try simp (disch := first | exact Nat.le_of_ble_eq_true rfl | omega) only [AXR, AXB, J.dst, reduceIte, Nat.reduceEqDiff, Nat.reduceAdd, Nat.reduceMul, Nat.reduceLT, Nat.reduceLeDiff]); rw [f80c10_eq]; (try simp (disch := first | exact Nat.le_of_ble_eq_true rfl | omega) only [AXR, AXB, J.dst, reduceIte, Nat.reduceEqDiff, Nat.reduceAdd, Nat.reduceMul, Nat.reduceLT, Nat.reduceLeDiff, f80r0, f80r1, f80r2, f80r3, f80r4, f80r5, f80r6, f80r7, f80r8, f80r9, f80r10, f80r11, f80r12, f80r13, br_true])
      (try simp (disch := first | exact Nat.le_of_ble_eq_true rfl | omega) only [AXR, AXB, J.dst, reduceIte, Nat.reduceEqDiff, Nat.reduceAdd, Nat.reduceMul, Nat.reduceLT, Nat.reduceLeDiff]); rw [f80c11_eq]; (try simp (disch := first | exact Nat.le_of_ble_eq_true rfl | omega) only [AXR, AXB, J.dst, reduceIte, Nat.reduceEqDiff, Nat.reduceAdd, Nat.reduceMul, Nat.reduceLT, Nat.reduceLeDiff, f80r0, f80r1, f80r2, f80r3, f80r4, f80r5, f80r6, f80r7, f80r8, f80r9, f80r10, f80r11, f80r12, f80r13]); rw [f80c12_eq]; (try simp (disch := first | exact Nat.le_of_ble_eq_true rfl | omega) only [AXR, AXB, J.dst, reduceIte, Nat.reduceEqDiff, Nat.reduceAdd, Nat.reduceMul, Nat.reduceLT, Nat.reduceLeDiff, f80r0, f80r1, f80r2, f80r3, f80r4, f80r5, f80r6, f80r7, f80r8, f80r9, f80r10, f80r11, f80r12, f80r13])
      refine ⟨fun hy => ?_, fun hy => ?_⟩
      · (try simp (disch := first | exact Nat.le_of_ble_eq_true rfl | omega) only [AXR, AXB, J.dst, reduceIte, Nat.reduceEqDiff, Nat.reduceAdd, Nat.reduceMul, Nat.reduceLT, Nat.reduceLeDiff]); rw [f80c13_eq]; (try simp (disch := first | exact Nat.le_of_ble_eq_true rfl | omega) only [AXR, AXB, J.dst, reduceIte, Nat.reduceEqDiff, Nat.reduceAdd, Nat.reduceMul, Nat.reduceLT, Nat.reduceLeDiff, f80r0, f80r1, f80r2, f80r3, f80r4, f80r5, f80r6, f80r7, f80r8, f80r9, f80r10, f80r11, f80r12, f80r13, B5.cel, B5.rd, eCV, hcr.lock, hcr.vn])
        refine with_ok x.vers (verL x.lock) _ O5.vers (by omega) ?_
        intro a8 n8 c8 h8 O8 hn8 e8
        try simp (disch := first | exact Nat.le_of_ble_eq_true rfl | omega) only [AXR, AXB, J.dst, reduceIte, Nat.reduceEqDiff, Nat.reduceAdd, Nat.reduceMul, Nat.reduceLT, Nat.reduceLeDiff]
        have B8 := B5.ext e8
        have hO8 := O8.ob
        refine wL_stN rfl rfl rfl B8 (by rw [eCV_len]; exact Nat.le_of_ble_eq_true rfl) (one_sl _ _ _) ?_
        rintro h9 u9 (B9 : Blk _ _ _ (eCV { v with va := a8, vn := n8, vc := c8 }))
        try simp (disch := first | exact Nat.le_of_ble_eq_true rfl | omega) only [AXR, AXB, J.dst, reduceIte, Nat.reduceEqDiff, Nat.reduceAdd, Nat.reduceMul, Nat.reduceLT, Nat.reduceLeDiff]
        have O9 := O8.gr u9.gr (fun j hj => by have := hO8 j hj; intro e; cases e; omega)
        refine clr h9 _ { v with va := a8, vn := n8, vc := c8 } ⟨x.key, withV x.vers (verL x.lock), x.locked, x.lock⟩ (u9.ext (e5.trans e8) (by omega)) B9 ⟨hcr.key, hcr.locked, hcr.lock, hn8, O9.room.1, (SlF.of_own O9 hn8).imp fun b hb => ⟨?_, hb.2.1, ?_, ?_⟩⟩ (by rw [hset, hy]; rfl) rfl rfl rfl rfl rfl rfl
        · omega
        · intro e; have := hO b e.symm; omega
        · omega
      · try simp (disch := first | exact Nat.le_of_ble_eq_true rfl | omega) only [AXR, AXB, J.dst, reduceIte, Nat.reduceEqDiff, Nat.reduceAdd, Nat.reduceMul, Nat.reduceLT, Nat.reduceLeDiff]
        exact clr h5 _ v x e5 B5 O5 (by rw [hset, hy]; rfl) rfl rfl rfl rfl rfl rfl
    · rw [decide_eq_false hby]
      exact hno (by simp [hby])
  · have hkl : k = cs.length := by have := of_decide_eq_false h2; omega
    subst hkl
    refine hex _ _ ?_
    (try simp (disch := first | exact Nat.le_of_ble_eq_true rfl | omega) only [AXR, AXB, J.dst, reduceIte, Nat.reduceEqDiff, Nat.reduceAdd, Nat.reduceMul, Nat.reduceLT, Nat.reduceLeDiff]); rw [f80c19_eq]; (try simp (disch := first | exact Nat.le_of_ble_eq_true rfl | omega) only [AXR, AXB, J.dst, reduceIte, Nat.reduceEqDiff, Nat.reduceAdd, Nat.reduceMul, Nat.reduceLT, Nat.reduceLeDiff, f80r0, f80r1, f80r2, f80r3, f80r4, f80r5, f80r6, f80r7, f80r8, f80r9, f80r10, f80r11, f80r12, f80r13])
    rw [List.take_length] at O
    exact hR _ _ _ _ (O.mono e1.size) (e12.trans e3)
end Go.Proofs.Ytefghfgmkndikaa
