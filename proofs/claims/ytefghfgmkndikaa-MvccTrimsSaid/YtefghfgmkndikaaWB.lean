/-
  Walks: Settle.
-/
import Derived.Test.YtefghfgmkndikaaWA
set_option linter.unusedSimpArgs false
set_option linter.unusedVariables false
namespace Go.AX
open Go
/-- What is left of a cell that may go. -/
def leftC (c : Cell) : Option Cell := if c.locked || decide (c.vers ≠ []) then some c else none
def verL (l : Lck) : Ver := ⟨l.at_, l.drop, l.data⟩
def settleC (by_ : Try4) (yes : Bool) (c : Cell) : Cell :=
  if c.locked && decide (c.lock.by_ = by_) then ⟨c.key, if yes then putV c.vers (verL c.lock) else c.vers, false, noLock⟩ else c
def settleL (cs : List Cell) (by_ : Try4) (yes : Bool) : List Cell := cs.filterMap fun c => leftC (settleC by_ yes c)
theorem OC.box {lo : Nat} {h h' : Heap} {b : Nat} {v : CV} {c : Cell} (r : OC lo h v c) (u : Upd b h h') (hb : b < lo) : OC lo h' v c :=
  ⟨r.key, r.locked, r.lock, r.vn, r.vers.gr u.gr (fun k hk => by have := r.vers.ob k hk; intro e; cases e; omega)⟩
theorem OwnC.mono {lo lo' : Nat} {h : Heap} {a : Option Addr} {n c : Nat} {cs : List Cell} (O : OwnC lo h a n c cs) (hl : lo' ≤ lo) : OwnC lo' h a n c cs := by
  obtain ⟨vs, h1, h2, h3⟩ := O
  exact ⟨vs, h1.mono hl, h2, h3.imp fun _ _ r => r.imp fun b hb => ⟨Nat.le_trans hl hb.1, hb.2⟩⟩
theorem vers_pos (c : Cell) {n : Nat} (hn : n = c.vers.length) : decide ((n : Int) > 0) = decide (c.vers ≠ []) := by
  subst hn
  cases c.vers with
  | nil => rfl
  | cons a l => simp
end Go.AX
namespace Go.Proofs.Ytefghfgmkndikaa
open Go Go.AX

theorem settle_ok {B : Nat → Prop} {a : Option Addr} {c : Nat} (cs : List Cell) (by_ : Try4) (yes : Bool) (h : Heap) (S : SlC B h a cs) (hn : cs.length ≤ big) (F : ∀ c ∈ cs, c.vers.length < big) {R : Value → Heap → Prop}
    (hR : ∀ a' n' c' h', OwnC h.size h' a' n' c' (settleL cs by_ yes) → Ext h h' → R (.slice a' n' c') h') : CallsH Try.prog 39 [.slice a cs.length c, .agg (eTry by_).toArray, .bool yes] h R := by
  have hbig : big = 1000000 := rfl
  refine f39ok (by simp) ?_
  (try simp (disch := first | exact Nat.le_of_ble_eq_true rfl | omega) only [AXR, AXB, J.dst, reduceIte, Nat.reduceEqDiff, Nat.reduceAdd, Nat.reduceMul, Nat.reduceLT, Nat.reduceLeDiff]); rw [f39c0_eq]; (try simp (disch := first | exact Nat.le_of_ble_eq_true rfl | omega) only [AXR, AXB, J.dst, reduceIte, Nat.reduceEqDiff, Nat.reduceAdd, Nat.reduceMul, Nat.reduceLT, Nat.reduceLeDiff, f39r0, f39r1, f39r2, f39r3, f39r4, f39r5, f39r6, f39r7, f39r8, f39r9, f39r10, f39r11, f39r12, f39r13])
  refine wL_boxN rfl ?_; rintro b1 h1 e1 s1 hb1 (B1 : Blk _ _ _ (eTry by_))
  (try simp (disch := first | exact Nat.le_of_ble_eq_true rfl | omega) only [AXR, AXB, J.dst, reduceIte, Nat.reduceEqDiff, Nat.reduceAdd, Nat.reduceMul, Nat.reduceLT, Nat.reduceLeDiff]); rw [f39c1_eq]; (try simp (disch := first | exact Nat.le_of_ble_eq_true rfl | omega) only [AXR, AXB, J.dst, reduceIte, Nat.reduceEqDiff, Nat.reduceAdd, Nat.reduceMul, Nat.reduceLT, Nat.reduceLeDiff, f39r0, f39r1, f39r2, f39r3, f39r4, f39r5, f39r6, f39r7, f39r8, f39r9, f39r10, f39r11, f39r12, f39r13]); rw [f39c2_eq]; (try simp (disch := first | exact Nat.le_of_ble_eq_true rfl | omega) only [AXR, AXB, J.dst, reduceIte, Nat.reduceEqDiff, Nat.reduceAdd, Nat.reduceMul, Nat.reduceLT, Nat.reduceLeDiff, f39r0, f39r1, f39r2, f39r3, f39r4, f39r5, f39r6, f39r7, f39r8, f39r9, f39r10, f39r11, f39r12, f39r13])
  rw [f39c3_eq]
  refine loop_in (fun n σ h' => Ext h1 h' ∧ ∃ (k m c' : Nat) (a' : Option Addr), k + n = cs.length ∧ m ≤ k ∧ OwnC h1.size h' a' m c' ((cs.take k).filterMap fun c => leftC (settleC by_ yes c)) ∧
      σ = [(2, .bool yes), (4, ptr b1 0), (7, .slice a' m c'), (10, .slice a cs.length c), (11, vi cs.length), (12, vi k)])
    cs.length ⟨Ext.refl _, 0, 0, 0, none, by omega, by omega, OwnC.nil _ _, rfl⟩ ?_
  rintro n σ h' ⟨e2, k, m, c', a', hk, hm, O, rfl⟩ Q' hnx hex hrt _
  have eh := e1.trans e2
  (try simp (disch := first | exact Nat.le_of_ble_eq_true rfl | omega) only [AXR, AXB, J.dst, reduceIte, Nat.reduceEqDiff, Nat.reduceAdd, Nat.reduceMul, Nat.reduceLT, Nat.reduceLeDiff]); rw [f39c4_eq]; (try simp (disch := first | exact Nat.le_of_ble_eq_true rfl | omega) only [AXR, AXB, J.dst, reduceIte, Nat.reduceEqDiff, Nat.reduceAdd, Nat.reduceMul, Nat.reduceLT, Nat.reduceLeDiff, f39r0, f39r1, f39r2, f39r3, f39r4, f39r5, f39r6, f39r7, f39r8, f39r9, f39r10, f39r11, f39r12, f39r13]); rw [f39c5_eq]; (try simp (disch := first | exact Nat.le_of_ble_eq_true rfl | omega) only [AXR, AXB, J.dst, reduceIte, Nat.reduceEqDiff, Nat.reduceAdd, Nat.reduceMul, Nat.reduceLT, Nat.reduceLeDiff, f39r0, f39r1, f39r2, f39r3, f39r4, f39r5, f39r6, f39r7, f39r8, f39r9, f39r10, f39r11, f39r12, f39r13])
  refine ⟨fun h2 => ?_, fun h2 => ?_⟩
  · have hkl : k < cs.length := by have := of_decide_eq_true h2; omega
    obtain ⟨x, hx⟩ := get_ex hkl
    obtain ⟨b, o, v, rfl, _, hrow, hcr⟩ := (S.ext eh).elem hx
    have hxF := F x (List.mem_of_getElem? hx)
    rw [f39c6_eq]
    (try simp (disch := first | exact Nat.le_of_ble_eq_true rfl | omega) only [AXR, AXB, J.dst, reduceIte, Nat.reduceEqDiff, Nat.reduceAdd, Nat.reduceMul, Nat.reduceLT, Nat.reduceLeDiff]); rw [f39c7_eq]; (try simp (disch := first | exact Nat.le_of_ble_eq_true rfl | omega) only [AXR, AXB, J.dst, reduceIte, Nat.reduceEqDiff, Nat.reduceAdd, Nat.reduceMul, Nat.reduceLT, Nat.reduceLeDiff, f39r0, f39r1, f39r2, f39r3, f39r4, f39r5, f39r6, f39r7, f39r8, f39r9, f39r10, f39r11, f39r12, f39r13, row_cv hrow])
    refine ⟨by omega, by omega, ?_⟩
    refine wL_newN ?_; rintro b4 h4 e4 s4 hb4 B4
    refine wL_stN rfl rfl rfl B4 (by decide) (eCV_one v) ?_; rintro h5 u5 (B5 : Blk _ _ _ (eCV v))
    have e5 := u5.ext e4 (by omega)
    (try simp (disch := first | exact Nat.le_of_ble_eq_true rfl | omega) only [AXR, AXB, J.dst, reduceIte, Nat.reduceEqDiff, Nat.reduceAdd, Nat.reduceMul, Nat.reduceLT, Nat.reduceLeDiff]); rw [f39c8_eq]; (try simp (disch := first | exact Nat.le_of_ble_eq_true rfl | omega) only [AXR, AXB, J.dst, reduceIte, Nat.reduceEqDiff, Nat.reduceAdd, Nat.reduceMul, Nat.reduceLT, Nat.reduceLeDiff, f39r0, f39r1, f39r2, f39r3, f39r4, f39r5, f39r6, f39r7, f39r8, f39r9, f39r10, f39r11, f39r12, f39r13, B5.rd, eCV])
    refine own_ok v x _ (hcr.ext e5) (by omega) ?_
    intro x' h6 O6 e6
    try simp (disch := first | exact Nat.le_of_ble_eq_true rfl | omega) only [AXR, AXB, J.dst, reduceIte, Nat.reduceEqDiff, Nat.reduceAdd, Nat.reduceMul, Nat.reduceLT, Nat.reduceLeDiff]
    have hb45 := B5.lt
    replace B5 := B5.ext e6
    refine wL_stN rfl rfl rfl B5 (by rw [eCV_len]; exact Nat.le_of_ble_eq_true rfl) (eCV_one x') ?_; rintro h7 u7 (B7 : Blk _ _ _ (eCV x'))
    try simp (disch := first | exact Nat.le_of_ble_eq_true rfl | omega) only [AXR, AXB, J.dst, reduceIte, Nat.reduceEqDiff, Nat.reduceAdd, Nat.reduceMul, Nat.reduceLT, Nat.reduceLeDiff]
    have O7 := O6.box u7 hb45
    have e7 : Ext h' h7 := u7.ext (e5.trans e6) (by omega)
    have hO := O.row
    have hs1 := B1.lt
    have hse := eh.size
    have hs2 := e2.size
    have hs5 := e5.size
    -- what is left is appended
    have app : ∀ (h8 : Heap) (τ : Env) (v8 : CV) (c8 : Cell), Ext h' h8 → Blk h8 b4 103 (eCV v8) → OC h5.size h8 v8 c8 → c8 = settleC by_ yes x →
        wC Try.prog f39c15 (X.inBlock 1 (X.then (fun σ h => wC Try.prog f39c18 Q' σ h) Q')) ((2, .bool yes) :: (4, ptr b1 0) :: (7, .slice a' m c') :: (9, ptr b4 0) :: (10, .slice (some ⟨b, o, none⟩) cs.length c) :: (11, vi cs.length) :: (12, vi k) :: τ) h8 := by
      intro h8 τ v8 c8 e8 B8 O8 hres
      have hw : IntKind.i64.wrap ((k : Int) + 1) = ((k + 1 : Nat) : Int) := i64_wrap (by omega) (by omega)
      have hskip : leftC c8 = none → ∀ τ, wC Try.prog f39c16 (X.inBlock 1 (X.then (fun σ h => wC Try.prog f39c18 Q' σ h) Q')) ((2, .bool yes) :: (4, ptr b1 0) :: (7, .slice a' m c') :: (9, ptr b4 0) :: (10, .slice (some ⟨b, o, none⟩) cs.length c) :: (11, vi cs.length) :: (12, vi k) :: (52, .bool false) :: τ) h8 := by
        intro hl τ
        (try simp (disch := first | exact Nat.le_of_ble_eq_true rfl | omega) only [AXR, AXB, J.dst, reduceIte, Nat.reduceEqDiff, Nat.reduceAdd, Nat.reduceMul, Nat.reduceLT, Nat.reduceLeDiff]); rw [f39c16_eq]; (try simp (disch := first | exact Nat.le_of_ble_eq_true rfl | omega) only [AXR, AXB, J.dst, reduceIte, Nat.reduceEqDiff, Nat.reduceAdd, Nat.reduceMul, Nat.reduceLT, Nat.reduceLeDiff, f39r0, f39r1, f39r2, f39r3, f39r4, f39r5, f39r6, f39r7, f39r8, f39r9, f39r10, f39r11, f39r12, f39r13, br_false])
        (try simp (disch := first | exact Nat.le_of_ble_eq_true rfl | omega) only [AXR, AXB, J.dst, reduceIte, Nat.reduceEqDiff, Nat.reduceAdd, Nat.reduceMul, Nat.reduceLT, Nat.reduceLeDiff]); rw [f39c18_eq]; (try simp (disch := first | exact Nat.le_of_ble_eq_true rfl | omega) only [AXR, AXB, J.dst, reduceIte, Nat.reduceEqDiff, Nat.reduceAdd, Nat.reduceMul, Nat.reduceLT, Nat.reduceLeDiff, f39r0, f39r1, f39r2, f39r3, f39r4, f39r5, f39r6, f39r7, f39r8, f39r9, f39r10, f39r11, f39r12, f39r13, hw])
        refine hnx (n - 1) _ _ (by omega) ⟨e2.trans e8, k + 1, m, c', a', by omega, by omega, ?_, rfl⟩
        rw [List.take_add_one, hx, List.filterMap_append]
        simp only [Option.toList, List.filterMap_cons, List.filterMap_nil, ← hres, hl, List.append_nil]
        exact O.ext e8
      have hkeep : leftC c8 = some c8 → ∀ τ, wC Try.prog f39c16 (X.inBlock 1 (X.then (fun σ h => wC Try.prog f39c18 Q' σ h) Q')) ((2, .bool yes) :: (4, ptr b1 0) :: (7, .slice a' m c') :: (9, ptr b4 0) :: (10, .slice (some ⟨b, o, none⟩) cs.length c) :: (11, vi cs.length) :: (12, vi k) :: (52, .bool true) :: τ) h8 := by
        intro hl τ
        (try simp (disch := first | exact Nat.le_of_ble_eq_true rfl | omega) only [AXR, AXB, J.dst, reduceIte, Nat.reduceEqDiff, Nat.reduceAdd, Nat.reduceMul, Nat.reduceLT, Nat.reduceLeDiff]); rw [f39c16_eq]; (try simp (disch := first | exact Nat.le_of_ble_eq_true rfl | omega) only [AXR, AXB, J.dst, reduceIte, Nat.reduceEqDiff, Nat.reduceAdd, Nat.reduceMul, Nat.reduceLT, Nat.reduceLeDiff, f39r0, f39r1, f39r2, f39r3, f39r4, f39r5, f39r6, f39r7, f39r8, f39r9, f39r10, f39r11, f39r12, f39r13, br_true])
        (try simp (disch := first | exact Nat.le_of_ble_eq_true rfl | omega) only [AXR, AXB, J.dst, reduceIte, Nat.reduceEqDiff, Nat.reduceAdd, Nat.reduceMul, Nat.reduceLT, Nat.reduceLeDiff]); rw [f39c17_eq]; (try simp (disch := first | exact Nat.le_of_ble_eq_true rfl | omega) only [AXR, AXB, J.dst, reduceIte, Nat.reduceEqDiff, Nat.reduceAdd, Nat.reduceMul, Nat.reduceLT, Nat.reduceLeDiff, f39r0, f39r1, f39r2, f39r3, f39r4, f39r5, f39r6, f39r7, f39r8, f39r9, f39r10, f39r11, f39r12, f39r13, B8.rd, eCV])
        refine wL_bslN rfl ?_; rintro b9 h9 e9 s9 hb9 (B9 : Blk _ _ _ (eCV v8))
        try simp (disch := first | exact Nat.le_of_ble_eq_true rfl | omega) only [AXR, AXB, J.dst, reduceIte, Nat.reduceEqDiff, Nat.reduceAdd, Nat.reduceMul, Nat.reduceLT, Nat.reduceLeDiff]
        rw [wL_raw]
        have e89 := e8.trans e9
        have hs89 := e89.size
        refine raw_push rfl rfl rfl (O.ext e89) B9 ((O8.ext e9).cr.to fun b hb => ⟨⟨?_, hb.2.1, ?_⟩, rfl⟩) (by omega) (by omega) ?_
        · omega
        · intro e; have := hO b e.symm; omega
        intro a10 c10 h10 O10 G10 A10
        refine ⟨trivial, ?_⟩
        try simp (disch := first | exact Nat.le_of_ble_eq_true rfl | omega) only [AXR, AXB, J.dst, reduceIte, Nat.reduceEqDiff, Nat.reduceAdd, Nat.reduceMul, Nat.reduceLT, Nat.reduceLeDiff]
        (try simp (disch := first | exact Nat.le_of_ble_eq_true rfl | omega) only [AXR, AXB, J.dst, reduceIte, Nat.reduceEqDiff, Nat.reduceAdd, Nat.reduceMul, Nat.reduceLT, Nat.reduceLeDiff]); rw [f39c18_eq]; (try simp (disch := first | exact Nat.le_of_ble_eq_true rfl | omega) only [AXR, AXB, J.dst, reduceIte, Nat.reduceEqDiff, Nat.reduceAdd, Nat.reduceMul, Nat.reduceLT, Nat.reduceLeDiff, f39r0, f39r1, f39r2, f39r3, f39r4, f39r5, f39r6, f39r7, f39r8, f39r9, f39r10, f39r11, f39r12, f39r13, hw])
        refine hnx (n - 1) _ _ (by omega) ⟨G10.ext (e2.trans e89) (fun j hj => (hO j hj).1), k + 1, m + 1, c10, a10, by omega, by omega, ?_, rfl⟩
        rw [List.take_add_one, hx, List.filterMap_append]
        simp only [Option.toList, List.filterMap_cons, List.filterMap_nil, ← hres, hl]
        exact O10
      (try simp (disch := first | exact Nat.le_of_ble_eq_true rfl | omega) only [AXR, AXB, J.dst, reduceIte, Nat.reduceEqDiff, Nat.reduceAdd, Nat.reduceMul, Nat.reduceLT, Nat.reduceLeDiff]); rw [f39c15_eq]; (try simp (disch := first | exact Nat.le_of_ble_eq_true rfl | omega) only [AXR, AXB, J.dst, reduceIte, Nat.reduceEqDiff, Nat.reduceAdd, Nat.reduceMul, Nat.reduceLT, Nat.reduceLeDiff, f39r0, f39r1, f39r2, f39r3, f39r4, f39r5, f39r6, f39r7, f39r8, f39r9, f39r10, f39r11, f39r12, f39r13, B8.cel, eCV])
      have hlk := O8.locked
      rw [vers_pos c8 O8.vn, hlk]
      refine ⟨fun hl => hkeep (by simp [leftC, hl]) [], fun hl => ?_⟩
      by_cases hv : c8.vers = []
      · rw [decide_eq_false (by simp [hv])]
        exact hskip (by simp [leftC, hl, hv]) []
      · rw [decide_eq_true hv]
        exact hkeep (by simp [leftC, hv]) []
    -- the lock is taken away
    have clr : ∀ (h8 : Heap) (τ : Env) (v8 : CV) (c8 : Cell), Ext h' h8 → Blk h8 b4 103 (eCV v8) → OC h5.size h8 v8 c8 → (⟨c8.key, c8.vers, false, noLock⟩ : Cell) = settleC by_ yes x →
        wC Try.prog f39c14 (X.then (fun σ h => wC Try.prog f39c15 (X.inBlock 1 (X.then (fun σ h => wC Try.prog f39c18 Q' σ h) Q')) σ h) (X.inBlock 1 (X.then (fun σ h => wC Try.prog f39c18 Q' σ h) Q')))
          ((2, .bool yes) :: (4, ptr b1 0) :: (7, .slice a' m c') :: (9, ptr b4 0) :: (10, .slice (some ⟨b, o, none⟩) cs.length c) :: (11, vi cs.length) :: (12, vi k) :: τ) h8 := by
      intro h8 τ v8 c8 e8 B8 O8 hres
      (try simp (disch := first | exact Nat.le_of_ble_eq_true rfl | omega) only [AXR, AXB, J.dst, reduceIte, Nat.reduceEqDiff, Nat.reduceAdd, Nat.reduceMul, Nat.reduceLT, Nat.reduceLeDiff]); rw [f39c14_eq]; (try simp (disch := first | exact Nat.le_of_ble_eq_true rfl | omega) only [AXR, AXB, J.dst, reduceIte, Nat.reduceEqDiff, Nat.reduceAdd, Nat.reduceMul, Nat.reduceLT, Nat.reduceLeDiff, f39r0, f39r1, f39r2, f39r3, f39r4, f39r5, f39r6, f39r7, f39r8, f39r9, f39r10, f39r11, f39r12, f39r13])
      refine wL_stN rfl rfl rfl B8 (by rw [eCV_len]; exact Nat.le_of_ble_eq_true rfl) (one_b _) ?_
      rintro h9 u9 B9
      try simp (disch := first | exact Nat.le_of_ble_eq_true rfl | omega) only [AXR, AXB, J.dst, reduceIte, Nat.reduceEqDiff, Nat.reduceAdd, Nat.reduceMul, Nat.reduceLT, Nat.reduceLeDiff]
      refine wL_stN rfl rfl rfl B9 (by rw [putL_length, eCV_len]; exact Nat.le_of_ble_eq_true rfl) (one_lck noLock) ?_
      rintro h10 u10 (B10 : Blk _ _ _ (eCV { v8 with locked := false, lock := noLock }))
      try simp (disch := first | exact Nat.le_of_ble_eq_true rfl | omega) only [AXR, AXB, J.dst, reduceIte, Nat.reduceEqDiff, Nat.reduceAdd, Nat.reduceMul, Nat.reduceLT, Nat.reduceLeDiff]
      have O10 := (O8.box u9 hb45).box u10 hb45
      exact app h10 [] { v8 with locked := false, lock := noLock } ⟨c8.key, c8.vers, false, noLock⟩ (u10.ext (u9.ext e8 (by omega)) (by omega)) B10 ⟨O8.key, rfl, rfl, O8.vn, O10.vers⟩ hres
    have B17 : Blk h7 b1 37 (eTry by_) := B1.ext (e2.trans e7)
    (try simp (disch := first | exact Nat.le_of_ble_eq_true rfl | omega) only [AXR, AXB, J.dst, reduceIte, Nat.reduceEqDiff, Nat.reduceAdd, Nat.reduceMul, Nat.reduceLT, Nat.reduceLeDiff]); rw [f39c9_eq]; (try simp (disch := first | exact Nat.le_of_ble_eq_true rfl | omega) only [AXR, AXB, J.dst, reduceIte, Nat.reduceEqDiff, Nat.reduceAdd, Nat.reduceMul, Nat.reduceLT, Nat.reduceLeDiff, f39r0, f39r1, f39r2, f39r3, f39r4, f39r5, f39r6, f39r7, f39r8, f39r9, f39r10, f39r11, f39r12, f39r13, B7.cel, B7.rd, B17.rd, eCV, eTry, eqA_try, O7.locked, O7.lock])
    have hno : (x.locked && decide (x.lock.by_ = by_)) = false → wC Try.prog f39c10 (X.inBlock 1 (X.then (fun σ h => wC Try.prog f39c18 Q' σ h) Q'))
      [(2, .bool yes), (4, ptr b1 0), (7, .slice a' m c'), (9, ptr b4 0), (10, .slice (some ⟨b, o, none⟩) cs.length c), (11, vi cs.length), (12, vi k), (26, .bool false)] h7 := by
      intro hf
      (try simp (disch := first | exact Nat.le_of_ble_eq_true rfl | omega) only [AXR, AXB, J.dst, reduceIte, Nat.reduceEqDiff, Nat.reduceAdd, Nat.reduceMul, Nat.reduceLT, Nat.reduceLeDiff]); rw [f39c10_eq]; (try simp (disch := first | exact Nat.le_of_ble_eq_true rfl | omega) only [AXR, AXB, J.dst, reduceIte, Nat.reduceEqDiff, Nat.reduceAdd, Nat.reduceMul, Nat.reduceLT, Nat.reduceLeDiff, f39r0, f39r1, f39r2, f39r3, f39r4, f39r5, f39r6, f39r7, f39r8, f39r9, f39r10, f39r11, f39r12, f39r13, br_false])
      exact app h7 [(26, .bool false)] x' x e7 B7 O7 (by unfold settleC; rw [if_neg (by simp [hf])])
    refine ⟨fun hl => ?_, fun hl => hno (by simp [hl])⟩
    by_cases hby : x.lock.by_ = by_
    · rw [decide_eq_true hby]
      have hset : settleC by_ yes x = ⟨x.key, if yes then putV x.vers (verL x.lock) else x.vers, false, noLock⟩ := by
        unfold settleC; rw [if_pos (by simp [hl, hby])]
      (try simp (disch := first | exact Nat.le_of_ble_eq_true rfl | omega) only [AXR, AXB, J.dst, reduceIte, Nat.reduceEqDiff, Nat.reduceAdd, Nat.reduceMul, Nat.reduceLT, Nat.reduceLeDiff]); rw [f39c10_eq]; (try simp (disch := first | exact Nat.le_of_ble_eq_true rfl | omega) only [AXR, AXB, J.dst, reduceIte, Nat.reduceEqDiff, Nat.reduceAdd, Nat.reduceMul, Nat.reduceLT, Nat.reduceLeDiff, f39r0, f39r1, f39r2, f39r3, f39r4, f39r5, f39r6, f39r7, f39r8, f39r9, f39r10, f39r11, f39r12, f39r13, br_true])
      (try simp (disch := first | exact Nat.le_of_ble_eq_true rfl | omega) only [AXR, AXB, J.dst, reduceIte, Nat.reduceEqDiff, Nat.reduceAdd, Nat.reduceMul, Nat.reduceLT, Nat.reduceLeDiff]); rw [f39c11_eq]; (try simp (disch := first | exact Nat.le_of_ble_eq_true rfl | omega) only [AXR, AXB, J.dst, reduceIte, Nat.reduceEqDiff, Nat.reduceAdd, Nat.reduceMul, Nat.reduceLT, Nat.reduceLeDiff, f39r0, f39r1, f39r2, f39r3, f39r4, f39r5, f39r6, f39r7, f39r8, f39r9, f39r10, f39r11, f39r12, f39r13]); rw [f39c12_eq]; (try simp (disch := first | exact Nat.le_of_ble_eq_true rfl | omega) only [AXR, AXB, J.dst, reduceIte, Nat.reduceEqDiff, Nat.reduceAdd, Nat.reduceMul, Nat.reduceLT, Nat.reduceLeDiff, f39r0, f39r1, f39r2, f39r3, f39r4, f39r5, f39r6, f39r7, f39r8, f39r9, f39r10, f39r11, f39r12, f39r13])
      refine ⟨fun hy => ?_, fun hy => ?_⟩
      · (try simp (disch := first | exact Nat.le_of_ble_eq_true rfl | omega) only [AXR, AXB, J.dst, reduceIte, Nat.reduceEqDiff, Nat.reduceAdd, Nat.reduceMul, Nat.reduceLT, Nat.reduceLeDiff]); rw [f39c13_eq]; (try simp (disch := first | exact Nat.le_of_ble_eq_true rfl | omega) only [AXR, AXB, J.dst, reduceIte, Nat.reduceEqDiff, Nat.reduceAdd, Nat.reduceMul, Nat.reduceLT, Nat.reduceLeDiff, f39r0, f39r1, f39r2, f39r3, f39r4, f39r5, f39r6, f39r7, f39r8, f39r9, f39r10, f39r11, f39r12, f39r13, B7.cel, B7.rd, eCV, O7.lock])
        have hO7 := O7.vers.ob
        refine put_ok (lo := h5.size) x.vers (verL x.lock) _ O7.vers O7.vn (by omega) (by have := u7.size; have := e6.size; omega) ?_
        intro a8 n8 c8 h8 O8 hn8 G8 A8
        try simp (disch := first | exact Nat.le_of_ble_eq_true rfl | omega) only [AXR, AXB, J.dst, reduceIte, Nat.reduceEqDiff, Nat.reduceAdd, Nat.reduceMul, Nat.reduceLT, Nat.reduceLeDiff]
        have B8 := G8.blk B7 (fun e => by have := hO7 b4 e.symm; omega)
        have e8 : Ext h' h8 := G8.ext e7 (fun j hj => by have := hO7 j hj; omega)
        have hO8 := O8.ob
        refine wL_stN rfl rfl rfl B8 (by rw [eCV_len]; exact Nat.le_of_ble_eq_true rfl) (one_sl _ _ _) ?_
        rintro h9 u9 (B9 : Blk _ _ _ (eCV { x' with va := a8, vn := n8, vc := c8 }))
        try simp (disch := first | exact Nat.le_of_ble_eq_true rfl | omega) only [AXR, AXB, J.dst, reduceIte, Nat.reduceEqDiff, Nat.reduceAdd, Nat.reduceMul, Nat.reduceLT, Nat.reduceLeDiff]
        have O9 := O8.gr u9.gr (fun j hj => by have := hO8 j hj; intro e; cases e; omega)
        exact clr h9 [] { x' with va := a8, vn := n8, vc := c8 } ⟨x.key, putV x.vers (verL x.lock), x.locked, x.lock⟩ (u9.ext e8 (by omega)) B9 ⟨O7.key, O7.locked, O7.lock, hn8, O9⟩ (by rw [hset, hy]; rfl)
      · try simp (disch := first | exact Nat.le_of_ble_eq_true rfl | omega) only [AXR, AXB, J.dst, reduceIte, Nat.reduceEqDiff, Nat.reduceAdd, Nat.reduceMul, Nat.reduceLT, Nat.reduceLeDiff]
        exact clr h7 _ x' x e7 B7 O7 (by rw [hset, hy]; rfl)
    · rw [decide_eq_false hby]
      exact hno (by simp [hby])
  · have hkl : k = cs.length := by have := of_decide_eq_false h2; omega
    subst hkl
    refine hex _ _ ?_
    (try simp (disch := first | exact Nat.le_of_ble_eq_true rfl | omega) only [AXR, AXB, J.dst, reduceIte, Nat.reduceEqDiff, Nat.reduceAdd, Nat.reduceMul, Nat.reduceLT, Nat.reduceLeDiff]); rw [f39c19_eq]; (try simp (disch := first | exact Nat.le_of_ble_eq_true rfl | omega) only [AXR, AXB, J.dst, reduceIte, Nat.reduceEqDiff, Nat.reduceAdd, Nat.reduceMul, Nat.reduceLT, Nat.reduceLeDiff, f39r0, f39r1, f39r2, f39r3, f39r4, f39r5, f39r6, f39r7, f39r8, f39r9, f39r10, f39r11, f39r12, f39r13])
    rw [List.take_length] at O
    exact hR _ _ _ _ (O.mono e1.size) eh
end Go.Proofs.Ytefghfgmkndikaa
