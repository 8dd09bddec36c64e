/-
  The walks and plain laws under the laws of one package: texts of mine put together, what they do not use left out (wip/tools/prune.py).
-/
import Derived.Test.YtefghfgmkndikaaH4
set_option linter.unusedSimpArgs false
set_option linter.unusedVariables false
namespace Go.AX
open Go
/-- A slice of commands. -/
def SlM (B : Nat → Prop) (h : Heap) (a : Option Addr) (cs : List Cmd) : Prop := ∃ vs : List CmV, All2 (CmR B h) vs cs ∧ SlF B h eCm a vs
theorem SlM.ext {B : Nat → Prop} {h h' : Heap} {a : Option Addr} {cs : List Cmd} (S : SlM B h a cs) (x : Ext h h') : SlM B h' a cs := let ⟨vs, h1, h2⟩ := S; ⟨vs, h1.imp fun _ _ r => r.ext x, h2.ext x⟩
theorem SlM.elem {B : Nat → Prop} {h : Heap} {a : Option Addr} {cs : List Cmd} (S : SlM B h a cs) {i : Nat} {c : Cmd} (hi : cs[i]? = some c) : ∃ b o v, a = some ⟨b, o, none⟩ ∧ B b ∧ Row h b (o + i * 14) (eCm v) ∧ CmR B h v c := by
  obtain ⟨vs, h1, h2⟩ := S
  obtain ⟨v, hv, hr⟩ := h1.get hi
  obtain ⟨b, o, e1, e2, e3⟩ := h2.elem eCm_len hv
  exact ⟨b, o, v, e1, e2, e3, hr⟩
theorem row_cm {h : Heap} {b o : Nat} {v : CmV} (r : Row h b o (eCm v)) : rd h b o 14 = some (eCm v) := r.rd0 14 (Nat.le_refl _)
end Go.AX
namespace Go.Proofs.Ytefghfgmkndikaa
open Go Go.AX
def emptyP : Prt := ⟨⟨0, 0, ⟨0, 0⟩, 0, 0⟩, [], [], []⟩
/-- A command whose epoch is the part's, or the next one. -/
def ownM (p : Prt) (c : Cmd) : Cmd := { c with s := { c.s with epoch := if c.s.kind = 1 then p.s.epoch + 1 else p.s.epoch } }
def stepP (p : Prt) (c : Cmd) : Prt := (applyP p (ownM p c)).1
def runP (l : List Cmd) : Prt := l.foldl stepP emptyP
/-- A command that is not too great. -/
def Lt100 (c : Cmd) : Prop := c.spans.length < 100 ∧ c.writes.length < 100
/-- A state that is not too great, its epoch in its bounds. -/
structure GdP (n : Nat) (p : Prt) : Prop where
  sz : SzP n p
  e0 : 0 ≤ p.s.epoch
  e1 : p.s.epoch ≤ mostEpoch
theorem GdP.mono {n m : Nat} {p : Prt} (g : GdP n p) (h : n ≤ m) : GdP m p := ⟨g.sz.mono h, g.e0, g.e1⟩
theorem lockG' {n : Nat} {cs : List Cell} (g : Gd n cs) (w : Wri) (l : Lck) : Gd (n + 1) (lockL cs w l) := ⟨lock_good w l g.good, lock_sz w l g.sz⟩
theorem settleG' {n : Nat} {cs : List Cell} (g : Gd n cs) (b : Try4) (y : Bool) : Gd (n + 1) (settleL cs b y) := ⟨settle_good b y g.good, settle_sz b y g.good g.sz⟩
theorem trimG' {n : Nat} {cs : List Cell} (g : Gd n cs) (t : Stamp) : Gd n (trimL cs t) := ⟨trim_good t g.good, trim_sz t g.sz⟩
theorem locksG {l : Lck} : ∀ (ws : List Wri) {n : Nat} {cs : List Cell}, Gd n cs → Gd (n + ws.length) (ws.foldl (fun cs w => lockL cs w l) cs)
  | [], _, _, g => g
  | w :: ws, n, cs, g => by
    have := locksG (l := l) ws (lockG' g w l)
    rw [List.foldl_cons, List.length_cons, show n + (ws.length + 1) = n + 1 + ws.length by omega]
    exact this
theorem readP_1 (p : Prt) (c : Cmd) : (readP p c).1 = p ∨ (readP p c).1 = { p with s := { p.s with floor := maxS p.s.floor c.s.at_ } } := by
  unfold readP
  split
  · exact .inl rfl
  · split
    · exact .inl rfl
    · dsimp only
      split
      · exact .inr rfl
      · exact .inl rfl
theorem prepP_1 (p : Prt) (c : Cmd) : (prepP p c).1 = p ∨ (prepP p c).1 = { p with cells := c.writes.foldl (fun cs w => lockL cs w (lkC c)) p.cells } := by
  unfold prepP
  split
  · exact .inl rfl
  · split
    · exact .inl rfl
    · split
      · exact .inl rfl
      · split
        · exact .inl rfl
        · split
          · exact .inl rfl
          · exact .inr rfl
theorem doesG {n : Nat} {p : Prt} {c : Cmd} (g : GdP n p) (hc : Lt100 c) : GdP (n + 100) (doesP p c).1 := by
  have g' := g.mono (Nat.le_add_right n 100)
  obtain ⟨⟨g1, g2, g3⟩, e0, e1⟩ := g
  obtain ⟨_, hw⟩ := hc
  unfold doesP
  split
  · rcases readP_1 p c with h | h <;> rw [h]
    · exact g'
    · exact ⟨⟨g1.mono (by omega), by show p.records.length ≤ _; omega, by show p.done.length ≤ _; omega⟩, e0, e1⟩
  split
  · rcases prepP_1 p c with h | h <;> rw [h]
    · exact g'
    · exact ⟨⟨(locksG c.writes g1).mono (by omega), by show p.records.length ≤ _; omega, by show p.done.length ≤ _; omega⟩, e0, e1⟩
  split
  · split
    · exact g'
    · exact ⟨⟨g1.mono (by omega), by show (p.records ++ [_]).length ≤ _; simp; omega, by show p.done.length ≤ _; omega⟩, e0, e1⟩
  split
  · refine ⟨⟨(settleG' g1 _ _).mono (by omega), by show p.records.length ≤ _; omega, ?_⟩, e0, e1⟩
    show List.length (match findO p.done c.s.by_ with | some _ => p.done | none => p.done ++ [outC c]) ≤ _
    split
    · omega
    · simp; omega
  split
  · exact ⟨⟨g1.mono (by omega), by show p.records.length ≤ _; omega, by show p.done.length ≤ _; omega⟩, e0, e1⟩
  split
  · exact ⟨⟨(trimG' g1 _).mono (by omega), by show p.records.length ≤ _; omega, by show p.done.length ≤ _; omega⟩, e0, e1⟩
  · exact g'
theorem leaseG {n : Nat} {p : Prt} {c : Cmd} (g : GdP n p) : GdP n (leaseP p c).1 := by
  unfold leaseP
  split
  · exact g
  · rename_i h
    have h0 := g.e0
    refine ⟨⟨g.sz.cells, g.sz.records, g.sz.done⟩, ?_, ?_⟩
    · show 0 ≤ c.s.epoch; omega
    · show c.s.epoch ≤ mostEpoch; omega
theorem applyG {n : Nat} {p : Prt} {c : Cmd} (g : GdP n p) (hc : Lt100 c) : GdP (n + 100) (applyP p c).1 := by
  have g' := g.mono (Nat.le_add_right n 100)
  have key : ∀ r : Prt × Rep, GdP (n + 100) r.1 → GdP (n + 100) (if r.2.s.err = 0 then r else (p, r.2)).1 := by
    intro r hr
    split
    · exact hr
    · exact g'
  unfold applyP
  refine key _ ?_
  split
  · exact (leaseG g).mono (by omega)
  · split
    · exact g'
    · exact doesG g hc
theorem ownM_lt {p : Prt} {c : Cmd} (h : Lt100 c) : Lt100 (ownM p c) := h
theorem runG : ∀ (l : List Cmd) {n : Nat} {p : Prt}, GdP n p → (∀ c ∈ l, Lt100 c) → GdP (n + 100 * l.length) (l.foldl stepP p)
  | [], _, _, g, _ => g
  | c :: l, n, p, g, h => by
    have := runG l (applyG g (ownM_lt (p := p) (h c (List.mem_cons_self ..)))) (fun x hx => h x (List.mem_cons_of_mem _ hx))
    rw [List.foldl_cons, List.length_cons, show n + 100 * (l.length + 1) = n + 100 + 100 * l.length by omega]
    exact this
theorem emptyG : GdP 0 emptyP := ⟨⟨⟨(gdRun []).good, (gdRun []).sz⟩, Nat.le_refl _, Nat.le_refl _⟩, by decide, by decide⟩
theorem own_okP (pv : PrV) (p : Prt) (cv : CmV) (c : Cmd) (other : Bool) (h : Heap) {B : Nat → Prop} (hp : pv.s = p.s) (C : CmR B h cv c) (e0 : 0 ≤ p.s.epoch) (e1 : p.s.epoch ≤ mostEpoch) {R : Value → Heap → Prop}
    (hR : ∀ cv' h', CmR B h' cv' (if other then c else ownM p c) → Ext h h' → R (.agg (eCm cv').toArray) h') : CallsH Try.prog 54 [.agg (ePr pv).toArray, .agg (eCm cv).toArray, .bool other] h R := by
  have hm : mostEpoch = 1099511627776 := rfl
  have hcs := C.s
  refine f54ok (by simp) ?_
  (try simp (config := { maxSteps := 1000000 }) (disch := first | exact Nat.le_of_ble_eq_true rfl | omega) only [AXS, AXB, J.dst, reduceIte, Nat.reduceEqDiff, Nat.reduceAdd, Nat.reduceMul, Nat.reduceLT, Nat.reduceLeDiff]); rw [f54c0_eq]; (try simp (config := { maxSteps := 1000000 }) (disch := first | exact Nat.le_of_ble_eq_true rfl | omega) only [AXS, AXB, J.dst, reduceIte, Nat.reduceEqDiff, Nat.reduceAdd, Nat.reduceMul, Nat.reduceLT, Nat.reduceLeDiff, f54r0])
  refine wL_boxN rfl ?_; rintro b3 h1 x1 s1 hb3 (B3 : Blk _ _ _ (ePr pv))
  refine wL_boxN rfl ?_; rintro b4 h2 x2 s2 hb4 (B4 : Blk _ _ _ (eCm cv))
  try simp (config := { maxSteps := 1000000 }) (disch := first | exact Nat.le_of_ble_eq_true rfl | omega) only [AXS, AXB, J.dst, reduceIte, Nat.reduceEqDiff, Nat.reduceAdd, Nat.reduceMul, Nat.reduceLT, Nat.reduceLeDiff]
  refine wL_newN ?_; rintro b6 h3 x3 s3 hb6 B6
  replace B3 := B3.ext x2
  replace B3 := B3.ext x3; replace B4 := B4.ext x3
  have x03 := (x1.trans x2).trans x3
  have fin : ∀ (h5 : Heap) (cv' : CmV) (τ : Env), Ext h h5 → Blk h5 b4 43 (eCm cv') → Blk h5 b6 43 (eCm ⟨⟨0, 0, 0, 0, ⟨0, 0, 0, 0⟩, ⟨0, 0⟩, 0, false⟩, none, 0, 0, none, 0, 0⟩) → CmR B h cv' (if other then c else ownM p c) → AX.look τ 4 = some (ptr b4 0) → AX.look τ 6 = some (ptr b6 0) →
      wC Try.prog f54c7 (endW [.cell 6 14] R) τ h5 := by
    intro h5 cv' τ x5 D4 D6 C5 t4 t6
    (try simp (config := { maxSteps := 1000000 }) (disch := first | exact Nat.le_of_ble_eq_true rfl | omega) only [AXS, AXB, J.dst, reduceIte, Nat.reduceEqDiff, Nat.reduceAdd, Nat.reduceMul, Nat.reduceLT, Nat.reduceLeDiff]); rw [f54c7_eq]; (try simp (config := { maxSteps := 1000000 }) (disch := first | exact Nat.le_of_ble_eq_true rfl | omega) only [AXS, AXB, J.dst, reduceIte, Nat.reduceEqDiff, Nat.reduceAdd, Nat.reduceMul, Nat.reduceLT, Nat.reduceLeDiff, f54r5, t4, t6, D4.rd, eCm])
    refine wL_stN (show AX.look _ _ = _ from t6) rfl rfl D6 (by decide) (eCm_one cv') ?_
    rintro h6 u6 (B7 : Blk _ _ _ (eCm cv'))
    simp (config := { maxSteps := 1000000 }) (disch := first | exact Nat.le_of_ble_eq_true rfl | omega) only [AXS, AXB, J.dst, reduceIte, Nat.reduceEqDiff, Nat.reduceAdd, Nat.reduceMul, Nat.reduceLT, Nat.reduceLeDiff, B7.rd, eCm, t6]
    exact hR cv' h6 (C5.ext (u6.ext x5 (by omega))) (u6.ext x5 (by omega))
  (try simp (config := { maxSteps := 1000000 }) (disch := first | exact Nat.le_of_ble_eq_true rfl | omega) only [AXS, AXB, J.dst, reduceIte, Nat.reduceEqDiff, Nat.reduceAdd, Nat.reduceMul, Nat.reduceLT, Nat.reduceLeDiff]); rw [f54c1_eq]; (try simp (config := { maxSteps := 1000000 }) (disch := first | exact Nat.le_of_ble_eq_true rfl | omega) only [AXS, AXB, J.dst, reduceIte, Nat.reduceEqDiff, Nat.reduceAdd, Nat.reduceMul, Nat.reduceLT, Nat.reduceLeDiff, f54r1]); rw [f54c2_eq]; (try simp (config := { maxSteps := 1000000 }) (disch := first | exact Nat.le_of_ble_eq_true rfl | omega) only [AXS, AXB, J.dst, reduceIte, Nat.reduceEqDiff, Nat.reduceAdd, Nat.reduceMul, Nat.reduceLT, Nat.reduceLeDiff])
  refine ⟨fun hh => ?_, fun hh => ?_⟩
  · have ho : other = false := by simpa using hh
    subst ho
    (try simp (config := { maxSteps := 1000000 }) (disch := first | exact Nat.le_of_ble_eq_true rfl | omega) only [AXS, AXB, J.dst, reduceIte, Nat.reduceEqDiff, Nat.reduceAdd, Nat.reduceMul, Nat.reduceLT, Nat.reduceLeDiff]); rw [f54c3_eq]; (try simp (config := { maxSteps := 1000000 }) (disch := first | exact Nat.le_of_ble_eq_true rfl | omega) only [AXS, AXB, J.dst, reduceIte, Nat.reduceEqDiff, Nat.reduceAdd, Nat.reduceMul, Nat.reduceLT, Nat.reduceLeDiff, f54r2, B3.cel, ePr, hp])
    refine wL_stN rfl rfl rfl B4 (by rw [eCm_len]; exact Nat.le_of_ble_eq_true rfl) int_one ?_
    rintro h4 u4 (D4 : Blk _ _ _ (eCm { cv with s := { cv.s with epoch := p.s.epoch } }))
    have C6 := u4.blk B6 (by omega)
    have y4 := u4.size
    (try simp (config := { maxSteps := 1000000 }) (disch := first | exact Nat.le_of_ble_eq_true rfl | omega) only [AXS, AXB, J.dst, reduceIte, Nat.reduceEqDiff, Nat.reduceAdd, Nat.reduceMul, Nat.reduceLT, Nat.reduceLeDiff]); rw [f54c4_eq]; (try simp (config := { maxSteps := 1000000 }) (disch := first | exact Nat.le_of_ble_eq_true rfl | omega) only [AXS, AXB, J.dst, reduceIte, Nat.reduceEqDiff, Nat.reduceAdd, Nat.reduceMul, Nat.reduceLT, Nat.reduceLeDiff, f54r3, D4.cel, eCm, hcs]); rw [f54c5_eq]; (try simp (config := { maxSteps := 1000000 }) (disch := first | exact Nat.le_of_ble_eq_true rfl | omega) only [AXS, AXB, J.dst, reduceIte, Nat.reduceEqDiff, Nat.reduceAdd, Nat.reduceMul, Nat.reduceLT, Nat.reduceLeDiff, D4.cel, eCm, hcs])
    refine ⟨fun hk => ?_, fun hk => ?_⟩
    · have hk' : c.s.kind = 1 := by simpa using hk
      (try simp (config := { maxSteps := 1000000 }) (disch := first | exact Nat.le_of_ble_eq_true rfl | omega) only [AXS, AXB, J.dst, reduceIte, Nat.reduceEqDiff, Nat.reduceAdd, Nat.reduceMul, Nat.reduceLT, Nat.reduceLeDiff]); rw [f54c6_eq]; (try simp (config := { maxSteps := 1000000 }) (disch := first | exact Nat.le_of_ble_eq_true rfl | omega) only [AXS, AXB, J.dst, reduceIte, Nat.reduceEqDiff, Nat.reduceAdd, Nat.reduceMul, Nat.reduceLT, Nat.reduceLeDiff, f54r4, D4.cel, eCm])
      rw [i64_wrap (by omega) (by omega)]
      refine wL_stN rfl rfl rfl D4 (by rw [eCm_len]; exact Nat.le_of_ble_eq_true rfl) int_one ?_
      rintro h5 u5 (D5 : Blk _ _ _ (eCm { cv with s := { cv.s with epoch := p.s.epoch + 1 } }))
      try simp (config := { maxSteps := 1000000 }) (disch := first | exact Nat.le_of_ble_eq_true rfl | omega) only [AXS, AXB, J.dst, reduceIte, Nat.reduceEqDiff, Nat.reduceAdd, Nat.reduceMul, Nat.reduceLT, Nat.reduceLeDiff]
      refine fin h5 _ _ (u5.ext (u4.ext x03 (by omega)) (by omega)) D5 (u5.blk C6 (by omega)) ⟨?_, C.sn, C.wn, C.spans, C.writes⟩ rfl rfl
      show _ = { c.s with epoch := if c.s.kind = 1 then p.s.epoch + 1 else p.s.epoch }
      rw [if_pos hk', ← hcs]
    · have hk' : ¬ c.s.kind = 1 := by simpa using hk
      try simp (config := { maxSteps := 1000000 }) (disch := first | exact Nat.le_of_ble_eq_true rfl | omega) only [AXS, AXB, J.dst, reduceIte, Nat.reduceEqDiff, Nat.reduceAdd, Nat.reduceMul, Nat.reduceLT, Nat.reduceLeDiff]
      refine fin h4 _ _ (u4.ext x03 (by omega)) D4 C6 ⟨?_, C.sn, C.wn, C.spans, C.writes⟩ rfl rfl
      show _ = { c.s with epoch := if c.s.kind = 1 then p.s.epoch + 1 else p.s.epoch }
      rw [if_neg hk', ← hcs]
  · have ho : other = true := by simpa using hh
    subst ho
    exact fin h3 cv _ x03 B4 B6 C rfl rfl
theorem lightM_ok (cv : CmV) (c : Cmd) (h : Heap) {B : Nat → Prop} (C : CmR B h cv c) (ws : c.spans.length ≤ maxLen) (ww : c.writes.length ≤ maxLen) {R : Value → Heap → Prop}
    (hR : ∀ (b : Bool) h', (b = true → Lt100 c) → Ext h h' → R (.bool b) h') : CallsH Try.prog 94 [.agg (eCm cv).toArray] h R := by
  unfold maxLen at ws ww
  have hsn := C.sn
  have hwn := C.wn
  refine f94ok (by simp) ?_
  (try simp (config := { maxSteps := 1000000 }) (disch := first | exact Nat.le_of_ble_eq_true rfl | omega) only [AXS, AXB, J.dst, reduceIte, Nat.reduceEqDiff, Nat.reduceAdd, Nat.reduceMul, Nat.reduceLT, Nat.reduceLeDiff]); rw [f94c0_eq]; (try simp (config := { maxSteps := 1000000 }) (disch := first | exact Nat.le_of_ble_eq_true rfl | omega) only [AXS, AXB, J.dst, reduceIte, Nat.reduceEqDiff, Nat.reduceAdd, Nat.reduceMul, Nat.reduceLT, Nat.reduceLeDiff, f94r0])
  refine wL_boxN rfl ?_; rintro b1 h1 x1 s1 hb1 (B1 : Blk _ _ _ (eCm cv))
  (try simp (config := { maxSteps := 1000000 }) (disch := first | exact Nat.le_of_ble_eq_true rfl | omega) only [AXS, AXB, J.dst, reduceIte, Nat.reduceEqDiff, Nat.reduceAdd, Nat.reduceMul, Nat.reduceLT, Nat.reduceLeDiff]); rw [f94c1_eq]; (try simp (config := { maxSteps := 1000000 }) (disch := first | exact Nat.le_of_ble_eq_true rfl | omega) only [AXS, AXB, J.dst, reduceIte, Nat.reduceEqDiff, Nat.reduceAdd, Nat.reduceMul, Nat.reduceLT, Nat.reduceLeDiff, f94r1]); rw [f94c2_eq]; (try simp (config := { maxSteps := 1000000 }) (disch := first | exact Nat.le_of_ble_eq_true rfl | omega) only [AXS, AXB, J.dst, reduceIte, Nat.reduceEqDiff, Nat.reduceAdd, Nat.reduceMul, Nat.reduceLT, Nat.reduceLeDiff, f94r2])
  rw [f94c3_eq]
  refine loop_in (fun m σ h' => h' = h1 ∧ ∃ (k : Nat) (n : Int), k + m = c.spans.length ∧ 0 ≤ n ∧ n ≤ 40000 ∧ σ = [(1, ptr b1 0), (3, vi n), (4, vi k)]) c.spans.length ⟨rfl, 0, 0, by omega, by omega, by omega, rfl⟩ ?_
  rintro m σ h' ⟨rfl, k, n, hk, hn0, hn1, rfl⟩ Q' hnx hex hrt _
  rw [f94c4_eq]
  simp (config := { maxSteps := 1000000 }) (disch := first | exact Nat.le_of_ble_eq_true rfl | omega) only [AXJ, AXS, AXB, J.dst, reduceIte, Nat.reduceEqDiff, Nat.reduceAdd, Nat.reduceMul, Nat.reduceLT, Nat.reduceLeDiff, f94r3, B1.cel, eCm, hsn]
  try simp (config := { maxSteps := 1000000 }) (disch := first | exact Nat.le_of_ble_eq_true rfl | omega) only [AXS, AXB, J.dst, reduceIte, Nat.reduceEqDiff, Nat.reduceAdd, Nat.reduceMul, Nat.reduceLT, Nat.reduceLeDiff]
  (try simp (config := { maxSteps := 1000000 }) (disch := first | exact Nat.le_of_ble_eq_true rfl | omega) only [AXS, AXB, J.dst, reduceIte, Nat.reduceEqDiff, Nat.reduceAdd, Nat.reduceMul, Nat.reduceLT, Nat.reduceLeDiff]); rw [f94c5_eq]; (try simp (config := { maxSteps := 1000000 }) (disch := first | exact Nat.le_of_ble_eq_true rfl | omega) only [AXS, AXB, J.dst, reduceIte, Nat.reduceEqDiff, Nat.reduceAdd, Nat.reduceMul, Nat.reduceLT, Nat.reduceLeDiff])
  refine ⟨fun hh => ?_, fun hh => ?_⟩
  · have hh' : (k : Int) < c.spans.length ∧ n < 16384 := by simpa using hh
    obtain ⟨s, hx⟩ := get_ex (show k < c.spans.length by omega)
    obtain ⟨b', o, hsa, hBb, hrow⟩ := (C.spans.ext x1).elem eSpn_len hx
    have hrow' : rd h' b' (o + k * 2) 2 = some (eSpn s) ∧ cel h' b' (o + k * 2 + 0) = some (.string s.lo) ∧ cel h' b' (o + k * 2 + 1) = some (.string s.hi) := ⟨hrow.rd0 2 (Nat.le_refl _), hrow 0 (by rw [eSpn_len]; omega), hrow 1 (by rw [eSpn_len]; omega)⟩
    try simp (config := { maxSteps := 1000000 }) (disch := first | exact Nat.le_of_ble_eq_true rfl | omega) only [AXS, AXB, J.dst, reduceIte, Nat.reduceEqDiff, Nat.reduceAdd, Nat.reduceMul, Nat.reduceLT, Nat.reduceLeDiff]
    rw [f94c6_eq, f94c7_eq]
    simp (config := { maxSteps := 1000000 }) (disch := first | exact Nat.le_of_ble_eq_true rfl | omega) only [AXJ, AXS, AXB, J.dst, reduceIte, Nat.reduceEqDiff, Nat.reduceAdd, Nat.reduceMul, Nat.reduceLT, Nat.reduceLeDiff, f94r4, B1.cel, eCm, hsn, hsa, hrow']
    refine ⟨by omega, by omega, fun _ => by omega, fun _ => by omega, ?_⟩
    (try simp (config := { maxSteps := 1000000 }) (disch := first | exact Nat.le_of_ble_eq_true rfl | omega) only [AXS, AXB, J.dst, reduceIte, Nat.reduceEqDiff, Nat.reduceAdd, Nat.reduceMul, Nat.reduceLT, Nat.reduceLeDiff]); rw [f94c8_eq]; (try simp (config := { maxSteps := 1000000 }) (disch := first | exact Nat.le_of_ble_eq_true rfl | omega) only [AXS, AXB, J.dst, reduceIte, Nat.reduceEqDiff, Nat.reduceAdd, Nat.reduceMul, Nat.reduceLT, Nat.reduceLeDiff])
    refine ⟨fun h8 => ?_, fun h8 => ?_⟩
    · (try simp (config := { maxSteps := 1000000 }) (disch := first | exact Nat.le_of_ble_eq_true rfl | omega) only [AXS, AXB, J.dst, reduceIte, Nat.reduceEqDiff, Nat.reduceAdd, Nat.reduceMul, Nat.reduceLT, Nat.reduceLeDiff]); rw [f94c9_eq]; (try simp (config := { maxSteps := 1000000 }) (disch := first | exact Nat.le_of_ble_eq_true rfl | omega) only [AXS, AXB, J.dst, reduceIte, Nat.reduceEqDiff, Nat.reduceAdd, Nat.reduceMul, Nat.reduceLT, Nat.reduceLeDiff, f94r5])
      refine hrt _ _ ?_
      try simp (config := { maxSteps := 1000000 }) (disch := first | exact Nat.le_of_ble_eq_true rfl | omega) only [AXS, AXB, J.dst, reduceIte, Nat.reduceEqDiff, Nat.reduceAdd, Nat.reduceMul, Nat.reduceLT, Nat.reduceLeDiff]
      exact hR false _ (fun h => by cases h) x1
    · have h8' : (s.lo.size : Int) ≤ 8192 ∧ (s.hi.size : Int) ≤ 8192 := by simpa using h8
      try simp (config := { maxSteps := 1000000 }) (disch := first | exact Nat.le_of_ble_eq_true rfl | omega) only [AXS, AXB, J.dst, reduceIte, Nat.reduceEqDiff, Nat.reduceAdd, Nat.reduceMul, Nat.reduceLT, Nat.reduceLeDiff]
      rw [f94c10_eq]
      refine drw_lt ?_
      simp (config := { maxSteps := 1000000 }) (disch := first | exact Nat.le_of_ble_eq_true rfl | omega) only [AXS, AXB, J.dst, reduceIte, Nat.reduceEqDiff, Nat.reduceAdd, Nat.reduceMul, Nat.reduceLT, Nat.reduceLeDiff, f94r6, B1.cel, eCm, hsn, hsa, hrow']
      have hb' := hrow.lt (by rw [eSpn_len]; omega)
      have hb1' := B1.lt
      refine ⟨hb1', by omega, by omega, hb', hb1', by omega, by omega, hb', ?_⟩
      rw [i64_wrap (show (-9223372036854775808 : Int) ≤ n + s.lo.size by omega) (by omega), i64_wrap (by omega) (by omega)]
      (try simp (config := { maxSteps := 1000000 }) (disch := first | exact Nat.le_of_ble_eq_true rfl | omega) only [AXS, AXB, J.dst, reduceIte, Nat.reduceEqDiff, Nat.reduceAdd, Nat.reduceMul, Nat.reduceLT, Nat.reduceLeDiff]); rw [f94c11_eq]; (try simp (config := { maxSteps := 1000000 }) (disch := first | exact Nat.le_of_ble_eq_true rfl | omega) only [AXS, AXB, J.dst, reduceIte, Nat.reduceEqDiff, Nat.reduceAdd, Nat.reduceMul, Nat.reduceLT, Nat.reduceLeDiff, f94r7])
      rw [i64_wrap (by omega) (by omega)]
      exact hnx (m - 1) _ _ (by omega) ⟨rfl, k + 1, n + s.lo.size + s.hi.size, by omega, by omega, by omega, rfl⟩
  · refine hex _ _ ?_
    clear hh hk
    (try simp (config := { maxSteps := 1000000 }) (disch := first | exact Nat.le_of_ble_eq_true rfl | omega) only [AXS, AXB, J.dst, reduceIte, Nat.reduceEqDiff, Nat.reduceAdd, Nat.reduceMul, Nat.reduceLT, Nat.reduceLeDiff]); rw [f94c12_eq]; (try simp (config := { maxSteps := 1000000 }) (disch := first | exact Nat.le_of_ble_eq_true rfl | omega) only [AXS, AXB, J.dst, reduceIte, Nat.reduceEqDiff, Nat.reduceAdd, Nat.reduceMul, Nat.reduceLT, Nat.reduceLeDiff, f94r8])
    rw [f94c13_eq]
    refine loop_in (fun m σ h2 => h2 = h' ∧ ∃ (k : Nat) (n : Int), k + m = c.writes.length ∧ 0 ≤ n ∧ n ≤ 40000 ∧ σ = [(1, ptr b1 0), (3, vi n), (5, vi k)]) c.writes.length ⟨rfl, 0, n, by omega, by omega, by omega, rfl⟩ ?_
    clear hn0 hn1 n k
    rintro m σ h2 ⟨rfl, k, n, hk, hn0, hn1, rfl⟩ Q2 hnx2 hex2 hrt2 _
    rw [f94c14_eq]
    simp (config := { maxSteps := 1000000 }) (disch := first | exact Nat.le_of_ble_eq_true rfl | omega) only [AXJ, AXS, AXB, J.dst, reduceIte, Nat.reduceEqDiff, Nat.reduceAdd, Nat.reduceMul, Nat.reduceLT, Nat.reduceLeDiff, f94r9, B1.cel, eCm, hwn]
    try simp (config := { maxSteps := 1000000 }) (disch := first | exact Nat.le_of_ble_eq_true rfl | omega) only [AXS, AXB, J.dst, reduceIte, Nat.reduceEqDiff, Nat.reduceAdd, Nat.reduceMul, Nat.reduceLT, Nat.reduceLeDiff]
    (try simp (config := { maxSteps := 1000000 }) (disch := first | exact Nat.le_of_ble_eq_true rfl | omega) only [AXS, AXB, J.dst, reduceIte, Nat.reduceEqDiff, Nat.reduceAdd, Nat.reduceMul, Nat.reduceLT, Nat.reduceLeDiff]); rw [f94c15_eq]; (try simp (config := { maxSteps := 1000000 }) (disch := first | exact Nat.le_of_ble_eq_true rfl | omega) only [AXS, AXB, J.dst, reduceIte, Nat.reduceEqDiff, Nat.reduceAdd, Nat.reduceMul, Nat.reduceLT, Nat.reduceLeDiff])
    refine ⟨fun hh => ?_, fun hh => ?_⟩
    · have hh' : (k : Int) < c.writes.length ∧ n < 16384 := by simpa using hh
      obtain ⟨w, hx⟩ := get_ex (show k < c.writes.length by omega)
      obtain ⟨b', o, hsa, hBb, hrow⟩ := (C.writes.ext x1).elem eWri_len hx
      have hrow' := row_wri hrow
      try simp (config := { maxSteps := 1000000 }) (disch := first | exact Nat.le_of_ble_eq_true rfl | omega) only [AXS, AXB, J.dst, reduceIte, Nat.reduceEqDiff, Nat.reduceAdd, Nat.reduceMul, Nat.reduceLT, Nat.reduceLeDiff]
      rw [f94c16_eq, f94c17_eq]
      simp (config := { maxSteps := 1000000 }) (disch := first | exact Nat.le_of_ble_eq_true rfl | omega) only [AXJ, AXS, AXB, J.dst, reduceIte, Nat.reduceEqDiff, Nat.reduceAdd, Nat.reduceMul, Nat.reduceLT, Nat.reduceLeDiff, f94r10, B1.cel, eCm, hwn, hsa, hrow']
      refine ⟨by omega, by omega, fun _ => by omega, fun _ => by omega, ?_⟩
      (try simp (config := { maxSteps := 1000000 }) (disch := first | exact Nat.le_of_ble_eq_true rfl | omega) only [AXS, AXB, J.dst, reduceIte, Nat.reduceEqDiff, Nat.reduceAdd, Nat.reduceMul, Nat.reduceLT, Nat.reduceLeDiff]); rw [f94c18_eq]; (try simp (config := { maxSteps := 1000000 }) (disch := first | exact Nat.le_of_ble_eq_true rfl | omega) only [AXS, AXB, J.dst, reduceIte, Nat.reduceEqDiff, Nat.reduceAdd, Nat.reduceMul, Nat.reduceLT, Nat.reduceLeDiff])
      refine ⟨fun h8 => ?_, fun h8 => ?_⟩
      · (try simp (config := { maxSteps := 1000000 }) (disch := first | exact Nat.le_of_ble_eq_true rfl | omega) only [AXS, AXB, J.dst, reduceIte, Nat.reduceEqDiff, Nat.reduceAdd, Nat.reduceMul, Nat.reduceLT, Nat.reduceLeDiff]); rw [f94c19_eq]; (try simp (config := { maxSteps := 1000000 }) (disch := first | exact Nat.le_of_ble_eq_true rfl | omega) only [AXS, AXB, J.dst, reduceIte, Nat.reduceEqDiff, Nat.reduceAdd, Nat.reduceMul, Nat.reduceLT, Nat.reduceLeDiff, f94r11])
        refine hrt2 _ _ ?_
        try simp (config := { maxSteps := 1000000 }) (disch := first | exact Nat.le_of_ble_eq_true rfl | omega) only [AXS, AXB, J.dst, reduceIte, Nat.reduceEqDiff, Nat.reduceAdd, Nat.reduceMul, Nat.reduceLT, Nat.reduceLeDiff]
        exact hR false _ (fun h => by cases h) x1
      · have h8' : (w.key.size : Int) ≤ 8192 ∧ (w.data.size : Int) ≤ 8192 := by simpa using h8
        try simp (config := { maxSteps := 1000000 }) (disch := first | exact Nat.le_of_ble_eq_true rfl | omega) only [AXS, AXB, J.dst, reduceIte, Nat.reduceEqDiff, Nat.reduceAdd, Nat.reduceMul, Nat.reduceLT, Nat.reduceLeDiff]
        rw [f94c20_eq]
        refine drw_lt ?_
        simp (config := { maxSteps := 1000000 }) (disch := first | exact Nat.le_of_ble_eq_true rfl | omega) only [AXS, AXB, J.dst, reduceIte, Nat.reduceEqDiff, Nat.reduceAdd, Nat.reduceMul, Nat.reduceLT, Nat.reduceLeDiff, f94r12, B1.cel, eCm, hwn, hsa, hrow']
        have hb' := hrow.lt (by rw [eWri_len]; omega)
        have hb1' := B1.lt
        refine ⟨hb1', by omega, by omega, hb', hb1', by omega, by omega, hb', ?_⟩
        rw [i64_wrap (show (-9223372036854775808 : Int) ≤ n + w.key.size by omega) (by omega), i64_wrap (by omega) (by omega)]
        (try simp (config := { maxSteps := 1000000 }) (disch := first | exact Nat.le_of_ble_eq_true rfl | omega) only [AXS, AXB, J.dst, reduceIte, Nat.reduceEqDiff, Nat.reduceAdd, Nat.reduceMul, Nat.reduceLT, Nat.reduceLeDiff]); rw [f94c21_eq]; (try simp (config := { maxSteps := 1000000 }) (disch := first | exact Nat.le_of_ble_eq_true rfl | omega) only [AXS, AXB, J.dst, reduceIte, Nat.reduceEqDiff, Nat.reduceAdd, Nat.reduceMul, Nat.reduceLT, Nat.reduceLeDiff, f94r13])
        rw [i64_wrap (by omega) (by omega)]
        exact hnx2 (m - 1) _ _ (by omega) ⟨rfl, k + 1, n + w.key.size + w.data.size, by omega, by omega, by omega, rfl⟩
    · refine hex2 _ _ ?_
      try simp (config := { maxSteps := 1000000 }) (disch := first | exact Nat.le_of_ble_eq_true rfl | omega) only [AXS, AXB, J.dst, reduceIte, Nat.reduceEqDiff, Nat.reduceAdd, Nat.reduceMul, Nat.reduceLT, Nat.reduceLeDiff]
      rw [f94c22_eq]
      simp (config := { maxSteps := 1000000 }) (disch := first | exact Nat.le_of_ble_eq_true rfl | omega) only [AXJ, AXS, AXB, J.dst, reduceIte, Nat.reduceEqDiff, Nat.reduceAdd, Nat.reduceMul, Nat.reduceLT, Nat.reduceLeDiff, f94r14, B1.cel, eCm, hsn]
      simp (config := { maxSteps := 1000000 }) (disch := first | exact Nat.le_of_ble_eq_true rfl | omega) only [AXJ, AXS, AXB, J.dst, reduceIte, Nat.reduceEqDiff, Nat.reduceAdd, Nat.reduceMul, Nat.reduceLT, Nat.reduceLeDiff, f94r14a, f94r14b, B1.cel, eCm, hwn]
      generalize hcc : (decide (n < 8192) && decide ((c.spans.length : Int) < 100)) = cc
      cases cc with
      | false => rw [br_false]; exact hR false _ (fun h => by cases h) x1
      | true =>
        rw [br_true]
        refine hR _ _ (fun hw => ?_) x1
        simp only [Bool.and_eq_true, decide_eq_true_eq] at hcc hw
        exact ⟨by omega, by omega⟩
/-- Are commands not too many, too great? -/
def LightM (l : List Cmd) (most : Int) : Prop := (l.length : Int) ≤ most ∧ ∀ c ∈ l, Lt100 c
def LenM (l : List Cmd) : Prop := l.length ≤ maxLen ∧ ∀ c ∈ l, c.spans.length ≤ maxLen ∧ c.writes.length ≤ maxLen
theorem lightP_ok (l : List Cmd) (most : Int) (h : Heap) {B : Nat → Prop} {a : Option Addr} {n : Nat} (S : SlM B h a l) (F : LenM l) {R : Value → Heap → Prop}
    (hR : ∀ (b : Bool) h', (b = true → LightM l most) → Ext h h' → R (.bool b) h') : CallsH Try.prog 53 [.slice a l.length n, vi most] h R := by
  have F1 := F.1
  unfold maxLen at F1
  refine f53ok (by simp) ?_
  (try simp (config := { maxSteps := 1000000 }) (disch := first | exact Nat.le_of_ble_eq_true rfl | omega) only [AXS, AXB, J.dst, reduceIte, Nat.reduceEqDiff, Nat.reduceAdd, Nat.reduceMul, Nat.reduceLT, Nat.reduceLeDiff]); rw [f53c0_eq]; (try simp (config := { maxSteps := 1000000 }) (disch := first | exact Nat.le_of_ble_eq_true rfl | omega) only [AXS, AXB, J.dst, reduceIte, Nat.reduceEqDiff, Nat.reduceAdd, Nat.reduceMul, Nat.reduceLT, Nat.reduceLeDiff, f53r0]); rw [f53c1_eq]; (try simp (config := { maxSteps := 1000000 }) (disch := first | exact Nat.le_of_ble_eq_true rfl | omega) only [AXS, AXB, J.dst, reduceIte, Nat.reduceEqDiff, Nat.reduceAdd, Nat.reduceMul, Nat.reduceLT, Nat.reduceLeDiff, f53r1]); rw [f53c2_eq]; (try simp (config := { maxSteps := 1000000 }) (disch := first | exact Nat.le_of_ble_eq_true rfl | omega) only [AXS, AXB, J.dst, reduceIte, Nat.reduceEqDiff, Nat.reduceAdd, Nat.reduceMul, Nat.reduceLT, Nat.reduceLeDiff])
  refine ⟨fun hh => ?_, fun hh => ?_⟩
  · (try simp (config := { maxSteps := 1000000 }) (disch := first | exact Nat.le_of_ble_eq_true rfl | omega) only [AXS, AXB, J.dst, reduceIte, Nat.reduceEqDiff, Nat.reduceAdd, Nat.reduceMul, Nat.reduceLT, Nat.reduceLeDiff]); rw [f53c3_eq]; (try simp (config := { maxSteps := 1000000 }) (disch := first | exact Nat.le_of_ble_eq_true rfl | omega) only [AXS, AXB, J.dst, reduceIte, Nat.reduceEqDiff, Nat.reduceAdd, Nat.reduceMul, Nat.reduceLT, Nat.reduceLeDiff, f53r2])
    exact hR false h (fun h => by cases h) (Ext.refl h)
  · have hm : (l.length : Int) ≤ most := by have := of_decide_eq_false hh; omega
    clear hh
    (try simp (config := { maxSteps := 1000000 }) (disch := first | exact Nat.le_of_ble_eq_true rfl | omega) only [AXS, AXB, J.dst, reduceIte, Nat.reduceEqDiff, Nat.reduceAdd, Nat.reduceMul, Nat.reduceLT, Nat.reduceLeDiff]); rw [f53c4_eq]; (try simp (config := { maxSteps := 1000000 }) (disch := first | exact Nat.le_of_ble_eq_true rfl | omega) only [AXS, AXB, J.dst, reduceIte, Nat.reduceEqDiff, Nat.reduceAdd, Nat.reduceMul, Nat.reduceLT, Nat.reduceLeDiff, f53r3])
    rw [f53c5_eq]
    refine loop_in (fun m σ h' => Ext h h' ∧ ∃ k : Nat, k + m = l.length ∧ (∀ j c, j < k → l[j]? = some c → Lt100 c) ∧ σ = [(0, .slice a l.length n), (5, vi k)]) l.length ⟨Ext.refl h, 0, by omega, by intros; omega, rfl⟩ ?_
    rintro m σ h1 ⟨x1, k, hk, hj, rfl⟩ Q' hnx hex hrt _
    (try simp (config := { maxSteps := 1000000 }) (disch := first | exact Nat.le_of_ble_eq_true rfl | omega) only [AXS, AXB, J.dst, reduceIte, Nat.reduceEqDiff, Nat.reduceAdd, Nat.reduceMul, Nat.reduceLT, Nat.reduceLeDiff]); rw [f53c6_eq]; (try simp (config := { maxSteps := 1000000 }) (disch := first | exact Nat.le_of_ble_eq_true rfl | omega) only [AXS, AXB, J.dst, reduceIte, Nat.reduceEqDiff, Nat.reduceAdd, Nat.reduceMul, Nat.reduceLT, Nat.reduceLeDiff, f53r4]); rw [f53c7_eq]; (try simp (config := { maxSteps := 1000000 }) (disch := first | exact Nat.le_of_ble_eq_true rfl | omega) only [AXS, AXB, J.dst, reduceIte, Nat.reduceEqDiff, Nat.reduceAdd, Nat.reduceMul, Nat.reduceLT, Nat.reduceLeDiff])
    refine ⟨fun hh => ?_, fun hh => ?_⟩
    · have hkl : k < l.length := by have := of_decide_eq_true hh; omega
      obtain ⟨c, hx⟩ := get_ex hkl
      obtain ⟨b', o, v, rfl, _, hrow, hcr⟩ := (S.ext x1).elem hx
      try simp (config := { maxSteps := 1000000 }) (disch := first | exact Nat.le_of_ble_eq_true rfl | omega) only [AXS, AXB, J.dst, reduceIte, Nat.reduceEqDiff, Nat.reduceAdd, Nat.reduceMul, Nat.reduceLT, Nat.reduceLeDiff]
      rw [f53c8_eq]
      (try simp (config := { maxSteps := 1000000 }) (disch := first | exact Nat.le_of_ble_eq_true rfl | omega) only [AXS, AXB, J.dst, reduceIte, Nat.reduceEqDiff, Nat.reduceAdd, Nat.reduceMul, Nat.reduceLT, Nat.reduceLeDiff]); rw [f53c9_eq]; (try simp (config := { maxSteps := 1000000 }) (disch := first | exact Nat.le_of_ble_eq_true rfl | omega) only [AXS, AXB, J.dst, reduceIte, Nat.reduceEqDiff, Nat.reduceAdd, Nat.reduceMul, Nat.reduceLT, Nat.reduceLeDiff, f53r5, row_cm hrow])
      refine ⟨by omega, by omega, ?_⟩
      have hF := F.2 c (List.mem_of_getElem? hx)
      refine lightM_ok v c _ hcr hF.1 hF.2 ?_
      intro b h2 hb x2
      refine ⟨trivial, ?_⟩
      (try simp (config := { maxSteps := 1000000 }) (disch := first | exact Nat.le_of_ble_eq_true rfl | omega) only [AXS, AXB, J.dst, reduceIte, Nat.reduceEqDiff, Nat.reduceAdd, Nat.reduceMul, Nat.reduceLT, Nat.reduceLeDiff]); rw [f53c10_eq]; (try simp (config := { maxSteps := 1000000 }) (disch := first | exact Nat.le_of_ble_eq_true rfl | omega) only [AXS, AXB, J.dst, reduceIte, Nat.reduceEqDiff, Nat.reduceAdd, Nat.reduceMul, Nat.reduceLT, Nat.reduceLeDiff])
      refine ⟨fun h4 => ?_, fun h4 => ?_⟩
      · (try simp (config := { maxSteps := 1000000 }) (disch := first | exact Nat.le_of_ble_eq_true rfl | omega) only [AXS, AXB, J.dst, reduceIte, Nat.reduceEqDiff, Nat.reduceAdd, Nat.reduceMul, Nat.reduceLT, Nat.reduceLeDiff]); rw [f53c11_eq]; (try simp (config := { maxSteps := 1000000 }) (disch := first | exact Nat.le_of_ble_eq_true rfl | omega) only [AXS, AXB, J.dst, reduceIte, Nat.reduceEqDiff, Nat.reduceAdd, Nat.reduceMul, Nat.reduceLT, Nat.reduceLeDiff, f53r6])
        refine hrt _ _ ?_
        try simp (config := { maxSteps := 1000000 }) (disch := first | exact Nat.le_of_ble_eq_true rfl | omega) only [AXS, AXB, J.dst, reduceIte, Nat.reduceEqDiff, Nat.reduceAdd, Nat.reduceMul, Nat.reduceLT, Nat.reduceLeDiff]
        exact hR false _ (fun h => by cases h) (x1.trans x2)
      · have hb' : b = true := by simpa using h4
        (try simp (config := { maxSteps := 1000000 }) (disch := first | exact Nat.le_of_ble_eq_true rfl | omega) only [AXS, AXB, J.dst, reduceIte, Nat.reduceEqDiff, Nat.reduceAdd, Nat.reduceMul, Nat.reduceLT, Nat.reduceLeDiff]); rw [f53c12_eq]; (try simp (config := { maxSteps := 1000000 }) (disch := first | exact Nat.le_of_ble_eq_true rfl | omega) only [AXS, AXB, J.dst, reduceIte, Nat.reduceEqDiff, Nat.reduceAdd, Nat.reduceMul, Nat.reduceLT, Nat.reduceLeDiff, f53r7])
        rw [i64_wrap (by omega) (by omega)]
        refine hnx (m - 1) _ _ (by omega) ⟨x1.trans x2, k + 1, by omega, ?_, rfl⟩
        intro j c' hjk hc'
        rcases Nat.lt_or_ge j k with hlt | hge
        · exact hj j c' hlt hc'
        · have : j = k := by omega
          subst this
          rw [hx] at hc'; cases hc'; exact hb hb'
    · have hkl : k = l.length := by have := of_decide_eq_false hh; omega
      refine hex _ _ ?_
      (try simp (config := { maxSteps := 1000000 }) (disch := first | exact Nat.le_of_ble_eq_true rfl | omega) only [AXS, AXB, J.dst, reduceIte, Nat.reduceEqDiff, Nat.reduceAdd, Nat.reduceMul, Nat.reduceLT, Nat.reduceLeDiff]); rw [f53c13_eq]; (try simp (config := { maxSteps := 1000000 }) (disch := first | exact Nat.le_of_ble_eq_true rfl | omega) only [AXS, AXB, J.dst, reduceIte, Nat.reduceEqDiff, Nat.reduceAdd, Nat.reduceMul, Nat.reduceLT, Nat.reduceLeDiff, f53r8])
      refine hR true _ (fun _ => ⟨hm, fun c hc => ?_⟩) x1
      obtain ⟨j, hjl, rfl⟩ := List.mem_iff_getElem.1 hc
      exact hj j _ (by omega) (List.getElem?_eq_getElem hjl)
end Go.Proofs.Ytefghfgmkndikaa
namespace Go.AX
open Go
/-- Parts in a row of the call's own, their lists apart from it. -/
def OwnP (lo : Nat) (h : Heap) (a : Option Addr) (n c : Nat) (ps : List Prt) : Prop :=
  ∃ vs, Own lo h 116 9 a n c (vs.flatMap ePr) ∧ n = ps.length ∧ All2 (PrR (fun b => lo ≤ b ∧ b < h.size ∧ some b ≠ ob a) h) vs ps
theorem PrR.to {B B' : Nat → Prop} {h h' : Heap} {v : PrV} {p : Prt} (r : PrR B h v p) (H : ∀ b, B b → B' b ∧ h'[b]? = h[b]?) : PrR B' h' v p :=
  ⟨r.s, r.cn, r.cc, r.rn, r.dn, (let ⟨vs, h1, h2⟩ := r.cells; ⟨vs, h1.imp fun _ _ r => r.to H, h2.to H⟩), r.records.to H, r.done.to H⟩
theorem OwnP.ext {lo : Nat} {h h' : Heap} {a : Option Addr} {n c : Nat} {ps : List Prt} (O : OwnP lo h a n c ps) (x : Ext h h') : OwnP lo h' a n c ps := by
  obtain ⟨vs, h1, h2, h3⟩ := O
  exact ⟨vs, h1.ext x, h2, h3.imp fun _ _ r => r.to fun b hb => ⟨⟨hb.1, Nat.lt_of_lt_of_le hb.2.1 x.size, hb.2.2⟩, x.at_ b hb.2.1⟩⟩
theorem OwnP.ob {lo : Nat} {h : Heap} {a : Option Addr} {n c : Nat} {ps : List Prt} (O : OwnP lo h a n c ps) : ∀ k, ob a = some k → lo ≤ k ∧ k < h.size := by
  obtain ⟨vs, h1, _⟩ := O
  exact h1.ob
theorem OwnP.elem {lo : Nat} {h : Heap} {a : Option Addr} {n c : Nat} {ps : List Prt} (O : OwnP lo h a n c ps) {i : Nat} {p : Prt} (hi : ps[i]? = some p) : ∃ b o v, a = some ⟨b, o, none⟩ ∧ Row h b (o + i * 9) (ePr v) ∧ PrR (fun b => lo ≤ b ∧ b < h.size) h v p := by
  obtain ⟨vs, h1, h2, h3⟩ := O
  obtain ⟨v, hv, hr⟩ := h3.get hi
  obtain ⟨b, o, e1, e2, e3⟩ := (SlF.of_own h1 (by rw [h2, h3.length])).elem ePr_len hv
  exact ⟨b, o, v, e1, e3, hr.imp fun b hb => ⟨hb.1, hb.2.1⟩⟩
theorem row_pr {h : Heap} {b o : Nat} {v : PrV} (r : Row h b o (ePr v)) : rd h b o 9 = some (ePr v) := r.rd0 9 (Nat.le_refl _)
theorem OwnP.push {lo : Nat} {h h' : Heap} {a a' : Option Addr} {n c' : Nat} {ps : List Prt} {v : PrV} {x : Prt} {vs : List PrV} (h2 : n = ps.length) (h3 : All2 (PrR (fun b => lo ≤ b ∧ b < h.size ∧ some b ≠ AX.ob a) h) vs ps)
    (r : PrR (fun b => lo ≤ b ∧ b < h.size ∧ some b ≠ AX.ob a) h v x) (O : Own lo h' 116 9 a' (n + 1) c' (vs.flatMap ePr ++ ePr v)) (G : Gr (AX.ob a) h h') (A : AX.ob a' = AX.ob a ∨ ∃ k, AX.ob a' = some k ∧ h.size ≤ k) : OwnP lo h' a' (n + 1) c' (ps ++ [x]) := by
  have hto : ∀ b, (lo ≤ b ∧ b < h.size ∧ some b ≠ AX.ob a) → (lo ≤ b ∧ b < h'.size ∧ some b ≠ AX.ob a') ∧ h'[b]? = h[b]? := by
    rintro b ⟨b1, b2, b3⟩
    refine ⟨⟨b1, Nat.lt_of_lt_of_le b2 G.size, ?_⟩, G.at_ b b2 b3⟩
    rcases A with e | ⟨k, e, hk⟩
    · rw [e]; exact b3
    · rw [e]; intro e'; cases e'; omega
  refine ⟨vs ++ [v], ?_, by simp [h2], (h3.imp fun _ _ r => r.to hto).append (.cons (r.to hto) .nil)⟩
  rw [List.flatMap_append]
  simpa using O
end Go.AX
namespace Go.Proofs.Ytefghfgmkndikaa
open Go Go.AX
theorem slT130 : slT Try.prog 130 116 9 120 = true := by kernel_rfl
/-- The states of a run. -/
def allP (l : List Cmd) (k : Nat) : List Prt := (List.range (k + 1)).map fun i => runP (l.take i)
theorem allP_at {l : List Cmd} {k i : Nat} (h : i ≤ k) : (allP l k)[i]? = some (runP (l.take i)) := by simp [allP, List.getElem?_map, List.getElem?_range (show i < k + 1 by omega)]
theorem allP_len (l : List Cmd) (k : Nat) : (allP l k).length = k + 1 := by simp [allP]
theorem allP_succ (l : List Cmd) (k : Nat) : allP l (k + 1) = allP l k ++ [runP (l.take (k + 1))] := by unfold allP; rw [List.range_succ, List.map_append]; (try rfl)
theorem run_succ {l : List Cmd} {k : Nat} {c : Cmd} (h : l[k]? = some c) : runP (l.take (k + 1)) = stepP (runP (l.take k)) c := by
  unfold runP; rw [List.take_add_one, h]; simp [List.foldl_append]
theorem take_lt {l : List Cmd} (h : ∀ c ∈ l, Lt100 c) (k : Nat) : ∀ c ∈ l.take k, Lt100 c := fun c hc => h c (List.mem_of_mem_take hc)
theorem runs_good {l : List Cmd} (h : ∀ c ∈ l, Lt100 c) (k : Nat) (hk : k ≤ l.length) : GdP (100 * k) (runP (l.take k)) := by
  have := runG (l.take k) emptyG (take_lt h k)
  rw [List.length_take, Nat.min_eq_left hk, Nat.zero_add] at this
  exact this
set_option maxHeartbeats 1000000 in
theorem run_ok (l : List Cmd) (h : Heap) {B : Nat → Prop} {a : Option Addr} {n : Nat} (S : SlM B h a l) (F : ∀ c ∈ l, Lt100 c) (hl : l.length ≤ 1000) {R : Value → Heap → Prop}
    (hR : ∀ a' c' h', OwnP h.size h' a' (l.length + 1) c' (allP l l.length) → Ext h h' → R (.slice a' (l.length + 1) c') h') : CallsH Try.prog 65 [.slice a l.length n] h R := by
  have hbig : big = 1000000 := rfl
  refine f65ok (by simp) ?_
  (try simp (config := { maxSteps := 1000000 }) (disch := first | exact Nat.le_of_ble_eq_true rfl | omega) only [AXS, AXB, J.dst, reduceIte, Nat.reduceEqDiff, Nat.reduceAdd, Nat.reduceMul, Nat.reduceLT, Nat.reduceLeDiff]); rw [f65c0_eq]; (try simp (config := { maxSteps := 1000000 }) (disch := first | exact Nat.le_of_ble_eq_true rfl | omega) only [AXS, AXB, J.dst, reduceIte, Nat.reduceEqDiff, Nat.reduceAdd, Nat.reduceMul, Nat.reduceLT, Nat.reduceLeDiff, f65r0]); rw [f65c1_eq]; (try simp (config := { maxSteps := 1000000 }) (disch := first | exact Nat.le_of_ble_eq_true rfl | omega) only [AXS, AXB, J.dst, reduceIte, Nat.reduceEqDiff, Nat.reduceAdd, Nat.reduceMul, Nat.reduceLT, Nat.reduceLeDiff, f65r1])
  refine wL_bslN rfl ?_; rintro b1 h1 x1 s1 hb1 (B1 : Blk _ _ _ (ePr ⟨⟨0, 0, ⟨0, 0⟩, 0, 0⟩, none, 0, 0, none, 0, 0, none, 0, 0⟩))
  (try simp (config := { maxSteps := 1000000 }) (disch := first | exact Nat.le_of_ble_eq_true rfl | omega) only [AXS, AXB, J.dst, reduceIte, Nat.reduceEqDiff, Nat.reduceAdd, Nat.reduceMul, Nat.reduceLT, Nat.reduceLeDiff]); rw [f65c2_eq]; (try simp (config := { maxSteps := 1000000 }) (disch := first | exact Nat.le_of_ble_eq_true rfl | omega) only [AXS, AXB, J.dst, reduceIte, Nat.reduceEqDiff, Nat.reduceAdd, Nat.reduceMul, Nat.reduceLT, Nat.reduceLeDiff, f65r2])
  have O1 : OwnP h.size h1 (some ⟨b1, 0, none⟩) 1 1 (allP l 0) := by
    refine ⟨[⟨⟨0, 0, ⟨0, 0⟩, 0, 0⟩, none, 0, 0, none, 0, 0, none, 0, 0⟩], Own.of_blk (by omega) B1 (by simp [ePr_len]) (Nat.le_refl _) (by decide) (by simp [ePr]), rfl, .cons ⟨rfl, rfl, Nat.le_refl _, rfl, rfl, ⟨[], .nil, .nil⟩, .nil, .nil⟩ .nil⟩
  rw [f65c3_eq]
  refine loop_in (fun m σ h' => Ext h h' ∧ ∃ (k c' : Nat) (a' : Option Addr), k + m = l.length ∧ OwnP h.size h' a' (k + 1) c' (allP l k) ∧ σ = [(0, .slice a l.length n), (3, .slice a' (k + 1 : Nat) c'), (4, vi k)]) l.length
    ⟨x1, 0, 1, _, by omega, O1, rfl⟩ ?_
  rintro m σ h2 ⟨x2, k, c', a', hk, O, rfl⟩ Q' hnx hex hrt _
  (try simp (config := { maxSteps := 1000000 }) (disch := first | exact Nat.le_of_ble_eq_true rfl | omega) only [AXS, AXB, J.dst, reduceIte, Nat.reduceEqDiff, Nat.reduceAdd, Nat.reduceMul, Nat.reduceLT, Nat.reduceLeDiff]); rw [f65c4_eq]; (try simp (config := { maxSteps := 1000000 }) (disch := first | exact Nat.le_of_ble_eq_true rfl | omega) only [AXS, AXB, J.dst, reduceIte, Nat.reduceEqDiff, Nat.reduceAdd, Nat.reduceMul, Nat.reduceLT, Nat.reduceLeDiff, f65r3]); rw [f65c5_eq]; (try simp (config := { maxSteps := 1000000 }) (disch := first | exact Nat.le_of_ble_eq_true rfl | omega) only [AXS, AXB, J.dst, reduceIte, Nat.reduceEqDiff, Nat.reduceAdd, Nat.reduceMul, Nat.reduceLT, Nat.reduceLeDiff])
  refine ⟨fun hh => ?_, fun hh => ?_⟩
  · have hkl : k < l.length := by have := of_decide_eq_true hh; omega
    obtain ⟨c, hx⟩ := get_ex hkl
    obtain ⟨b', o, cv, rfl, _, hrow, hcr⟩ := (S.ext x2).elem hx
    obtain ⟨b3, o3, pv, rfl, hrow3, hpr⟩ := O.elem (allP_at (Nat.le_refl k))
    try simp (config := { maxSteps := 1000000 }) (disch := first | exact Nat.le_of_ble_eq_true rfl | omega) only [AXS, AXB, J.dst, reduceIte, Nat.reduceEqDiff, Nat.reduceAdd, Nat.reduceMul, Nat.reduceLT, Nat.reduceLeDiff]
    rw [f65c6_eq]
    have hw : IntKind.i64.wrap (((k + 1 : Nat) : Int) - 1) = (k : Int) := by rw [i64_wrap (by omega) (by omega)]; omega
    (try simp (config := { maxSteps := 1000000 }) (disch := first | exact Nat.le_of_ble_eq_true rfl | omega) only [AXS, AXB, J.dst, reduceIte, Nat.reduceEqDiff, Nat.reduceAdd, Nat.reduceMul, Nat.reduceLT, Nat.reduceLeDiff]); rw [f65c7_eq]; (try simp (config := { maxSteps := 1000000 }) (disch := first | exact Nat.le_of_ble_eq_true rfl | omega) only [AXS, AXB, J.dst, reduceIte, Nat.reduceEqDiff, Nat.reduceAdd, Nat.reduceMul, Nat.reduceLT, Nat.reduceLeDiff, f65r4, hw, row_pr hrow3])
    refine ⟨by omega, by omega, ?_⟩
    refine wL_newN ?_; rintro b5 h3 x3 s3 hb5 B5
    try simp (config := { maxSteps := 1000000 }) (disch := first | exact Nat.le_of_ble_eq_true rfl | omega) only [AXS, AXB, J.dst, reduceIte, Nat.reduceEqDiff, Nat.reduceAdd, Nat.reduceMul, Nat.reduceLT, Nat.reduceLeDiff]
    refine wL_stN rfl rfl rfl B5 (by decide) (ePr_one pv) ?_
    rintro h4 u4 (B4 : Blk _ _ _ (ePr pv))
    have x24 := u4.ext x3 (by omega)
    have x4 := x2.trans x24
    have y4 := x24.size
    have hpr4 := hpr.ext x24
    have hcr4 := hcr.ext x24
    have hrow4 := hrow.ext x24
    have hg := runs_good F k (by omega)
    have app : ∀ hz b6 pv', Ext h4 hz → Blk hz b6 116 (ePr pv') → PrR (fun b => h4.size ≤ b ∧ b < hz.size) hz pv' (stepP (runP (l.take k)) c) →
        wC Try.prog f65c9 (X.inBlock 1 (X.then (fun σ h => wC Try.prog f65c10 Q' σ h) Q')) [(0, .slice (some ⟨b', o, none⟩) l.length n), (3, .slice (some ⟨b3, o3, none⟩) (k + 1 : Nat) c'), (4, vi k), (6, ptr b6 0)] hz := by
      intro hz b6 pv' xz B6 P6
      have xa := x4.trans xz
      have ya := xa.size
      have yz := xz.size
      have hO := O.ob
      obtain ⟨vs, h1', h2', h3'⟩ := O.ext (x24.trans xz)
      (try simp (config := { maxSteps := 1000000 }) (disch := first | exact Nat.le_of_ble_eq_true rfl | omega) only [AXS, AXB, J.dst, reduceIte, Nat.reduceEqDiff, Nat.reduceAdd, Nat.reduceMul, Nat.reduceLT, Nat.reduceLeDiff]); rw [f65c9_eq]; (try simp (config := { maxSteps := 1000000 }) (disch := first | exact Nat.le_of_ble_eq_true rfl | omega) only [AXS, AXB, J.dst, reduceIte, Nat.reduceEqDiff, Nat.reduceAdd, Nat.reduceMul, Nat.reduceLT, Nat.reduceLeDiff, f65r6, B6.rd, ePr])
      refine wL_bslN rfl ?_; rintro b7 h7 x7 s7 hb7 (B7 : Blk _ _ _ (ePr pv'))
      try simp (config := { maxSteps := 1000000 }) (disch := first | exact Nat.le_of_ble_eq_true rfl | omega) only [AXS, AXB, J.dst, reduceIte, Nat.reduceEqDiff, Nat.reduceAdd, Nat.reduceMul, Nat.reduceLT, Nat.reduceLeDiff]
      rw [wL_raw]
      refine raw_append slT130 rfl rfl rfl (h1'.ext x7) (news := ePr pv') (by rw [ePr_len]) (.inr ⟨b7, 0, rfl, B7.row⟩) (ePr_one _) (by unfold maxLen; omega) (by omega) (by have := x7.size; omega) ?_
      intro a8 c8 h8 O8 G8 A8
      refine ⟨trivial, ?_⟩
      have hb3 := hO b3 rfl
      have OP := OwnP.push (by rw [allP_len]) (h3'.imp fun _ _ r => r.to (B' := fun b => h.size ≤ b ∧ b < h7.size ∧ some b ≠ ob (some ⟨b3, o3, none⟩)) fun b hb => ⟨⟨hb.1, Nat.lt_of_lt_of_le hb.2.1 x7.size, hb.2.2⟩, x7.at_ b hb.2.1⟩)
        (P6.to (B' := fun b => h.size ≤ b ∧ b < h7.size ∧ some b ≠ ob (some ⟨b3, o3, none⟩)) fun b hb => ⟨⟨by omega, by omega, fun e => absurd (show b = b3 by simpa [AX.ob] using e) (by omega)⟩, x7.at_ b hb.2⟩) O8 G8 A8
      rw [← run_succ hx, ← allP_succ] at OP
      (try simp (config := { maxSteps := 1000000 }) (disch := first | exact Nat.le_of_ble_eq_true rfl | omega) only [AXS, AXB, J.dst, reduceIte, Nat.reduceEqDiff, Nat.reduceAdd, Nat.reduceMul, Nat.reduceLT, Nat.reduceLeDiff]); rw [f65c10_eq]; (try simp (config := { maxSteps := 1000000 }) (disch := first | exact Nat.le_of_ble_eq_true rfl | omega) only [AXS, AXB, J.dst, reduceIte, Nat.reduceEqDiff, Nat.reduceAdd, Nat.reduceMul, Nat.reduceLT, Nat.reduceLeDiff, f65r7])
      rw [i64_wrap (by omega) (by omega)]
      exact hnx (m - 1) _ _ (by omega) ⟨G8.ext (xa.trans x7) (fun j hj => by cases hj; exact hb3.1), k + 1, c8, a8, by omega, OP, rfl⟩
    have X := Ext.refl h4
    have hb5 := B4.lt
    have hb'l := hrow4.lt (by rw [eCm_len]; omega)
    have hL := F c (List.mem_of_getElem? hx)
    have hnw : 100 * k + (ownM (runP (l.take k)) c).writes.length ≤ 900000 := by have := hL.2; show 100 * k + c.writes.length ≤ _; omega
    have hsp : (ownM (runP (l.take k)) c).spans.length ≤ big := by have := hL.1; show c.spans.length ≤ _; omega
    try simp (config := { maxSteps := 1000000 }) (disch := first | exact Nat.le_of_ble_eq_true rfl | omega) only [AXS, AXB, J.dst, reduceIte, Nat.reduceEqDiff, Nat.reduceAdd, Nat.reduceMul, Nat.reduceLT, Nat.reduceLeDiff]
    rw [f65c8_eq]
    refine drt_lt ?_
    simp only [f65r5, wT_one, wT_alt, wT_nil]
    simp (config := { maxSteps := 1000000 }) (disch := first | exact Nat.le_of_ble_eq_true rfl | omega) only [AXS, AXB, J.dst, reduceIte, Nat.reduceEqDiff, Nat.reduceAdd, Nat.reduceMul, Nat.reduceLT, Nat.reduceLeDiff, B4.rd, ePr, row_cm hrow4]
    refine ⟨hb5, hb5, by omega, by omega, hb'l, ?_⟩
    all_goals try (with_reducible refine And.intro ?_ ?_)
    all_goals try (with_reducible refine And.intro ?_ ?_)
    all_goals try (with_reducible refine And.intro ?_ ?_)
    all_goals first
      | (refine own_okP pv _ cv c false _ hpr.s (hcr4.ext X) hg.e0 hg.e1 ?_; intro cv' hy C' ey; refine ⟨kp_ext X.size ey, ?_⟩; have zy := ey.size; (try replace B6 := B6.ext ey); (try replace B7 := B7.ext ey); replace X := X.trans ey; (try simp (config := { maxSteps := 1000000 }) (disch := first | exact Nat.le_of_ble_eq_true rfl | omega) only [AXS, AXB, J.dst, reduceIte, Nat.reduceEqDiff, Nat.reduceAdd, Nat.reduceMul, Nat.reduceLT, Nat.reduceLeDiff]))
      | (refine apply_ok (n := 100 * k) pv _ cv' (ownM (runP (l.take k)) c) _ (hpr4.ext X) C' hg.sz hnw hsp hg.e0 ?_; intro pv' rv hy O' K' ey; refine ⟨kp_ext X.size ey, ?_⟩; have zy := ey.size; have P' := O'.prr; (try replace B6 := B6.ext ey); (try replace B7 := B7.ext ey); replace X := X.trans ey; (try simp (config := { maxSteps := 1000000 }) (disch := first | exact Nat.le_of_ble_eq_true rfl | omega) only [AXS, AXB, J.dst, reduceIte, Nat.reduceEqDiff, Nat.reduceAdd, Nat.reduceMul, Nat.reduceLT, Nat.reduceLeDiff]))
      | (refine wL_newD (t := 116) X.size ?_; rintro b6 hy ey sy hb6 B6; have zy := ey.size; (try replace B7 := B7.ext ey); (try replace C' := C'.ext ey); (try replace P' := P'.ext ey); replace X := X.trans ey; (try simp (config := { maxSteps := 1000000 }) (disch := first | exact Nat.le_of_ble_eq_true rfl | omega) only [AXS, AXB, J.dst, reduceIte, Nat.reduceEqDiff, Nat.reduceAdd, Nat.reduceMul, Nat.reduceLT, Nat.reduceLeDiff]))
      | (refine wL_newD (t := 47) X.size ?_; rintro b7 hy ey sy hb7 B7; have zy := ey.size; (try replace B6 := B6.ext ey); (try replace C' := C'.ext ey); (try replace P' := P'.ext ey); replace X := X.trans ey; (try simp (config := { maxSteps := 1000000 }) (disch := first | exact Nat.le_of_ble_eq_true rfl | omega) only [AXS, AXB, J.dst, reduceIte, Nat.reduceEqDiff, Nat.reduceAdd, Nat.reduceMul, Nat.reduceLT, Nat.reduceLeDiff]))
    all_goals try (with_reducible refine And.intro ?_ ?_)
    all_goals try (with_reducible refine And.intro ?_ ?_)
    all_goals try (with_reducible refine And.intro ?_ ?_)
    all_goals first
      | (refine own_okP pv _ cv c false _ hpr.s (hcr4.ext X) hg.e0 hg.e1 ?_; intro cv' hy C' ey; refine ⟨kp_ext X.size ey, ?_⟩; have zy := ey.size; (try replace B6 := B6.ext ey); (try replace B7 := B7.ext ey); replace X := X.trans ey; (try simp (config := { maxSteps := 1000000 }) (disch := first | exact Nat.le_of_ble_eq_true rfl | omega) only [AXS, AXB, J.dst, reduceIte, Nat.reduceEqDiff, Nat.reduceAdd, Nat.reduceMul, Nat.reduceLT, Nat.reduceLeDiff]))
      | (refine apply_ok (n := 100 * k) pv _ cv' (ownM (runP (l.take k)) c) _ (hpr4.ext X) C' hg.sz hnw hsp hg.e0 ?_; intro pv' rv hy O' K' ey; refine ⟨kp_ext X.size ey, ?_⟩; have zy := ey.size; have P' := O'.prr; (try replace B6 := B6.ext ey); (try replace B7 := B7.ext ey); replace X := X.trans ey; (try simp (config := { maxSteps := 1000000 }) (disch := first | exact Nat.le_of_ble_eq_true rfl | omega) only [AXS, AXB, J.dst, reduceIte, Nat.reduceEqDiff, Nat.reduceAdd, Nat.reduceMul, Nat.reduceLT, Nat.reduceLeDiff]))
      | (refine wL_newD (t := 116) X.size ?_; rintro b6 hy ey sy hb6 B6; have zy := ey.size; (try replace B7 := B7.ext ey); (try replace C' := C'.ext ey); (try replace P' := P'.ext ey); replace X := X.trans ey; (try simp (config := { maxSteps := 1000000 }) (disch := first | exact Nat.le_of_ble_eq_true rfl | omega) only [AXS, AXB, J.dst, reduceIte, Nat.reduceEqDiff, Nat.reduceAdd, Nat.reduceMul, Nat.reduceLT, Nat.reduceLeDiff]))
      | (refine wL_newD (t := 47) X.size ?_; rintro b7 hy ey sy hb7 B7; have zy := ey.size; (try replace B6 := B6.ext ey); (try replace C' := C'.ext ey); (try replace P' := P'.ext ey); replace X := X.trans ey; (try simp (config := { maxSteps := 1000000 }) (disch := first | exact Nat.le_of_ble_eq_true rfl | omega) only [AXS, AXB, J.dst, reduceIte, Nat.reduceEqDiff, Nat.reduceAdd, Nat.reduceMul, Nat.reduceLT, Nat.reduceLeDiff]))
    all_goals try (with_reducible refine And.intro ?_ ?_)
    all_goals try (with_reducible refine And.intro ?_ ?_)
    all_goals try (with_reducible refine And.intro ?_ ?_)
    all_goals first
      | (refine own_okP pv _ cv c false _ hpr.s (hcr4.ext X) hg.e0 hg.e1 ?_; intro cv' hy C' ey; refine ⟨kp_ext X.size ey, ?_⟩; have zy := ey.size; (try replace B6 := B6.ext ey); (try replace B7 := B7.ext ey); replace X := X.trans ey; (try simp (config := { maxSteps := 1000000 }) (disch := first | exact Nat.le_of_ble_eq_true rfl | omega) only [AXS, AXB, J.dst, reduceIte, Nat.reduceEqDiff, Nat.reduceAdd, Nat.reduceMul, Nat.reduceLT, Nat.reduceLeDiff]))
      | (refine apply_ok (n := 100 * k) pv _ cv' (ownM (runP (l.take k)) c) _ (hpr4.ext X) C' hg.sz hnw hsp hg.e0 ?_; intro pv' rv hy O' K' ey; refine ⟨kp_ext X.size ey, ?_⟩; have zy := ey.size; have P' := O'.prr; (try replace B6 := B6.ext ey); (try replace B7 := B7.ext ey); replace X := X.trans ey; (try simp (config := { maxSteps := 1000000 }) (disch := first | exact Nat.le_of_ble_eq_true rfl | omega) only [AXS, AXB, J.dst, reduceIte, Nat.reduceEqDiff, Nat.reduceAdd, Nat.reduceMul, Nat.reduceLT, Nat.reduceLeDiff]))
      | (refine wL_newD (t := 116) X.size ?_; rintro b6 hy ey sy hb6 B6; have zy := ey.size; (try replace B7 := B7.ext ey); (try replace C' := C'.ext ey); (try replace P' := P'.ext ey); replace X := X.trans ey; (try simp (config := { maxSteps := 1000000 }) (disch := first | exact Nat.le_of_ble_eq_true rfl | omega) only [AXS, AXB, J.dst, reduceIte, Nat.reduceEqDiff, Nat.reduceAdd, Nat.reduceMul, Nat.reduceLT, Nat.reduceLeDiff]))
      | (refine wL_newD (t := 47) X.size ?_; rintro b7 hy ey sy hb7 B7; have zy := ey.size; (try replace B6 := B6.ext ey); (try replace C' := C'.ext ey); (try replace P' := P'.ext ey); replace X := X.trans ey; (try simp (config := { maxSteps := 1000000 }) (disch := first | exact Nat.le_of_ble_eq_true rfl | omega) only [AXS, AXB, J.dst, reduceIte, Nat.reduceEqDiff, Nat.reduceAdd, Nat.reduceMul, Nat.reduceLT, Nat.reduceLeDiff]))
    all_goals try (with_reducible refine And.intro ?_ ?_)
    all_goals try (with_reducible refine And.intro ?_ ?_)
    all_goals try (with_reducible refine And.intro ?_ ?_)
    all_goals first
      | (refine own_okP pv _ cv c false _ hpr.s (hcr4.ext X) hg.e0 hg.e1 ?_; intro cv' hy C' ey; refine ⟨kp_ext X.size ey, ?_⟩; have zy := ey.size; (try replace B6 := B6.ext ey); (try replace B7 := B7.ext ey); replace X := X.trans ey; (try simp (config := { maxSteps := 1000000 }) (disch := first | exact Nat.le_of_ble_eq_true rfl | omega) only [AXS, AXB, J.dst, reduceIte, Nat.reduceEqDiff, Nat.reduceAdd, Nat.reduceMul, Nat.reduceLT, Nat.reduceLeDiff]))
      | (refine apply_ok (n := 100 * k) pv _ cv' (ownM (runP (l.take k)) c) _ (hpr4.ext X) C' hg.sz hnw hsp hg.e0 ?_; intro pv' rv hy O' K' ey; refine ⟨kp_ext X.size ey, ?_⟩; have zy := ey.size; have P' := O'.prr; (try replace B6 := B6.ext ey); (try replace B7 := B7.ext ey); replace X := X.trans ey; (try simp (config := { maxSteps := 1000000 }) (disch := first | exact Nat.le_of_ble_eq_true rfl | omega) only [AXS, AXB, J.dst, reduceIte, Nat.reduceEqDiff, Nat.reduceAdd, Nat.reduceMul, Nat.reduceLT, Nat.reduceLeDiff]))
      | (refine wL_newD (t := 116) X.size ?_; rintro b6 hy ey sy hb6 B6; have zy := ey.size; (try replace B7 := B7.ext ey); (try replace C' := C'.ext ey); (try replace P' := P'.ext ey); replace X := X.trans ey; (try simp (config := { maxSteps := 1000000 }) (disch := first | exact Nat.le_of_ble_eq_true rfl | omega) only [AXS, AXB, J.dst, reduceIte, Nat.reduceEqDiff, Nat.reduceAdd, Nat.reduceMul, Nat.reduceLT, Nat.reduceLeDiff]))
      | (refine wL_newD (t := 47) X.size ?_; rintro b7 hy ey sy hb7 B7; have zy := ey.size; (try replace B6 := B6.ext ey); (try replace C' := C'.ext ey); (try replace P' := P'.ext ey); replace X := X.trans ey; (try simp (config := { maxSteps := 1000000 }) (disch := first | exact Nat.le_of_ble_eq_true rfl | omega) only [AXS, AXB, J.dst, reduceIte, Nat.reduceEqDiff, Nat.reduceAdd, Nat.reduceMul, Nat.reduceLT, Nat.reduceLeDiff]))
    all_goals
      refine wL_stD rfl rfl (by omega) rfl B6 (by decide) (ePr_one pv') ?_
      rintro hz uz (D6 : Blk _ _ _ (ePr pv'))
      try simp (config := { maxSteps := 1000000 }) (disch := first | exact Nat.le_of_ble_eq_true rfl | omega) only [AXS, AXB, J.dst, reduceIte, Nat.reduceEqDiff, Nat.reduceAdd, Nat.reduceMul, Nat.reduceLT, Nat.reduceLeDiff]
      refine wL_stD rfl rfl (by omega) rfl (uz.blk B7 (by omega)) (by decide) (eRp_one rv) ?_
      rintro hw uw (D7 : Blk _ _ _ (eRp rv))
      try simp (config := { maxSteps := 1000000 }) (disch := first | exact Nat.le_of_ble_eq_true rfl | omega) only [AXS, AXB, J.dst, reduceIte, Nat.reduceEqDiff, Nat.reduceAdd, Nat.reduceMul, Nat.reduceLT, Nat.reduceLeDiff]
      have ez := uz.size
      have ew := uw.size
      refine app hw b6 pv' (uw.ext (uz.ext X (by omega)) (by omega)) (uw.blk D6 (by omega)) ((P'.at_ (h' := hz) fun b hb => uz.ne b (by omega)).to fun b hb => ⟨⟨by omega, by omega⟩, uw.ne b (by omega)⟩)
  · have hkl : k = l.length := by have := of_decide_eq_false hh; omega
    subst hkl
    refine hex _ _ ?_
    (try simp (config := { maxSteps := 1000000 }) (disch := first | exact Nat.le_of_ble_eq_true rfl | omega) only [AXS, AXB, J.dst, reduceIte, Nat.reduceEqDiff, Nat.reduceAdd, Nat.reduceMul, Nat.reduceLT, Nat.reduceLeDiff]); rw [f65c11_eq]; (try simp (config := { maxSteps := 1000000 }) (disch := first | exact Nat.le_of_ble_eq_true rfl | omega) only [AXS, AXB, J.dst, reduceIte, Nat.reduceEqDiff, Nat.reduceAdd, Nat.reduceMul, Nat.reduceLT, Nat.reduceLeDiff, f65r8])
    exact hR _ _ _ O x2
end Go.Proofs.Ytefghfgmkndikaa
namespace Go.AX
open Go
theorem raw_map {P : Program} {o : Oper} {σ : Env} {h : Heap} {K : Value → Heap → Prop} {t : TypeId} (ho : o.op = .makeMap t none) (H : ∀ h', Ext h h' → h'.size = h.size + 1 → h'[h.size]? = some (.map #[] 0) → K (.map (some h.size)) h') : RawW P o σ h K := by
  refine ⟨?_, ?_, ?_⟩
  · rw [ho]; intro u hu
    simp only [Op.operands, Option.toArray, List.mem_toArray, List.not_mem_nil, Array.not_mem_empty] at hu
  · rw [ho]; intro cs b hh; cases hh
  · intro w hw
    subst hw
    have hrun : (Instr.makeMap t none).run P w = .ok (.map (some w.heap.size)) { w with heap := w.heap.push (.map #[] 0) } := rfl
    refine ⟨.value (.map (some w.heap.size)), _, { w with heap := w.heap.push (.map #[] 0) }, ?_, rfl, ?_, H _ ((Ext.refl w.heap).push _) (by simp) (by simp)⟩
    · simp [execOp, ho, hrun]
    · exact ⟨rfl, rfl, rfl⟩
end Go.AX
namespace Go.Proofs.Ytefghfgmkndikaa
open Go Go.AX
theorem once_none (h : Heap) {a : Option Addr} {c : Nat} {R : Value → Heap → Prop} (hR : ∀ h', Ext h h' → R (.bool true) h') : CallsH Try.prog 102 [.slice a (0 : Nat) c] h R := by
  refine f102ok (by simp) ?_
  (try simp (config := { maxSteps := 1000000 }) (disch := first | exact Nat.le_of_ble_eq_true rfl | omega) only [AXS, AXB, J.dst, reduceIte, Nat.reduceEqDiff, Nat.reduceAdd, Nat.reduceMul, Nat.reduceLT, Nat.reduceLeDiff]); rw [f102c0_eq]; (try simp (config := { maxSteps := 1000000 }) (disch := first | exact Nat.le_of_ble_eq_true rfl | omega) only [AXS, AXB, J.dst, reduceIte, Nat.reduceEqDiff, Nat.reduceAdd, Nat.reduceMul, Nat.reduceLT, Nat.reduceLeDiff, f102r0]); rw [f102c1_eq]; (try simp (config := { maxSteps := 1000000 }) (disch := first | exact Nat.le_of_ble_eq_true rfl | omega) only [AXS, AXB, J.dst, reduceIte, Nat.reduceEqDiff, Nat.reduceAdd, Nat.reduceMul, Nat.reduceLT, Nat.reduceLeDiff, f102r1])
  rw [wL_raw]
  refine raw_map rfl ?_
  intro h1 x1 _ _
  refine ⟨trivial, ?_⟩
  (try simp (config := { maxSteps := 1000000 }) (disch := first | exact Nat.le_of_ble_eq_true rfl | omega) only [AXS, AXB, J.dst, reduceIte, Nat.reduceEqDiff, Nat.reduceAdd, Nat.reduceMul, Nat.reduceLT, Nat.reduceLeDiff]); rw [f102c2_eq]; (try simp (config := { maxSteps := 1000000 }) (disch := first | exact Nat.le_of_ble_eq_true rfl | omega) only [AXS, AXB, J.dst, reduceIte, Nat.reduceEqDiff, Nat.reduceAdd, Nat.reduceMul, Nat.reduceLT, Nat.reduceLeDiff, f102r2])
  rw [f102c3_eq]
  refine loop_in (fun n σ h' => h' = h1 ∧ σ = [(3, .map (some h.size)), (7, .slice a (0 : Nat) c), (8, vi (0 : Nat)), (9, vi (0 : Nat))]) 0 ⟨rfl, rfl⟩ ?_
  rintro n σ h' ⟨rfl, rfl⟩ Q' hnx hex hrt _
  (try simp (config := { maxSteps := 1000000 }) (disch := first | exact Nat.le_of_ble_eq_true rfl | omega) only [AXS, AXB, J.dst, reduceIte, Nat.reduceEqDiff, Nat.reduceAdd, Nat.reduceMul, Nat.reduceLT, Nat.reduceLeDiff]); rw [f102c4_eq]; (try simp (config := { maxSteps := 1000000 }) (disch := first | exact Nat.le_of_ble_eq_true rfl | omega) only [AXS, AXB, J.dst, reduceIte, Nat.reduceEqDiff, Nat.reduceAdd, Nat.reduceMul, Nat.reduceLT, Nat.reduceLeDiff, f102r3]); rw [f102c5_eq]; (try simp (config := { maxSteps := 1000000 }) (disch := first | exact Nat.le_of_ble_eq_true rfl | omega) only [AXS, AXB, J.dst, reduceIte, Nat.reduceEqDiff, Nat.reduceAdd, Nat.reduceMul, Nat.reduceLT, Nat.reduceLeDiff])
  refine ⟨fun hh => ?_, fun hh => ?_⟩
  · have := of_decide_eq_true hh; omega
  · refine hex _ _ ?_
    (try simp (config := { maxSteps := 1000000 }) (disch := first | exact Nat.le_of_ble_eq_true rfl | omega) only [AXS, AXB, J.dst, reduceIte, Nat.reduceEqDiff, Nat.reduceAdd, Nat.reduceMul, Nat.reduceLT, Nat.reduceLeDiff]); rw [f102c13_eq]; (try simp (config := { maxSteps := 1000000 }) (disch := first | exact Nat.le_of_ble_eq_true rfl | omega) only [AXS, AXB, J.dst, reduceIte, Nat.reduceEqDiff, Nat.reduceAdd, Nat.reduceMul, Nat.reduceLT, Nat.reduceLeDiff, f102r9])
    exact hR _ x1
theorem mayP_none {B : Nat → Prop} {n : Nat} (pv : PrV) (p : Prt) (h : Heap) (S : PrR B h pv p) (g : GdP n p) (hn : n ≤ 900000) (hr : p.records = []) (hd : p.done = []) (hl : p.s.low ≤ p.s.closed ∨ p.s.low = 0) {R : Value → Heap → Prop}
    (hR : ∀ h', Ext h h' → R (.bool true) h') : CallsH Try.prog 60 [.agg (ePr pv).toArray] h R := by
  have hrn := S.rn
  have hdn := S.dn
  rw [hr] at hrn
  rw [hd] at hdn
  have hm : mostEpoch = 1099511627776 := rfl
  have e0 := g.e0
  have e1 := g.e1
  have hs := S.s
  refine f60ok (by simp) ?_
  (try simp (config := { maxSteps := 1000000 }) (disch := first | exact Nat.le_of_ble_eq_true rfl | omega) only [AXS, AXB, J.dst, reduceIte, Nat.reduceEqDiff, Nat.reduceAdd, Nat.reduceMul, Nat.reduceLT, Nat.reduceLeDiff]); rw [f60c0_eq]; (try simp (config := { maxSteps := 1000000 }) (disch := first | exact Nat.le_of_ble_eq_true rfl | omega) only [AXS, AXB, J.dst, reduceIte, Nat.reduceEqDiff, Nat.reduceAdd, Nat.reduceMul, Nat.reduceLT, Nat.reduceLeDiff, f60r0])
  refine wL_boxN rfl ?_; rintro b1 h1 x1 s1 hb1 (B1 : Blk _ _ _ (ePr pv))
  try simp (config := { maxSteps := 1000000 }) (disch := first | exact Nat.le_of_ble_eq_true rfl | omega) only [AXS, AXB, J.dst, reduceIte, Nat.reduceEqDiff, Nat.reduceAdd, Nat.reduceMul, Nat.reduceLT, Nat.reduceLeDiff]
  rw [f60c1_eq]
  simp (config := { maxSteps := 1000000 }) (disch := first | exact Nat.le_of_ble_eq_true rfl | omega) only [AXJ, AXS, AXB, J.dst, reduceIte, Nat.reduceEqDiff, Nat.reduceAdd, Nat.reduceMul, Nat.reduceLT, Nat.reduceLeDiff, f60r1, B1.cel, ePr, S.cn]
  refine mayG g.sz.cells hn (S.cells.ext x1) ?_
  intro h2 x2
  refine ⟨trivial, ?_⟩
  have B2 := B1.ext x2
  simp (config := { maxSteps := 1000000 }) (disch := first | exact Nat.le_of_ble_eq_true rfl | omega) only [AXJ, AXS, AXB, J.dst, reduceIte, Nat.reduceEqDiff, Nat.reduceAdd, Nat.reduceMul, Nat.reduceLT, Nat.reduceLeDiff, B2.cel, ePr, hrn, List.length_nil]
  refine once_none _ ?_
  intro h3 x3
  refine ⟨trivial, ?_⟩
  have B3 := B2.ext x3
  simp (config := { maxSteps := 1000000 }) (disch := first | exact Nat.le_of_ble_eq_true rfl | omega) only [AXJ, AXS, AXB, J.dst, reduceIte, Nat.reduceEqDiff, Nat.reduceAdd, Nat.reduceMul, Nat.reduceLT, Nat.reduceLeDiff, f60r1a, B3.cel, ePr, hdn, List.length_nil]
  refine once_none _ ?_
  intro h4 x4
  refine ⟨trivial, ?_⟩
  have B4 := B3.ext x4
  simp (config := { maxSteps := 1000000 }) (disch := first | exact Nat.le_of_ble_eq_true rfl | omega) only [AXJ, AXS, AXB, J.dst, reduceIte, Nat.reduceEqDiff, Nat.reduceAdd, Nat.reduceMul, Nat.reduceLT, Nat.reduceLeDiff]
  simp (config := { maxSteps := 1000000 }) (disch := first | exact Nat.le_of_ble_eq_true rfl | omega) only [AXJ, AXS, AXB, J.dst, reduceIte, Nat.reduceEqDiff, Nat.reduceAdd, Nat.reduceMul, Nat.reduceLT, Nat.reduceLeDiff, f60r1b, B4.cel, ePr, hs]
  simp (config := { maxSteps := 1000000 }) (disch := first | exact Nat.le_of_ble_eq_true rfl | omega) only [AXJ, AXS, AXB, J.dst, reduceIte, Nat.reduceEqDiff, Nat.reduceAdd, Nat.reduceMul, Nat.reduceLT, Nat.reduceLeDiff, f60r1c, B4.cel, ePr, hs]
  simp (config := { maxSteps := 1000000 }) (disch := first | exact Nat.le_of_ble_eq_true rfl | omega) only [AXJ, AXS, AXB, J.dst, reduceIte, Nat.reduceEqDiff, Nat.reduceAdd, Nat.reduceMul, Nat.reduceLT, Nat.reduceLeDiff, f60r1d, B4.cel, ePr, hs]
  simp (config := { maxSteps := 1000000 }) (disch := first | exact Nat.le_of_ble_eq_true rfl | omega) only [AXJ, AXS, AXB, J.dst, reduceIte, Nat.reduceEqDiff, Nat.reduceAdd, Nat.reduceMul, Nat.reduceLT, Nat.reduceLeDiff, f60r1e]
  have hfin : (decide (p.s.epoch ≥ 0) && decide (p.s.epoch ≤ 1099511627776) && (decide (p.s.low ≤ p.s.closed) || p.s.low == 0)) = true := by
    simp only [Bool.and_eq_true, Bool.or_eq_true, decide_eq_true_eq, beq_iff_eq]
    exact ⟨⟨e0, by omega⟩, hl⟩
  rw [hfin]
  exact hR _ (((x1.trans x2).trans x3).trans x4)
def pg1 : Cmd := ⟨⟨1, 1, 2, 0, ⟨0, 0, 0, 0⟩, ⟨0, 0⟩, 0, false⟩, [], []⟩
def pg2 : Cmd := ⟨⟨3, 1, 0, 0, ⟨1, 0, 0, 0⟩, ⟨5, 0⟩, 0, false⟩, [], [⟨⟨#[107]⟩, false, ⟨#[120]⟩⟩]⟩
def pg3 : Cmd := ⟨⟨2, 1, 0, 0, ⟨0, 0, 0, 0⟩, ⟨9, 0⟩, 0, false⟩, [⟨⟨#[97]⟩, ⟨#[122]⟩⟩], []⟩
theorem pg_facts : (applyP emptyP pg1).2.s.err = 0 ∧ (applyP emptyP pg1).1.s.holder = 2 ∧ (applyP (applyP emptyP pg1).1 pg2).2.s.err = 0 ∧ (applyP (applyP (applyP emptyP pg1).1 pg2).1 pg3).2.s.err = 20 ∧
    (applyP (applyP emptyP pg1).1 pg2).1.records = [] ∧ (applyP (applyP emptyP pg1).1 pg2).1.done = [] ∧ (applyP (applyP emptyP pg1).1 pg2).1.s.low = 0 := by
  refine ⟨rfl, rfl, by decide, ?_, by decide, by decide, by decide⟩
  kernel_rfl
def zPr : PrV := ⟨⟨0, 0, ⟨0, 0⟩, 0, 0⟩, none, 0, 0, none, 0, 0, none, 0, 0⟩
theorem zPr_ok {B : Nat → Prop} (h : Heap) : PrR B h zPr emptyP := ⟨rfl, rfl, Nat.le_refl _, rfl, rfl, ⟨[], .nil, .nil⟩, .nil, .nil⟩
theorem begunP_ok (h : Heap) {R : Value → Heap → Prop} (hR : ∀ h', Ext h h' → R (.bool true) h') : CallsH Try.prog 52 [] h R := by
  have hbig : big = 1000000 := rfl
  obtain ⟨f1, f2, f3, f4, f5, f6, f7⟩ := pg_facts
  have g0 := emptyG
  have g1 := applyG (c := pg1) g0 ⟨by decide, by decide⟩
  have g2 := applyG (c := pg2) g1 ⟨by decide, by decide⟩
  refine f52ok (by simp) ?_
  (try simp (config := { maxSteps := 1000000 }) (disch := first | exact Nat.le_of_ble_eq_true rfl | omega) only [AXS, AXB, J.dst, reduceIte, Nat.reduceEqDiff, Nat.reduceAdd, Nat.reduceMul, Nat.reduceLT, Nat.reduceLeDiff]); rw [f52c0_eq]; (try simp (config := { maxSteps := 1000000 }) (disch := first | exact Nat.le_of_ble_eq_true rfl | omega) only [AXS, AXB, J.dst, reduceIte, Nat.reduceEqDiff, Nat.reduceAdd, Nat.reduceMul, Nat.reduceLT, Nat.reduceLeDiff, f52r0]); rw [f52c1_eq]; (try simp (config := { maxSteps := 1000000 }) (disch := first | exact Nat.le_of_ble_eq_true rfl | omega) only [AXS, AXB, J.dst, reduceIte, Nat.reduceEqDiff, Nat.reduceAdd, Nat.reduceMul, Nat.reduceLT, Nat.reduceLeDiff, f52r1])
  refine apply_ok (B := fun _ => True) (B' := fun _ => True) zPr emptyP ⟨pg1.s, none, 0, 0, none, 0, 0⟩ pg1 _ (zPr_ok _) ⟨rfl, rfl, rfl, .nil, .nil⟩ g0.sz (by decide) (by decide) g0.e0 ?_
  intro p1 r1 h1 P1 K1 x1
  refine ⟨trivial, ?_⟩
  try simp (config := { maxSteps := 1000000 }) (disch := first | exact Nat.le_of_ble_eq_true rfl | omega) only [AXS, AXB, J.dst, reduceIte, Nat.reduceEqDiff, Nat.reduceAdd, Nat.reduceMul, Nat.reduceLT, Nat.reduceLeDiff]
  refine wL_newN ?_; rintro b1 h2 x2 s2 hb1 B1
  try simp (config := { maxSteps := 1000000 }) (disch := first | exact Nat.le_of_ble_eq_true rfl | omega) only [AXS, AXB, J.dst, reduceIte, Nat.reduceEqDiff, Nat.reduceAdd, Nat.reduceMul, Nat.reduceLT, Nat.reduceLeDiff]
  refine wL_newN ?_; rintro b2 h3 x3 s3 hb2 B2
  replace B1 := B1.ext x3
  try simp (config := { maxSteps := 1000000 }) (disch := first | exact Nat.le_of_ble_eq_true rfl | omega) only [AXS, AXB, J.dst, reduceIte, Nat.reduceEqDiff, Nat.reduceAdd, Nat.reduceMul, Nat.reduceLT, Nat.reduceLeDiff]
  refine wL_stN rfl rfl rfl B1 (by decide) (ePr_one p1) ?_
  rintro h4 u4 (B1 : Blk _ _ _ (ePr p1))
  try simp (config := { maxSteps := 1000000 }) (disch := first | exact Nat.le_of_ble_eq_true rfl | omega) only [AXS, AXB, J.dst, reduceIte, Nat.reduceEqDiff, Nat.reduceAdd, Nat.reduceMul, Nat.reduceLT, Nat.reduceLeDiff]
  refine wL_stN rfl rfl rfl (u4.blk B2 (by omega)) (by decide) (eRp_one r1) ?_
  rintro h5 u5 (B2 : Blk _ _ _ (eRp r1))
  replace B1 := u5.blk B1 (by omega)
  have x15 := u5.ext (u4.ext (x2.trans x3) (by omega)) (by omega)
  have y4 := u4.size
  have y5 := u5.size
  have P5 := P1.prr.ext x15
  have hr1 := K1.s
  (try simp (config := { maxSteps := 1000000 }) (disch := first | exact Nat.le_of_ble_eq_true rfl | omega) only [AXS, AXB, J.dst, reduceIte, Nat.reduceEqDiff, Nat.reduceAdd, Nat.reduceMul, Nat.reduceLT, Nat.reduceLeDiff]); rw [f52c2_eq]; (try simp (config := { maxSteps := 1000000 }) (disch := first | exact Nat.le_of_ble_eq_true rfl | omega) only [AXS, AXB, J.dst, reduceIte, Nat.reduceEqDiff, Nat.reduceAdd, Nat.reduceMul, Nat.reduceLT, Nat.reduceLeDiff, f52r2, B1.rd, ePr])
  refine wL_bslN rfl ?_; rintro b3 h6 x6 s6 hb3 (B3 : Blk _ _ _ (eWri ⟨⟨#[107]⟩, false, ⟨#[120]⟩⟩))
  try simp (config := { maxSteps := 1000000 }) (disch := first | exact Nat.le_of_ble_eq_true rfl | omega) only [AXS, AXB, J.dst, reduceIte, Nat.reduceEqDiff, Nat.reduceAdd, Nat.reduceMul, Nat.reduceLT, Nat.reduceLeDiff]
  refine apply_ok (B' := fun _ => True) p1 (applyP emptyP pg1).1 ⟨pg2.s, none, 0, 0, some ⟨b3, 0, none⟩, 1, 1⟩ pg2 _ (P5.ext x6) ⟨rfl, rfl, rfl, .nil, fun _ => ⟨b3, 0, rfl, trivial, B3.row⟩⟩ g1.sz (by decide) (by decide) g1.e0 ?_
  intro p2 r2 h7 P2 K2 x7
  refine ⟨trivial, ?_⟩
  replace B1 := B1.ext (x6.trans x7); replace B2 := B2.ext (x6.trans x7)
  have y6 := x6.size
  have y7 := x7.size
  try simp (config := { maxSteps := 1000000 }) (disch := first | exact Nat.le_of_ble_eq_true rfl | omega) only [AXS, AXB, J.dst, reduceIte, Nat.reduceEqDiff, Nat.reduceAdd, Nat.reduceMul, Nat.reduceLT, Nat.reduceLeDiff]
  refine wL_newN ?_; rintro b4 h8 x8 s8 hb4 B4
  try simp (config := { maxSteps := 1000000 }) (disch := first | exact Nat.le_of_ble_eq_true rfl | omega) only [AXS, AXB, J.dst, reduceIte, Nat.reduceEqDiff, Nat.reduceAdd, Nat.reduceMul, Nat.reduceLT, Nat.reduceLeDiff]
  refine wL_newN ?_; rintro b5 h9 x9 s9 hb5 B5
  replace B1 := B1.ext x8; replace B2 := B2.ext x8
  replace B1 := B1.ext x9; replace B2 := B2.ext x9; replace B4 := B4.ext x9
  try simp (config := { maxSteps := 1000000 }) (disch := first | exact Nat.le_of_ble_eq_true rfl | omega) only [AXS, AXB, J.dst, reduceIte, Nat.reduceEqDiff, Nat.reduceAdd, Nat.reduceMul, Nat.reduceLT, Nat.reduceLeDiff]
  refine wL_stN rfl rfl rfl B4 (by decide) (ePr_one p2) ?_
  rintro h10 u10 (B4 : Blk _ _ _ (ePr p2))
  try simp (config := { maxSteps := 1000000 }) (disch := first | exact Nat.le_of_ble_eq_true rfl | omega) only [AXS, AXB, J.dst, reduceIte, Nat.reduceEqDiff, Nat.reduceAdd, Nat.reduceMul, Nat.reduceLT, Nat.reduceLeDiff]
  refine wL_stN rfl rfl rfl (u10.blk B5 (by omega)) (by decide) (eRp_one r2) ?_
  rintro h11 u11 (B5 : Blk _ _ _ (eRp r2))
  replace B4 := u11.blk B4 (by omega)
  replace B1 := u11.blk (u10.blk B1 (by omega)) (by omega)
  replace B2 := u11.blk (u10.blk B2 (by omega)) (by omega)
  have x711 := u11.ext (u10.ext (x8.trans x9) (by omega)) (by omega)
  have y10 := u10.size
  have y11 := u11.size
  have P11 := P2.prr.ext x711
  have hr2 := K2.s
  (try simp (config := { maxSteps := 1000000 }) (disch := first | exact Nat.le_of_ble_eq_true rfl | omega) only [AXS, AXB, J.dst, reduceIte, Nat.reduceEqDiff, Nat.reduceAdd, Nat.reduceMul, Nat.reduceLT, Nat.reduceLeDiff]); rw [f52c3_eq]; (try simp (config := { maxSteps := 1000000 }) (disch := first | exact Nat.le_of_ble_eq_true rfl | omega) only [AXS, AXB, J.dst, reduceIte, Nat.reduceEqDiff, Nat.reduceAdd, Nat.reduceMul, Nat.reduceLT, Nat.reduceLeDiff, f52r3, B4.rd, ePr])
  refine wL_bslN rfl ?_; rintro b6 h12 x12 s12 hb6 (B6 : Blk _ _ _ (eSpn ⟨⟨#[97]⟩, ⟨#[122]⟩⟩))
  try simp (config := { maxSteps := 1000000 }) (disch := first | exact Nat.le_of_ble_eq_true rfl | omega) only [AXS, AXB, J.dst, reduceIte, Nat.reduceEqDiff, Nat.reduceAdd, Nat.reduceMul, Nat.reduceLT, Nat.reduceLeDiff]
  refine apply_ok (B' := fun _ => True) p2 (applyP (applyP emptyP pg1).1 pg2).1 ⟨pg3.s, some ⟨b6, 0, none⟩, 1, 1, none, 0, 0⟩ pg3 _ (P11.ext x12) ⟨rfl, rfl, rfl, fun _ => ⟨b6, 0, rfl, trivial, B6.row⟩, .nil⟩ g2.sz (by decide) (by decide) g2.e0 ?_
  intro p3 r3 h13 P3 K3 x13
  refine ⟨trivial, ?_⟩
  replace B1 := B1.ext (x12.trans x13); replace B2 := B2.ext (x12.trans x13); replace B4 := B4.ext (x12.trans x13); replace B5 := B5.ext (x12.trans x13)
  have y12 := x12.size
  have y13 := x13.size
  try simp (config := { maxSteps := 1000000 }) (disch := first | exact Nat.le_of_ble_eq_true rfl | omega) only [AXS, AXB, J.dst, reduceIte, Nat.reduceEqDiff, Nat.reduceAdd, Nat.reduceMul, Nat.reduceLT, Nat.reduceLeDiff]
  refine wL_newN ?_; rintro b7 h14 x14 s14 hb7 B7
  try simp (config := { maxSteps := 1000000 }) (disch := first | exact Nat.le_of_ble_eq_true rfl | omega) only [AXS, AXB, J.dst, reduceIte, Nat.reduceEqDiff, Nat.reduceAdd, Nat.reduceMul, Nat.reduceLT, Nat.reduceLeDiff]
  refine wL_newN ?_; rintro b8 h15 xb15 s15 hb8 B8
  replace B1 := B1.ext x14; replace B2 := B2.ext x14; replace B4 := B4.ext x14; replace B5 := B5.ext x14
  replace B1 := B1.ext xb15; replace B2 := B2.ext xb15; replace B4 := B4.ext xb15; replace B5 := B5.ext xb15; replace B7 := B7.ext xb15
  try simp (config := { maxSteps := 1000000 }) (disch := first | exact Nat.le_of_ble_eq_true rfl | omega) only [AXS, AXB, J.dst, reduceIte, Nat.reduceEqDiff, Nat.reduceAdd, Nat.reduceMul, Nat.reduceLT, Nat.reduceLeDiff]
  refine wL_stN rfl rfl rfl B7 (by decide) (ePr_one p3) ?_
  rintro h16 u16 (B7 : Blk _ _ _ (ePr p3))
  try simp (config := { maxSteps := 1000000 }) (disch := first | exact Nat.le_of_ble_eq_true rfl | omega) only [AXS, AXB, J.dst, reduceIte, Nat.reduceEqDiff, Nat.reduceAdd, Nat.reduceMul, Nat.reduceLT, Nat.reduceLeDiff]
  refine wL_stN rfl rfl rfl (u16.blk B8 (by omega)) (by decide) (eRp_one r3) ?_
  rintro h17 u17 (B8 : Blk _ _ _ (eRp r3))
  replace B1 := u17.blk (u16.blk B1 (by omega)) (by omega)
  replace B2 := u17.blk (u16.blk B2 (by omega)) (by omega)
  replace B4 := u17.blk (u16.blk B4 (by omega)) (by omega)
  replace B5 := u17.blk (u16.blk B5 (by omega)) (by omega)
  have x1117 := u17.ext (u16.ext (((x12.trans x13).trans x14).trans xb15) (by omega)) (by omega)
  have P17 := P11.ext x1117
  have hp1 := P1.s
  have hr3 := K3.s
  try simp (config := { maxSteps := 1000000 }) (disch := first | exact Nat.le_of_ble_eq_true rfl | omega) only [AXS, AXB, J.dst, reduceIte, Nat.reduceEqDiff, Nat.reduceAdd, Nat.reduceMul, Nat.reduceLT, Nat.reduceLeDiff]
  rw [f52c4_eq]
  simp (config := { maxSteps := 1000000 }) (disch := first | exact Nat.le_of_ble_eq_true rfl | omega) only [AXJ, AXS, AXB, J.dst, reduceIte, Nat.reduceEqDiff, Nat.reduceAdd, Nat.reduceMul, Nat.reduceLT, Nat.reduceLeDiff, f52r4, B2.cel, eRp, hr1, f1, B1.cel, ePr, hp1, f2]
  simp (config := { maxSteps := 1000000 }) (disch := first | exact Nat.le_of_ble_eq_true rfl | omega) only [AXJ, AXS, AXB, J.dst, reduceIte, Nat.reduceEqDiff, Nat.reduceAdd, Nat.reduceMul, Nat.reduceLT, Nat.reduceLeDiff, f52r4a, B5.cel, eRp, hr2, f3]
  simp (config := { maxSteps := 1000000 }) (disch := first | exact Nat.le_of_ble_eq_true rfl | omega) only [AXJ, AXS, AXB, J.dst, reduceIte, Nat.reduceEqDiff, Nat.reduceAdd, Nat.reduceMul, Nat.reduceLT, Nat.reduceLeDiff, f52r4b, B8.cel, eRp, hr3, f4]
  simp (config := { maxSteps := 1000000 }) (disch := first | exact Nat.le_of_ble_eq_true rfl | omega) only [AXJ, AXS, AXB, J.dst, reduceIte, Nat.reduceEqDiff, Nat.reduceAdd, Nat.reduceMul, Nat.reduceLT, Nat.reduceLeDiff, f52r4c, B4.rd, ePr]
  refine mayP_none p2 (applyP (applyP emptyP pg1).1 pg2).1 _ P17 g2 (by decide) f5 f6 (.inr f7) ?_
  intro h18 x18
  refine ⟨trivial, ?_⟩
  try simp (config := { maxSteps := 1000000 }) (disch := first | exact Nat.le_of_ble_eq_true rfl | omega) only [AXJ, AXS, AXB, J.dst, reduceIte, Nat.reduceEqDiff, Nat.reduceAdd, Nat.reduceMul, Nat.reduceLT, Nat.reduceLeDiff]
  try simp (config := { maxSteps := 1000000 }) (disch := first | exact Nat.le_of_ble_eq_true rfl | omega) only [AXJ, AXS, AXB, J.dst, reduceIte, Nat.reduceEqDiff, Nat.reduceAdd, Nat.reduceMul, Nat.reduceLT, Nat.reduceLeDiff, f52r4d]
  exact hR _ ((((x1.trans (x15.trans (x6.trans x7))).trans x711).trans x1117).trans x18)
end Go.Proofs.Ytefghfgmkndikaa
namespace Go.Proofs.Ytefghfgmkndikaa
open Go Go.AX
/-- b is a state that came behind a. -/
structure Later (a b : Prt) : Prop where
  closed : a.s.closed ≤ b.s.closed
  low : a.s.low ≤ b.s.low
  epoch : a.s.epoch ≤ b.s.epoch
  floor : Stamp.lt b.s.floor a.s.floor = false
  records : a.records <+: b.records
  done : a.done <+: b.done
theorem Later.refl (p : Prt) : Later p p := ⟨Int.le_refl _, Int.le_refl _, Int.le_refl _, Stamp.lt_irrefl _, List.prefix_rfl, List.prefix_rfl⟩
theorem applyP_cases (p : Prt) (c : Cmd) : (applyP p c).1 = p ∨ (c.s.kind = 1 ∧ applyP p c = leaseP p c) ∨ (¬ c.s.kind = 1 ∧ ¬ (p.s.epoch = 0 ∨ c.s.epoch ≠ p.s.epoch) ∧ applyP p c = doesP p c) := by
  have key : ∀ r : Prt × Rep, (if r.2.s.err = 0 then r else (p, r.2)).1 = p ∨ (if r.2.s.err = 0 then r else (p, r.2)) = r := by
    intro r
    split
    · exact .inr rfl
    · exact .inl rfl
  unfold applyP
  by_cases h1 : c.s.kind = 1
  · simp only [if_pos h1]
    rcases key (leaseP p c) with h | h
    · exact .inl h
    · exact .inr (.inl ⟨h1, h⟩)
  · by_cases h2 : p.s.epoch = 0 ∨ c.s.epoch ≠ p.s.epoch
    · left; simp only [if_neg h1, if_pos h2]; rcases key (p, errR 25) with h | h
      · exact h
      · rw [h]
    · simp only [if_neg h1, if_neg h2]
      rcases key (doesP p c) with h | h
      · exact .inl h
      · exact .inr (.inr ⟨h1, h2, h⟩)
end Go.Proofs.Ytefghfgmkndikaa
namespace Go.Proofs.Ytefghfgmkndikaa
open Go Go.AX Go.ChangeShapes Go.WideShapes Go.RowKit Go.Deep
section
variable {H : Type} {enc : TypeId × Value → H} {w : World} {base : Nat}
theorem drop_split {α : Type} (l : List α) (a k b : Nat) (h : b = a + k) : l.drop a = (l.drop a).take k ++ l.drop b := by
  subst h
  rw [← List.drop_drop, List.take_append_drop]
theorem kdI {cs : List Value} (h0 : All2 kdV [.i .i64] cs) : ∃ x : Int, cs = [vi x] := by
  obtain ⟨c0, m0, rfl, ⟨x, rfl, _⟩, h1⟩ := all2_cons h0
  have := all2_nil h1; subst this
  exact ⟨x, rfl⟩
theorem kdB {cs : List Value} (h0 : All2 kdV [.b] cs) : ∃ x : Bool, cs = [.bool x] := by
  obtain ⟨c0, m0, rfl, ⟨x, rfl⟩, h1⟩ := all2_cons h0
  have := all2_nil h1; subst this
  exact ⟨x, rfl⟩
theorem sz43 : Try.prog.cellsOf 43 = 14 := by kernel_rfl
theorem sz3 : Try.prog.cellsOf 3 = 1 := by kernel_rfl
theorem sz2 : Try.prog.cellsOf 2 = 1 := by kernel_rfl
theorem sz37 : Try.prog.cellsOf 37 = 4 := by kernel_rfl
theorem sz39 : Try.prog.cellsOf 39 = 2 := by kernel_rfl
theorem sz40 : Try.prog.cellsOf 40 = 1 := by kernel_rfl
theorem sz41 : Try.prog.cellsOf 41 = 1 := by kernel_rfl
theorem sz94 : Try.prog.cellsOf 94 = 2 := by kernel_rfl
theorem sz70 : Try.prog.cellsOf 70 = 3 := by kernel_rfl
theorem flat3 : flatT Try.prog 20 3 = some [.i .i64] := by kernel_rfl
theorem flat2 : flatT Try.prog 20 2 = some [.i .i64] := by kernel_rfl
theorem flat4 : flatT Try.prog 20 4 = some [.b] := by kernel_rfl
theorem und40 : Try.prog.underlying 40 = some (.slice 94) := by kernel_rfl
theorem und41 : Try.prog.underlying 41 = some (.slice 70) := by kernel_rfl
theorem und111 : Try.prog.underlying 111 = some (.slice 43) := by kernel_rfl
theorem fld43 : isStrF Try.prog 43 [(3, 0), (3, 1), (3, 2), (3, 3), (37, 4), (39, 8), (2, 10), (4, 11), (40, 12), (41, 13)] = true := by kernel_rfl
set_option maxRecDepth 100000 in
theorem trod_cmd {n : Nat} {cs : List Value} {y : DataW H × List MemPlace} (h : DataW.trod enc Try.prog w 0 (fun _ => true) true n 43 cs = some y) :
    ∃ v, cs = eCm v ∧ ∃ c, CmR (fun b => b < w.heap.size) w.heap v c ∧ c.spans.length ≤ maxLen ∧ c.writes.length ≤ maxLen := by
  obtain ⟨hlen, hf⟩ := trod_fields fld43 h
  obtain ⟨n0, y0, h0⟩ := hf (3, 0) (by simp)
  obtain ⟨n1, y1, h1⟩ := hf (3, 1) (by simp)
  obtain ⟨n2, y2, h2⟩ := hf (3, 2) (by simp)
  obtain ⟨n3, y3, h3⟩ := hf (3, 3) (by simp)
  obtain ⟨n4, y4, h4⟩ := hf (37, 4) (by simp)
  obtain ⟨n5, y5, h5⟩ := hf (39, 8) (by simp)
  obtain ⟨n6, y6, h6⟩ := hf (2, 10) (by simp)
  obtain ⟨n7, y7, h7⟩ := hf (4, 11) (by simp)
  obtain ⟨n8, y8, h8⟩ := hf (40, 12) (by simp)
  obtain ⟨n9, y9, h9⟩ := hf (41, 13) (by simp)
  simp only [sz3, sz37, sz39, sz2, sz4, sz40, sz41] at h0 h1 h2 h3 h4 h5 h6 h7 h8 h9
  rw [sz43] at hlen
  obtain ⟨kind, e0⟩ := kdI (flatT_trod _ _ _ _ _ _ flat3 h0)
  obtain ⟨epoch, e1⟩ := kdI (flatT_trod _ _ _ _ _ _ flat3 h1)
  obtain ⟨node, e2⟩ := kdI (flatT_trod _ _ _ _ _ _ flat3 h2)
  obtain ⟨home, e3⟩ := kdI (flatT_trod _ _ _ _ _ _ flat3 h3)
  obtain ⟨by_, e4⟩ := kdTry (flatT_trod _ _ _ _ _ _ flat37 h4)
  obtain ⟨at_, e5⟩ := kdStamp (flatT_trod _ _ _ _ _ _ flat39 h5)
  obtain ⟨wall, e6⟩ := kdI (flatT_trod _ _ _ _ _ _ flat2 h6)
  obtain ⟨yes, e7⟩ := kdB (flatT_trod _ _ _ _ _ _ flat4 h7)
  obtain ⟨sa, sn, sc, ss, e8, hs1, hs2, hs3, S⟩ := open_flat und40 flat94 sz94 (by decide) (fun _ => kdSpn) eSpn_len h8
  obtain ⟨wa, wn, wc, ws, e9, hw1, hw2, hw3, W⟩ := open_flat und41 flat70 sz70 (by decide) (fun _ => kdWri) eWri_len h9
  have hcs : cs = (cs.drop 0).take 1 ++ ((cs.drop 1).take 1 ++ ((cs.drop 2).take 1 ++ ((cs.drop 3).take 1 ++ ((cs.drop 4).take 4 ++ ((cs.drop 8).take 2 ++ ((cs.drop 10).take 1 ++ ((cs.drop 11).take 1 ++ ((cs.drop 12).take 1 ++ (cs.drop 13).take 1)))))))) := by
    have e : (cs.drop 13).take 1 = cs.drop 13 := by rw [List.take_of_length_le]; rw [List.length_drop]; omega
    rw [e, ← drop_split cs 12 1 13 rfl, ← drop_split cs 11 1 12 rfl, ← drop_split cs 10 1 11 rfl, ← drop_split cs 8 2 10 rfl, ← drop_split cs 4 4 8 rfl, ← drop_split cs 3 1 4 rfl, ← drop_split cs 2 1 3 rfl, ← drop_split cs 1 1 2 rfl, ← drop_split cs 0 1 1 rfl, List.drop_zero]
  rw [e0, e1, e2, e3, e4, e5, e6, e7, e8, e9] at hcs
  refine ⟨⟨⟨kind, epoch, node, home, by_, at_, wall, yes⟩, sa, sn, sc, wa, wn, wc⟩, hcs, ⟨⟨kind, epoch, node, home, by_, at_, wall, yes⟩, ss, ws⟩, ⟨rfl, hs1.symm, hw1.symm, S, W⟩, ?_, ?_⟩
  · show ss.length ≤ maxLen; omega
  · show ws.length ≤ maxLen; omega
set_option maxRecDepth 100000 in
theorem argCmds {v : Value} {d : DataW H} {p : List MemPlace} (hv : Value.okWide Try.prog w .any base 111 v) (h : DataW.Trod enc Try.prog w 0 (fun _ => true) true 111 v d p) :
    ∃ a c l, v = .slice a l.length c ∧ LenM l ∧ SlM (fun b => b < w.heap.size) w.heap a l := by
  obtain ⟨a0, n0, c0, rfl⟩ := okWide_slice und111 hv
  obtain ⟨fuel, hf⟩ := h
  obtain ⟨a, n, c, ds, h1, h2, h3, h4, S, hQ⟩ := open_rows (e := eCm) (Q := fun v => ∃ c, CmR (fun b => b < w.heap.size) w.heap v c ∧ c.spans.length ≤ maxLen ∧ c.writes.length ≤ maxLen) und111 sz43 (by decide) (fun n cs y h => trod_cmd h) eCm_len hf
  obtain ⟨cs, hcs⟩ := all2_ex hQ
  have : a0 = a ∧ n0 = n ∧ c0 = c := by simpa [Value.cells] using h1
  obtain ⟨rfl, rfl, rfl⟩ := this
  have hl := hcs.length
  subst h2
  refine ⟨a0, c0, cs, by rw [hl], ⟨by omega, ?_⟩, ⟨ds, hcs.imp fun _ _ r => r.1, S⟩⟩
  clear S hQ hl
  intro c hc
  obtain ⟨i, hi, rfl⟩ := List.mem_iff_getElem.1 hc
  obtain ⟨v, _, hr⟩ := hcs.get (List.getElem?_eq_getElem hi)
  exact hr.2
theorem str43 : isStr Try.prog 43 = true := by kernel_rfl
set_option maxRecDepth 100000 in
theorem argCmd {v : Value} {d : DataW H} {p : List MemPlace} (hv : Value.okWide Try.prog w .any base 43 v) (h : DataW.Trod enc Try.prog w 0 (fun _ => true) true 43 v d p) :
    ∃ cv c, v = .agg (eCm cv).toArray ∧ CmR (fun b => b < w.heap.size) w.heap cv c ∧ c.spans.length ≤ maxLen ∧ c.writes.length ≤ maxLen := by
  obtain ⟨fs, ht⟩ := isStr_spec str43
  obtain ⟨cs, rfl, _⟩ := okWide_struct ht hv
  obtain ⟨fuel, hf⟩ := h
  obtain ⟨cv, e, c, C, h1, h2⟩ := trod_cmd hf
  refine ⟨cv, c, ?_, C, h1, h2⟩
  congr 1
  apply Array.ext'
  simpa [cells_agg] using e
end
end Go.Proofs.Ytefghfgmkndikaa
namespace Go.Proofs.Ytefghfgmkndikaa
open Go.AX
set_option maxRecDepth 100000
section
variable {Q : X → Env → Heap → Prop} {σ : Env} {h : Heap}
end
section
variable {Q : X → Env → Heap → Prop} {σ : Env} {h : Heap}
end
def f58r0 : List I := [.op (.box 2 116 (.tmp 0)),
  .op (.box 3 116 (.tmp 1)),
  .op (.mov 4 (.const (.bool false))),
  .kp [2, 3]]
def f58r1d : List I := [.op (.mov 38 (.tmp 37)),
  .sc 38 false 6,
  .g 38 false (.fad 39 6 (.tmp 2)),
  .g 38 false (.ld 40 none (.tmp 39)),
  .g 38 false (.fad 41 6 (.tmp 3)),
  .g 38 false (.ld 42 none (.tmp 41)),
  .g 38 false (.call (some 43) 43 [(.tmp 40), (.tmp 42)]),
  .g 38 false (.un 44 .not (.tmp 43)),
  .op (.pick 45 (.tmp 38) (.const (.bool true)) (.tmp 44)),
  .kp [45, 2, 3]]
def f58r1c : List I := .op (.mov 31 (.tmp 30)) ::
  .sc 31 false 5 ::
  .g 31 false (.fad 32 5 (.tmp 2)) ::
  .g 31 false (.ld 33 none (.tmp 32)) ::
  .g 31 false (.fad 34 5 (.tmp 3)) ::
  .g 31 false (.ld 35 none (.tmp 34)) ::
  .g 31 false (.bin 36 .neq (.tmp 33) (.tmp 35)) ::
  .op (.pick 37 (.tmp 31) (.const (.bool true)) (.tmp 36)) ::
  .kp [37, 2, 3] ::
  f58r1d
def f58r1b : List I := .op (.mov 24 (.tmp 23)) ::
  .sc 24 false 5 ::
  .g 24 false (.fad 25 4 (.tmp 2)) ::
  .g 24 false (.ld 26 none (.tmp 25)) ::
  .g 24 false (.fad 27 4 (.tmp 3)) ::
  .g 24 false (.ld 28 none (.tmp 27)) ::
  .g 24 false (.bin 29 .neq (.tmp 26) (.tmp 28)) ::
  .op (.pick 30 (.tmp 24) (.const (.bool true)) (.tmp 29)) ::
  .kp [30, 2, 3] ::
  f58r1c
def f58r1a : List I := .op (.mov 17 (.tmp 16)) ::
  .sc 17 false 5 ::
  .g 17 false (.fad 18 2 (.tmp 2)) ::
  .g 17 false (.ld 19 (some 2) (.tmp 18)) ::
  .g 17 false (.fad 20 2 (.tmp 3)) ::
  .g 17 false (.ld 21 (some 2) (.tmp 20)) ::
  .g 17 false (.eqa 22 true [.i .i64, .i .i64] (.tmp 19) (.tmp 21)) ::
  .op (.pick 23 (.tmp 17) (.const (.bool true)) (.tmp 22)) ::
  .kp [23, 2, 3] ::
  f58r1b
def f58r1 : List I := .op (.fad 5 0 (.tmp 2)) ::
  .op (.ld 6 none (.tmp 5)) ::
  .op (.fad 7 0 (.tmp 3)) ::
  .op (.ld 8 none (.tmp 7)) ::
  .op (.bin 9 .neq (.tmp 6) (.tmp 8)) ::
  .op (.mov 10 (.tmp 9)) ::
  .sc 10 false 5 ::
  .g 10 false (.fad 11 1 (.tmp 2)) ::
  .g 10 false (.ld 12 none (.tmp 11)) ::
  .g 10 false (.fad 13 1 (.tmp 3)) ::
  .g 10 false (.ld 14 none (.tmp 13)) ::
  .g 10 false (.bin 15 .neq (.tmp 12) (.tmp 14)) ::
  .op (.pick 16 (.tmp 10) (.const (.bool true)) (.tmp 15)) ::
  .kp [16, 2, 3] ::
  f58r1a
def f58r2 : List I := [.op (.mov 4 (.const (.bool false))),
  .kp [4]]
def f58r3a : List I := [.op (.mov 4 (.tmp 57)),
  .kp [4]]
def f58r3 : List I := .op (.fad 46 7 (.tmp 2)) ::
  .op (.ld 47 none (.tmp 46)) ::
  .op (.fad 48 7 (.tmp 3)) ::
  .op (.ld 49 none (.tmp 48)) ::
  .op (.call (some 50) 101 [(.tmp 47), (.tmp 49)]) ::
  .op (.mov 51 (.tmp 50)) ::
  .sc 51 true 5 ::
  .g 51 true (.fad 52 8 (.tmp 2)) ::
  .g 51 true (.ld 53 none (.tmp 52)) ::
  .g 51 true (.fad 54 8 (.tmp 3)) ::
  .g 51 true (.ld 55 none (.tmp 54)) ::
  .g 51 true (.call (some 56) 101 [(.tmp 53), (.tmp 55)]) ::
  .op (.pick 57 (.tmp 51) (.tmp 56) (.const (.bool false))) ::
  .kp [57] ::
  f58r3a
def f58c3 : C := (.seq (.reg f58r2) .ret)
def f58c4 : C := (.seq (.reg f58r3) .ret)
def f58c2 : C := (.seq (.cond (.tmp 45) f58c3 .skip) f58c4)
def f58c1 : C := (.seq (.reg f58r1) f58c2)
def f58c0 : C := (.seq (.reg f58r0) f58c1)
theorem f58cmp : cmpF Try.prog Try.f58 [.l [.o 0, .o 1, .o 2, .kp [2, 3]],
  .l [.o 0, .o 1, .o 2, .o 3, .o 4, .o 5, .sc 10 false 5, .o 6, .o 7, .o 8, .o 9, .o 10, .o 11, .kp [16, 2, 3], .o 12, .sc 17 false 5, .o 13, .o 14, .o 15, .o 16, .o 17, .o 18, .kp [23, 2, 3], .o 19, .sc 24 false 5, .o 20, .o 21, .o 22, .o 23, .o 24, .o 25, .kp [30, 2, 3], .o 26, .sc 31 false 5, .o 27, .o 28, .o 29, .o 30, .o 31, .o 32, .kp [37, 2, 3], .o 33, .sc 38 false 6, .o 34, .o 35, .o 36, .o 37, .o 38, .o 39, .o 40, .kp [45, 2, 3]],
  .l [.o 0, .kp [4]],
  .l [.o 0, .o 1, .o 2, .o 3, .o 4, .o 5, .sc 51 true 5, .o 6, .o 7, .o 8, .o 9, .o 10, .o 11, .kp [57], .o 12, .kp [4]]] = some (f58c0, [.tmp 4]) := by kernel_rfl
theorem f58ok {args : List Value} {h : Heap} {R : Value → Heap → Prop} (hn : args.length ≤ 58) (H : wC Try.prog f58c0 (endW [.tmp 4] R) (envOf 0 args) h) : CallsH Try.prog 58 args h R :=
  fn_ok2 Try.func58 f58cmp hn H
section
variable {Q : X → Env → Heap → Prop} {σ : Env} {h : Heap}
theorem f58c4_eq : wC Try.prog f58c4 Q σ h = (wL Try.prog none f58r3 0 (fun σ h => Q .ret σ h) σ h) := rfl
theorem f58c2_eq : wC Try.prog f58c2 Q σ h = (bd (evO σ (.tmp 45)) fun v => bd (asB v) fun t => br t (wC Try.prog f58c3 (X.then (fun σ h => wC Try.prog f58c4 Q σ h) Q) σ h) (wC Try.prog f58c4 Q σ h)) := rfl
theorem f58c1_eq : wC Try.prog f58c1 Q σ h = (wL Try.prog none f58r1 0 (fun σ h => wC Try.prog f58c2 Q σ h) σ h) := rfl
theorem f58c0_eq : wC Try.prog f58c0 Q σ h = (wL Try.prog none f58r0 0 (fun σ h => wC Try.prog f58c1 Q σ h) σ h) := rfl
end
section
variable {Q : X → Env → Heap → Prop} {σ : Env} {h : Heap}
end
section
variable {Q : X → Env → Heap → Prop} {σ : Env} {h : Heap}
end
section
variable {Q : X → Env → Heap → Prop} {σ : Env} {h : Heap}
end
section
variable {Q : X → Env → Heap → Prop} {σ : Env} {h : Heap}
end
section
variable {Q : X → Env → Heap → Prop} {σ : Env} {h : Heap}
end
section
variable {Q : X → Env → Heap → Prop} {σ : Env} {h : Heap}
end
section
variable {Q : X → Env → Heap → Prop} {σ : Env} {h : Heap}
end
def f101r0 : List I := [.op (.mov 4 (.const (.bool false))),
  .kp [0, 1]]
def f101r1 : List I := [.op (.mov 6 (.tmp 0)),
  .op (.len 7 true (.tmp 6)),
  .op (.mov 8 (.tmp 1)),
  .op (.len 9 true (.tmp 8)),
  .op (.bin 10 .neq (.tmp 7) (.tmp 9)),
  .kp [0, 1, 10]]
def f101r2 : List I := [.op (.mov 4 (.const (.bool false))),
  .kp [4]]
def f101r3 : List I := [.op (.mov 5 (.const (.int .i64 0))),
  .kp [0, 1, 5]]
def f101r4 : List I := [.op (.mov 11 (.tmp 5)),
  .op (.mov 12 (.tmp 0)),
  .op (.len 13 true (.tmp 12)),
  .op (.bin 14 .lss (.tmp 11) (.tmp 13)),
  .kp [0, 1, 5, 14]]
def f101r5 : List I := [.op (.mov 17 (.tmp 0)),
  .op (.mov 18 (.tmp 5)),
  .op (.iad 19 7 (.tmp 17) (.tmp 18)),
  .op (.ld 20 (some 7) (.tmp 19)),
  .op (.mov 21 (.tmp 1)),
  .op (.mov 22 (.tmp 5)),
  .op (.iad 23 7 (.tmp 21) (.tmp 22)),
  .op (.ld 24 (some 7) (.tmp 23)),
  .op (.eqa 25 true [.i .i64, .i .i64, .i .i64, .i .i64, .i .i64, .i .i64, .b] (.tmp 20) (.tmp 24)),
  .kp [0, 1, 5, 25]]
def f101r6 : List I := [.op (.mov 4 (.const (.bool false))),
  .kp [4]]
def f101r7 : List I := [.op (.mov 15 (.tmp 5)),
  .op (.bin 16 .add (.tmp 15) (.const (.int .i64 1))),
  .op (.mov 5 (.tmp 16)),
  .kp [0, 1, 5]]
def f101r8 : List I := [.op (.mov 4 (.const (.bool true))),
  .kp [4]]
def f101c3 : C := (.seq (.reg f101r2) .ret)
def f101c11 : C := (.seq (.reg f101r6) .ret)
def f101c10 : C := (.cond (.tmp 25) f101c11 .skip)
def f101c9 : C := (.seq (.drw f101r5) f101c10)
def f101c12 : C := (.reg f101r7)
def f101c8 : C := (.seq (.block 1 f101c9) f101c12)
def f101c7 : C := (.seq (.cond (.tmp 14) .skip (.exit 0)) f101c8)
def f101c6 : C := (.seq (.reg f101r4) f101c7)
def f101c13 : C := (.seq (.reg f101r8) .ret)
def f101c5 : C := (.seq (.block 0 (.loop f101c6)) f101c13)
def f101c4 : C := (.seq (.reg f101r3) f101c5)
def f101c2 : C := (.seq (.cond (.tmp 10) f101c3 .skip) f101c4)
def f101c1 : C := (.seq (.reg f101r1) f101c2)
def f101c0 : C := (.seq (.reg f101r0) f101c1)
theorem f101cmp : cmpF Try.prog Try.f101 [.l [.o 0, .kp [0, 1]],
  .l [.o 0, .o 1, .o 2, .o 3, .o 4, .kp [0, 1, 10]],
  .l [.o 0, .kp [4]],
  .l [.o 0, .kp [0, 1, 5]],
  .l [.o 0, .o 1, .o 2, .o 3, .kp [0, 1, 5, 14]],
  .l [.o 0, .o 1, .o 2, .o 3, .o 4, .o 5, .o 6, .o 7, .o 8, .kp [0, 1, 5, 25]],
  .l [.o 0, .kp [4]],
  .l [.o 0, .o 1, .o 2, .kp [0, 1, 5]],
  .l [.o 0, .kp [4]]] = some (f101c0, [.tmp 4]) := by kernel_rfl
theorem f101ok {args : List Value} {h : Heap} {R : Value → Heap → Prop} (hn : args.length ≤ 26) (H : wC Try.prog f101c0 (endW [.tmp 4] R) (envOf 0 args) h) : CallsH Try.prog 101 args h R :=
  fn_ok2 Try.func101 f101cmp hn H
section
variable {Q : X → Env → Heap → Prop} {σ : Env} {h : Heap}
theorem f101c10_eq : wC Try.prog f101c10 Q σ h = (bd (evO σ (.tmp 25)) fun v => bd (asB v) fun t => br t (wC Try.prog f101c11 Q σ h) (Q .normal σ h)) := rfl
theorem f101c9_eq : wC Try.prog f101c9 Q σ h = (drwW Try.prog f101r5 (fun σ h => wC Try.prog f101c10 Q σ h) σ h) := rfl
theorem f101c12_eq : wC Try.prog f101c12 Q σ h = (wL Try.prog none f101r7 0 (fun σ h => Q .normal σ h) σ h) := rfl
theorem f101c8_eq : wC Try.prog f101c8 Q σ h = (wC Try.prog f101c9 (X.inBlock 1 (X.then (fun σ h => wC Try.prog f101c12 Q σ h) Q)) σ h) := rfl
theorem f101c7_eq : wC Try.prog f101c7 Q σ h = (bd (evO σ (.tmp 14)) fun v => bd (asB v) fun t => br t (wC Try.prog f101c8 Q σ h) (Q (.exit 0) σ h)) := rfl
theorem f101c6_eq : wC Try.prog f101c6 Q σ h = (wL Try.prog none f101r4 0 (fun σ h => wC Try.prog f101c7 Q σ h) σ h) := rfl
theorem f101c13_eq : wC Try.prog f101c13 Q σ h = (wL Try.prog none f101r8 0 (fun σ h => Q .ret σ h) σ h) := rfl
theorem f101c5_eq : wC Try.prog f101c5 Q σ h = (loopW (wC Try.prog f101c6) (X.inBlock 0 (X.then (fun σ h => wC Try.prog f101c13 Q σ h) Q)) σ h) := rfl
theorem f101c4_eq : wC Try.prog f101c4 Q σ h = (wL Try.prog none f101r3 0 (fun σ h => wC Try.prog f101c5 Q σ h) σ h) := rfl
theorem f101c2_eq : wC Try.prog f101c2 Q σ h = (bd (evO σ (.tmp 10)) fun v => bd (asB v) fun t => br t (wC Try.prog f101c3 (X.then (fun σ h => wC Try.prog f101c4 Q σ h) Q) σ h) (wC Try.prog f101c4 Q σ h)) := rfl
theorem f101c1_eq : wC Try.prog f101c1 Q σ h = (wL Try.prog none f101r1 0 (fun σ h => wC Try.prog f101c2 Q σ h) σ h) := rfl
theorem f101c0_eq : wC Try.prog f101c0 Q σ h = (wL Try.prog none f101r0 0 (fun σ h => wC Try.prog f101c1 Q σ h) σ h) := rfl
end
section
variable {Q : X → Env → Heap → Prop} {σ : Env} {h : Heap}
end
section
variable {Q : X → Env → Heap → Prop} {σ : Env} {h : Heap}
end
section
variable {Q : X → Env → Heap → Prop} {σ : Env} {h : Heap}
end
section
variable {Q : X → Env → Heap → Prop} {σ : Env} {h : Heap}
end
end Go.Proofs.Ytefghfgmkndikaa
namespace Go.Proofs.Ytefghfgmkndikaa
open Go Go.AX
theorem eqA_outE (x : Out) : eqA true [.i .i64, .i .i64, .i .i64, .i .i64, .i .i64, .i .i64, .b] (.agg (eOut x).toArray) (.agg (eOut x).toArray) = some (.bool false) := by
  simp only [eqA, eOut, eqKds, eqKd, and_self, if_true, Option.bind_some, Option.map_some, beq_self_eq_true, Bool.and_true, Bool.not_true]
theorem eqA_stampE (s : Stamp) : eqA true [.i .i64, .i .i64] (.agg #[vi s.wall, vi s.tie]) (.agg #[vi s.wall, vi s.tie]) = some (.bool false) := by rw [eqA_stampN]; simp
theorem sameO_ok {B B' : Nat → Prop} {a a' : Option Addr} {c c' : Nat} (l : List Out) (h : Heap) (S : SlF B h eOut a l) (S' : SlF B' h eOut a' l) (hn : l.length ≤ big) {R : Value → Heap → Prop}
    (hR : R (.bool true) h) : CallsH Try.prog 101 [.slice a l.length c, .slice a' l.length c'] h R := by
  have hbig : big = 1000000 := rfl
  refine f101ok (by simp) ?_
  (try simp (config := { maxSteps := 1000000 }) (disch := first | exact Nat.le_of_ble_eq_true rfl | omega) only [AXS, AXB, J.dst, reduceIte, Nat.reduceEqDiff, Nat.reduceAdd, Nat.reduceMul, Nat.reduceLT, Nat.reduceLeDiff]); rw [f101c0_eq]; (try simp (config := { maxSteps := 1000000 }) (disch := first | exact Nat.le_of_ble_eq_true rfl | omega) only [AXS, AXB, J.dst, reduceIte, Nat.reduceEqDiff, Nat.reduceAdd, Nat.reduceMul, Nat.reduceLT, Nat.reduceLeDiff, f101r0]); rw [f101c1_eq]; (try simp (config := { maxSteps := 1000000 }) (disch := first | exact Nat.le_of_ble_eq_true rfl | omega) only [AXS, AXB, J.dst, reduceIte, Nat.reduceEqDiff, Nat.reduceAdd, Nat.reduceMul, Nat.reduceLT, Nat.reduceLeDiff, f101r1]); rw [f101c2_eq]; (try simp (config := { maxSteps := 1000000 }) (disch := first | exact Nat.le_of_ble_eq_true rfl | omega) only [AXS, AXB, J.dst, reduceIte, Nat.reduceEqDiff, Nat.reduceAdd, Nat.reduceMul, Nat.reduceLT, Nat.reduceLeDiff])
  (try simp (config := { maxSteps := 1000000 }) (disch := first | exact Nat.le_of_ble_eq_true rfl | omega) only [AXS, AXB, J.dst, reduceIte, Nat.reduceEqDiff, Nat.reduceAdd, Nat.reduceMul, Nat.reduceLT, Nat.reduceLeDiff]); rw [f101c4_eq]; (try simp (config := { maxSteps := 1000000 }) (disch := first | exact Nat.le_of_ble_eq_true rfl | omega) only [AXS, AXB, J.dst, reduceIte, Nat.reduceEqDiff, Nat.reduceAdd, Nat.reduceMul, Nat.reduceLT, Nat.reduceLeDiff, f101r3])
  rw [f101c5_eq]
  refine loop_in (fun m σ h' => h' = h ∧ ∃ k : Nat, k + m = l.length ∧ σ = [(0, .slice a l.length c), (1, .slice a' l.length c'), (5, vi k)]) l.length ⟨rfl, 0, by omega, rfl⟩ ?_
  rintro m σ h' ⟨rfl, k, hk, rfl⟩ Q' hnx hex hrt _
  (try simp (config := { maxSteps := 1000000 }) (disch := first | exact Nat.le_of_ble_eq_true rfl | omega) only [AXS, AXB, J.dst, reduceIte, Nat.reduceEqDiff, Nat.reduceAdd, Nat.reduceMul, Nat.reduceLT, Nat.reduceLeDiff]); rw [f101c6_eq]; (try simp (config := { maxSteps := 1000000 }) (disch := first | exact Nat.le_of_ble_eq_true rfl | omega) only [AXS, AXB, J.dst, reduceIte, Nat.reduceEqDiff, Nat.reduceAdd, Nat.reduceMul, Nat.reduceLT, Nat.reduceLeDiff, f101r4]); rw [f101c7_eq]; (try simp (config := { maxSteps := 1000000 }) (disch := first | exact Nat.le_of_ble_eq_true rfl | omega) only [AXS, AXB, J.dst, reduceIte, Nat.reduceEqDiff, Nat.reduceAdd, Nat.reduceMul, Nat.reduceLT, Nat.reduceLeDiff])
  refine ⟨fun hh => ?_, fun hh => ?_⟩
  · have hkl : k < l.length := by have := of_decide_eq_true hh; omega
    obtain ⟨x, hx⟩ := get_ex hkl
    obtain ⟨c1, o1, rfl, _, hrow1⟩ := S.elem eOut_len hx
    obtain ⟨c2, o2, rfl, _, hrow2⟩ := S'.elem eOut_len hx
    have q1 := hrow1.lt (by rw [eOut_len]; omega)
    have q2 := hrow2.lt (by rw [eOut_len]; omega)
    try simp (config := { maxSteps := 1000000 }) (disch := first | exact Nat.le_of_ble_eq_true rfl | omega) only [AXS, AXB, J.dst, reduceIte, Nat.reduceEqDiff, Nat.reduceAdd, Nat.reduceMul, Nat.reduceLT, Nat.reduceLeDiff]
    rw [f101c8_eq, f101c9_eq]
    refine drw_lt ?_
    simp (config := { maxSteps := 1000000 }) (disch := first | exact Nat.le_of_ble_eq_true rfl | omega) only [AXS, AXB, J.dst, reduceIte, Nat.reduceEqDiff, Nat.reduceAdd, Nat.reduceMul, Nat.reduceLT, Nat.reduceLeDiff, f101r5, (row_out hrow1).1, (row_out hrow2).1, eqA_outE]
    refine ⟨by omega, by omega, q1, by omega, by omega, q2, ?_⟩
    (try simp (config := { maxSteps := 1000000 }) (disch := first | exact Nat.le_of_ble_eq_true rfl | omega) only [AXS, AXB, J.dst, reduceIte, Nat.reduceEqDiff, Nat.reduceAdd, Nat.reduceMul, Nat.reduceLT, Nat.reduceLeDiff]); rw [f101c10_eq]; (try simp (config := { maxSteps := 1000000 }) (disch := first | exact Nat.le_of_ble_eq_true rfl | omega) only [AXS, AXB, J.dst, reduceIte, Nat.reduceEqDiff, Nat.reduceAdd, Nat.reduceMul, Nat.reduceLT, Nat.reduceLeDiff])
    (try simp (config := { maxSteps := 1000000 }) (disch := first | exact Nat.le_of_ble_eq_true rfl | omega) only [AXS, AXB, J.dst, reduceIte, Nat.reduceEqDiff, Nat.reduceAdd, Nat.reduceMul, Nat.reduceLT, Nat.reduceLeDiff]); rw [f101c12_eq]; (try simp (config := { maxSteps := 1000000 }) (disch := first | exact Nat.le_of_ble_eq_true rfl | omega) only [AXS, AXB, J.dst, reduceIte, Nat.reduceEqDiff, Nat.reduceAdd, Nat.reduceMul, Nat.reduceLT, Nat.reduceLeDiff, f101r7])
    rw [i64_wrap (by omega) (by omega)]
    exact hnx (m - 1) _ _ (by omega) ⟨rfl, k + 1, by omega, rfl⟩
  · refine hex _ _ ?_
    (try simp (config := { maxSteps := 1000000 }) (disch := first | exact Nat.le_of_ble_eq_true rfl | omega) only [AXS, AXB, J.dst, reduceIte, Nat.reduceEqDiff, Nat.reduceAdd, Nat.reduceMul, Nat.reduceLT, Nat.reduceLeDiff]); rw [f101c13_eq]; (try simp (config := { maxSteps := 1000000 }) (disch := first | exact Nat.le_of_ble_eq_true rfl | omega) only [AXS, AXB, J.dst, reduceIte, Nat.reduceEqDiff, Nat.reduceAdd, Nat.reduceMul, Nat.reduceLT, Nat.reduceLeDiff, f101r8])
    exact hR
theorem samePrt_ok {B B' : Nat → Prop} {n : Nat} (pv qv : PrV) (p : Prt) (h : Heap) (S : PrR B h pv p) (S' : PrR B' h qv p) (g : SzP n p) (hn : n ≤ 900000) {R : Value → Heap → Prop}
    (hR : ∀ h', Ext h h' → R (.bool true) h') : CallsH Try.prog 58 [.agg (ePr pv).toArray, .agg (ePr qv).toArray] h R := by
  have hbig : big = 1000000 := rfl
  have gr := g.records
  have gd := g.done
  have hs := S.s
  have hs' := S'.s
  refine f58ok (by simp) ?_
  (try simp (config := { maxSteps := 1000000 }) (disch := first | exact Nat.le_of_ble_eq_true rfl | omega) only [AXS, AXB, J.dst, reduceIte, Nat.reduceEqDiff, Nat.reduceAdd, Nat.reduceMul, Nat.reduceLT, Nat.reduceLeDiff]); rw [f58c0_eq]; (try simp (config := { maxSteps := 1000000 }) (disch := first | exact Nat.le_of_ble_eq_true rfl | omega) only [AXS, AXB, J.dst, reduceIte, Nat.reduceEqDiff, Nat.reduceAdd, Nat.reduceMul, Nat.reduceLT, Nat.reduceLeDiff, f58r0])
  refine wL_boxN rfl ?_; rintro b1 h1 x1 s1 hb1 (B1 : Blk _ _ _ (ePr pv))
  refine wL_boxN rfl ?_; rintro b2 h2 x2 s2 hb2 (B2 : Blk _ _ _ (ePr qv))
  replace B1 := B1.ext x2
  have x02 := x1.trans x2
  try simp (config := { maxSteps := 1000000 }) (disch := first | exact Nat.le_of_ble_eq_true rfl | omega) only [AXS, AXB, J.dst, reduceIte, Nat.reduceEqDiff, Nat.reduceAdd, Nat.reduceMul, Nat.reduceLT, Nat.reduceLeDiff]
  rw [f58c1_eq]
  simp (config := { maxSteps := 1000000 }) (disch := first | exact Nat.le_of_ble_eq_true rfl | omega) only [AXJ, AXS, AXB, J.dst, reduceIte, Nat.reduceEqDiff, Nat.reduceAdd, Nat.reduceMul, Nat.reduceLT, Nat.reduceLeDiff, f58r1, B1.cel, B2.cel, ePr, hs, hs']
  simp (config := { maxSteps := 1000000 }) (disch := first | exact Nat.le_of_ble_eq_true rfl | omega) only [AXJ, AXS, AXB, J.dst, reduceIte, Nat.reduceEqDiff, Nat.reduceAdd, Nat.reduceMul, Nat.reduceLT, Nat.reduceLeDiff, f58r1a, B1.rd, B2.rd, ePr, hs, hs', eqA_stampE]
  simp (config := { maxSteps := 1000000 }) (disch := first | exact Nat.le_of_ble_eq_true rfl | omega) only [AXJ, AXS, AXB, J.dst, reduceIte, Nat.reduceEqDiff, Nat.reduceAdd, Nat.reduceMul, Nat.reduceLT, Nat.reduceLeDiff, f58r1b, B1.cel, B2.cel, ePr, hs, hs']
  simp (config := { maxSteps := 1000000 }) (disch := first | exact Nat.le_of_ble_eq_true rfl | omega) only [AXJ, AXS, AXB, J.dst, reduceIte, Nat.reduceEqDiff, Nat.reduceAdd, Nat.reduceMul, Nat.reduceLT, Nat.reduceLeDiff, f58r1c, B1.cel, B2.cel, ePr, hs, hs']
  simp (config := { maxSteps := 1000000 }) (disch := first | exact Nat.le_of_ble_eq_true rfl | omega) only [AXJ, AXS, AXB, J.dst, reduceIte, Nat.reduceEqDiff, Nat.reduceAdd, Nat.reduceMul, Nat.reduceLT, Nat.reduceLeDiff, f58r1d, B1.cel, B2.cel, ePr, S.cn, S'.cn]
  refine sameG g.cells hn (S.cells.ext x02) (S'.cells.ext x02) rfl ?_
  intro h3 x3
  refine ⟨trivial, ?_⟩
  replace B1 := B1.ext x3; replace B2 := B2.ext x3
  have x03 := x02.trans x3
  try simp (config := { maxSteps := 1000000 }) (disch := first | exact Nat.le_of_ble_eq_true rfl | omega) only [AXJ, AXS, AXB, J.dst, reduceIte, Nat.reduceEqDiff, Nat.reduceAdd, Nat.reduceMul, Nat.reduceLT, Nat.reduceLeDiff]
  (try simp (config := { maxSteps := 1000000 }) (disch := first | exact Nat.le_of_ble_eq_true rfl | omega) only [AXS, AXB, J.dst, reduceIte, Nat.reduceEqDiff, Nat.reduceAdd, Nat.reduceMul, Nat.reduceLT, Nat.reduceLeDiff]); rw [f58c2_eq]; (try simp (config := { maxSteps := 1000000 }) (disch := first | exact Nat.le_of_ble_eq_true rfl | omega) only [AXS, AXB, J.dst, reduceIte, Nat.reduceEqDiff, Nat.reduceAdd, Nat.reduceMul, Nat.reduceLT, Nat.reduceLeDiff])
  rw [f58c4_eq]
  simp (config := { maxSteps := 1000000 }) (disch := first | exact Nat.le_of_ble_eq_true rfl | omega) only [AXJ, AXS, AXB, J.dst, reduceIte, Nat.reduceEqDiff, Nat.reduceAdd, Nat.reduceMul, Nat.reduceLT, Nat.reduceLeDiff, f58r3, B1.cel, B2.cel, ePr, S.rn, S'.rn]
  refine sameO_ok p.records _ (S.records.ext x03) (S'.records.ext x03) (by omega) ?_
  refine ⟨trivial, ?_⟩
  simp (config := { maxSteps := 1000000 }) (disch := first | exact Nat.le_of_ble_eq_true rfl | omega) only [AXJ, AXS, AXB, J.dst, reduceIte, Nat.reduceEqDiff, Nat.reduceAdd, Nat.reduceMul, Nat.reduceLT, Nat.reduceLeDiff, B1.cel, B2.cel, ePr, S.dn, S'.dn]
  refine sameO_ok p.done _ (S.done.ext x03) (S'.done.ext x03) (by omega) ?_
  refine ⟨trivial, ?_⟩
  try simp (config := { maxSteps := 1000000 }) (disch := first | exact Nat.le_of_ble_eq_true rfl | omega) only [AXJ, AXS, AXB, J.dst, reduceIte, Nat.reduceEqDiff, Nat.reduceAdd, Nat.reduceMul, Nat.reduceLT, Nat.reduceLeDiff]
  try simp (config := { maxSteps := 1000000 }) (disch := first | exact Nat.le_of_ble_eq_true rfl | omega) only [AXJ, AXS, AXB, J.dst, reduceIte, Nat.reduceEqDiff, Nat.reduceAdd, Nat.reduceMul, Nat.reduceLT, Nat.reduceLeDiff, f58r3a]
  exact hR _ x03
end Go.Proofs.Ytefghfgmkndikaa
namespace Go.Proofs.Ytefghfgmkndikaa
open Go Go.AX
theorem scanL_err (t : Stamp) (most : Int) (xs : List Cell) (acc : List Pai) : (scanL t most xs acc).2 = 0 ∨ (scanL t most xs acc).2 = 3 := by
  rw [scanL_eq]
  split
  · exact .inl rfl
  · exact .inr rfl
theorem readL_err (p : Prt) (t : Stamp) : ∀ (ss : List Spn) (acc : List Pai), (readL p t ss acc).2 = 0 ∨ (readL p t ss acc).2 = 3
  | [], _ => .inl rfl
  | s :: ss, acc => by
    unfold readL
    dsimp only
    split
    · exact readL_err p t ss _
    · exact scanL_err t _ _ _
theorem readP_err (p : Prt) (c : Cmd) : (readP p c).2.s.err ≠ 25 := by
  unfold readP
  split
  · show (24 : Int) ≠ 25; decide
  · split
    · show (20 : Int) ≠ 25; decide
    · dsimp only
      split
      · show (0 : Int) ≠ 25; decide
      · show (readL p c.s.at_ c.spans []).2 ≠ 25
        rcases readL_err p c.s.at_ c.spans [] with h | h <;> rw [h] <;> decide
theorem prepP_err (p : Prt) (c : Cmd) : (prepP p c).2.s.err ≠ 25 := by
  unfold prepP
  split
  · show (26 : Int) ≠ 25; decide
  · split
    · show (0 : Int) ≠ 25; decide
    · split
      · show (21 : Int) ≠ 25; decide
      · split
        · show (22 : Int) ≠ 25; decide
        · split
          · show (20 : Int) ≠ 25; decide
          · show (0 : Int) ≠ 25; decide
theorem doesP_err (p : Prt) (c : Cmd) : (doesP p c).2.s.err ≠ 25 := by
  unfold doesP
  split
  · exact readP_err p c
  split
  · exact prepP_err p c
  split
  · split
    · show (0 : Int) ≠ 25; decide
    · show (0 : Int) ≠ 25; decide
  split
  · show (0 : Int) ≠ 25; decide
  split
  · show (0 : Int) ≠ 25; decide
  split
  · show (0 : Int) ≠ 25; decide
  · show (9 : Int) ≠ 25; decide
theorem does_epoch (p : Prt) (c : Cmd) : (doesP p c).1.s.epoch = p.s.epoch := by
  unfold doesP
  split
  · rcases readP_1 p c with h | h <;> rw [h]
  split
  · rcases prepP_1 p c with h | h <;> rw [h]
  split
  · split <;> rfl
  split
  · rfl
  split
  · rfl
  split
  · rfl
  · rfl
theorem step_epoch (p : Prt) (c : Cmd) : (stepP p c).s.epoch ≤ p.s.epoch + 1 := by
  unfold stepP
  rcases applyP_cases p (ownM p c) with h | ⟨_, h⟩ | ⟨_, _, h⟩
  · rw [h]; omega
  · rw [h]
    unfold leaseP
    split
    · show p.s.epoch ≤ _; omega
    · rename_i hh
      show (ownM p c).s.epoch ≤ _
      omega
  · rw [h, does_epoch]; omega
theorem run_epoch : ∀ (l : List Cmd) (p : Prt), (l.foldl stepP p).s.epoch ≤ p.s.epoch + l.length
  | [], p => by simp
  | c :: l, p => by
    have h1 := run_epoch l (stepP p c)
    have h2 := step_epoch p c
    rw [List.foldl_cons, List.length_cons]
    push_cast
    omega
/-- A lease. -/
theorem lease_law (p : Prt) (c : Cmd) (hk : c.s.kind = 1) (he : p.s.epoch < mostEpoch) : (c.s.epoch = p.s.epoch + 1 → applyP p c = ({ p with s := { p.s with epoch := c.s.epoch, holder := c.s.node } }, ⟨okS, []⟩)) ∧ (c.s.epoch ≠ p.s.epoch + 1 → applyP p c = (p, errR 25)) := by
  refine ⟨fun h => ?_, fun h => ?_⟩
  · have hl : leaseP p c = ({ p with s := { p.s with epoch := c.s.epoch, holder := c.s.node } }, ⟨okS, []⟩) := by
      unfold leaseP; rw [if_neg (by omega)]
    unfold applyP
    simp only [if_pos hk, hl]
    rfl
  · have hl : leaseP p c = (p, errR 25) := by unfold leaseP; rw [if_pos (by omega)]
    unfold applyP
    simp only [if_pos hk, hl]
    split <;> rfl
theorem other_law (p : Prt) (c : Cmd) (hk : ¬ c.s.kind = 1) : ((p.s.epoch = 0 ∨ c.s.epoch ≠ p.s.epoch) → applyP p c = (p, errR 25)) ∧ (¬ (p.s.epoch = 0 ∨ c.s.epoch ≠ p.s.epoch) → (applyP p c).2.s.err ≠ 25) := by
  refine ⟨fun h => ?_, fun h => ?_⟩
  · unfold applyP
    simp only [if_neg hk, if_pos h]
    split <;> rfl
  · unfold applyP
    simp only [if_neg hk, if_neg h]
    split
    · exact doesP_err p c
    · exact doesP_err p c
end Go.Proofs.Ytefghfgmkndikaa
namespace Go.AX
open Go
/-- Two ways, where it is plain which one: for simp ahead of the ways themselves. -/
theorem br_TT (A B : Prop) : br (true == true) A B = A := by simp [br]
theorem br_TF (A B : Prop) : br (true == false) A B = B := by simp [br]
theorem br_FT (A B : Prop) : br (false == true) A B = B := by simp [br]
theorem br_FF (A B : Prop) : br (false == false) A B = A := by simp [br]
end Go.AX
namespace Go.Proofs.Ytefghfgmkndikaa
open Go Go.AX
/-- A command of the part's own epoch that is no lease. -/
theorem applyP_own (p : Prt) (c : Cmd) (hk : ¬ c.s.kind = 1) (h0 : ¬ p.s.epoch = 0) (he : c.s.epoch = p.s.epoch) : applyP p c = (if (doesP p c).2.s.err = 0 then doesP p c else (p, (doesP p c).2)) := by
  have hn : ¬ (p.s.epoch = 0 ∨ c.s.epoch ≠ p.s.epoch) := fun h => h.elim h0 (fun h => h he)
  unfold applyP
  simp only [if_neg hk, if_neg hn]
theorem does_prep (p : Prt) (c : Cmd) (hk : c.s.kind = 3) : doesP p c = prepP p c := by
  unfold doesP; rw [if_neg (by omega), if_pos hk]
end Go.Proofs.Ytefghfgmkndikaa
namespace Go.Proofs.Ytefghfgmkndikaa
open Go Go.AX
theorem readL_cells {p q : Prt} (h : p.cells = q.cells) (t : Stamp) : ∀ (ss : List Spn) (acc : List Pai), readL p t ss acc = readL q t ss acc
  | [], _ => rfl
  | s :: ss, acc => by
    unfold readL
    rw [h]
    dsimp only
    split
    · exact readL_cells h t ss _
    · rfl
theorem maxS_again (a b : Stamp) : maxS (maxS a b) b = maxS a b := by
  unfold maxS
  cases h : Stamp.lt a b with
  | true => simp [Stamp.lt_irrefl]
  | false => simp [h]
theorem maxI_again (a b : Int) : maxI (maxI a b) b = maxI a b := by
  unfold maxI
  by_cases h : b > a
  · simp [h]
  · simp [h]
theorem read_again {p : Prt} {c : Cmd} (h : (readP p c).2.s.err = 0) : (readP (readP p c).1 c).1 = (readP p c).1 ∧ (readP (readP p c).1 c).2.s.err = 0 := by
  have hl : ¬ c.s.at_.wall < p.s.low := by
    intro hl
    unfold readP at h
    rw [if_pos hl] at h
    exact absurd h (by show ¬ (24 : Int) = 0; decide)
  cases hf : c.spans.find? (fun s => (blocksL c.s.at_ (cellsIn p s)).2) with
  | some s =>
    exfalso
    unfold readP at h
    rw [if_neg hl, hf] at h
    exact absurd h (by show ¬ (20 : Int) = 0; decide)
  | none =>
    by_cases hr : (readL p c.s.at_ c.spans []).2 = 0
    · have e : readP p c = ({ p with s := { p.s with floor := maxS p.s.floor c.s.at_ } }, ⟨okS, (readL p c.s.at_ c.spans []).1⟩) := by
        unfold readP; rw [if_neg hl, hf]; simp only [if_pos hr]
      have e2 : readP { p with s := { p.s with floor := maxS p.s.floor c.s.at_ } } c = ({ p with s := { p.s with floor := maxS (maxS p.s.floor c.s.at_) c.s.at_ } }, ⟨okS, (readL p c.s.at_ c.spans []).1⟩) := by
        have hf' : c.spans.find? (fun s => (blocksL c.s.at_ (cellsIn { p with s := { p.s with floor := maxS p.s.floor c.s.at_ } } s)).2) = none := hf
        unfold readP; rw [if_neg (show ¬ c.s.at_.wall < p.s.low from hl), hf']
        simp only [readL_cells (p := { p with s := { p.s with floor := maxS p.s.floor c.s.at_ } }) (q := p) rfl, if_pos hr]
      rw [e]
      dsimp only
      rw [e2]
      refine ⟨?_, rfl⟩
      rw [maxS_again]
    · exfalso
      unfold readP at h
      rw [if_neg hl, hf] at h
      simp only [if_neg hr] at h
      exact hr h
theorem held_mine {cs : List Cell} {key : ByteArray} {l : Lck} (h : heldK cs key = (l, true)) : mineL cs l.by_ = true := by
  unfold heldK at h
  cases hc : cellK cs key with
  | none => rw [hc] at h; cases h
  | some c =>
    rw [hc] at h
    dsimp only at h
    cases hl : c.locked with
    | false => rw [hl] at h; cases h
    | true =>
      rw [hl] at h
      have e : c.lock = l := by simpa using h
      unfold mineL
      rw [List.any_eq_true]
      exact ⟨c, (cellK_key hc).2, by rw [hl, e]; simp⟩
theorem locks_apart {l : Lck} : ∀ (ws : List Wri) {cs : List Cell} (_ : Good cs) (key : ByteArray) (_ : ∀ w ∈ ws, key ≠ w.key), heldK (ws.foldl (fun cs w => lockL cs w l) cs) key = heldK cs key
  | [], _, _, _, _ => rfl
  | w :: ws, cs, g, key, hk => by
    rw [List.foldl_cons, locks_apart ws (lock_good w l g) key (fun u hu => hk u (List.mem_cons_of_mem _ hu)), apart_held g w l key (hk w (List.mem_cons_self ..))]
theorem locks_held {l : Lck} : ∀ (ws : List Wri) {cs : List Cell} (_ : Good cs) (w : Wri) (_ : w ∈ ws), ∃ u, heldK (ws.foldl (fun cs w => lockL cs w l) cs) w.key = (lkW u l, true)
  | [], _, _, _, h => by cases h
  | v :: ws, cs, g, w, h => by
    by_cases hin : ∃ u ∈ ws, u.key = w.key
    · obtain ⟨u, hu, e⟩ := hin
      have := locks_held (l := l) ws (lock_good v l g) u hu
      rw [e] at this
      exact this
    · have hwv : w = v := by
        rcases List.mem_cons.1 h with h | h
        · exact h
        · exact absurd ⟨w, h, rfl⟩ hin
      subst hwv
      rw [List.foldl_cons, locks_apart ws (lock_good w l g) w.key (fun u hu e => hin ⟨u, hu, e.symm⟩), held_lock g]
      exact ⟨w, rfl⟩
/-- The ways of a Prepare that is OK. -/
theorem prep_cases {p : Prt} {c : Cmd} (h : (prepP p c).2.s.err = 0) : findO p.done c.s.by_ = none ∧ ((mineL p.cells c.s.by_ = true ∧ prepP p c = (p, ⟨okS, []⟩)) ∨
    (mineL p.cells c.s.by_ = false ∧ ¬ c.s.at_.wall ≤ p.s.closed ∧ Stamp.lt c.s.at_ p.s.floor = false ∧ (∀ w ∈ c.writes, (heldK p.cells w.key).2 = false) ∧
      prepP p c = ({ p with cells := c.writes.foldl (fun cs w => lockL cs w (lkC c)) p.cells }, ⟨okS, []⟩))) := by
  cases hd : findO p.done c.s.by_ with
  | some o =>
    exfalso
    unfold prepP at h
    rw [hd] at h
    exact absurd h (by show ¬ (26 : Int) = 0; decide)
  | none =>
    refine ⟨rfl, ?_⟩
    cases hm : mineL p.cells c.s.by_ with
    | true => left; refine ⟨rfl, ?_⟩; unfold prepP; rw [hd]; simp only [hm, if_true]
    | false =>
      right
      by_cases hc : c.s.at_.wall ≤ p.s.closed
      · exfalso
        unfold prepP at h
        rw [hd] at h
        simp only [hm, Bool.false_eq_true, if_false, if_pos hc] at h
        exact absurd h (by show ¬ (21 : Int) = 0; decide)
      · cases hf : Stamp.lt c.s.at_ p.s.floor with
        | true =>
          exfalso
          unfold prepP at h
          rw [hd] at h
          simp only [hm, Bool.false_eq_true, if_false, if_neg hc, hf, if_true] at h
          exact absurd h (by show ¬ (22 : Int) = 0; decide)
        | false =>
          cases hx : c.writes.find? fun w => (heldK p.cells w.key).2 with
          | some w =>
            exfalso
            unfold prepP at h
            rw [hd] at h
            simp only [hm, Bool.false_eq_true, if_false, if_neg hc, hf, hx] at h
            exact absurd h (by show ¬ (20 : Int) = 0; decide)
          | none =>
            refine ⟨rfl, hc, rfl, fun w hw => ?_, ?_⟩
            · rw [List.find?_eq_none] at hx
              simpa using hx w hw
            · unfold prepP
              rw [hd]
              simp only [hm, Bool.false_eq_true, if_false, if_neg hc, hf, hx]
theorem prep_again {p : Prt} {c : Cmd} (g : Good p.cells) (h : (prepP p c).2.s.err = 0) : (prepP (prepP p c).1 c).1 = (prepP p c).1 ∧ (prepP (prepP p c).1 c).2.s.err = 0 := by
  obtain ⟨hd, ⟨_, e⟩ | ⟨_, _, _, _, e⟩⟩ := prep_cases h
  · have : (prepP p c).1 = p := by rw [e]
    rw [this]
    exact ⟨this, h⟩
  · cases hw : c.writes with
    | nil =>
      have : (prepP p c).1 = p := by rw [e, hw]; rfl
      rw [this]
      exact ⟨this, h⟩
    | cons w ws =>
      obtain ⟨u, hu⟩ := locks_held (l := lkC c) c.writes g w (by rw [hw]; exact List.mem_cons_self ..)
      have hm := held_mine hu
      have e2 : prepP (prepP p c).1 c = ((prepP p c).1, ⟨okS, []⟩) := by
        rw [e]
        have hm' : mineL (c.writes.foldl (fun cs w => lockL cs w (lkC c)) p.cells) c.s.by_ = true := hm
        have hd' : findO (show Prt from { p with cells := c.writes.foldl (fun cs w => lockL cs w (lkC c)) p.cells }).done c.s.by_ = none := hd
        unfold prepP
        rw [hd']
        simp only [hm', if_true]
      rw [e2]
      exact ⟨rfl, rfl⟩
theorem findO_snoc {l : List Out} {c : Cmd} (h : findO l c.s.by_ = none) : findO (l ++ [outC c]) c.s.by_ = some (outC c) := by
  unfold findO at *
  rw [List.find?_append, h]
  simp [outC]
theorem does_again {p : Prt} {c : Cmd} (g : Good p.cells) (h : (doesP p c).2.s.err = 0) : (doesP (doesP p c).1 c).1 = (doesP p c).1 ∧ (doesP (doesP p c).1 c).2.s.err = 0 := by
  by_cases k2 : c.s.kind = 2
  · have e : ∀ p, doesP p c = readP p c := fun p => by unfold doesP; rw [if_pos k2]
    rw [e] at h
    rw [e, e]
    exact read_again h
  by_cases k3 : c.s.kind = 3
  · have e : ∀ p, doesP p c = prepP p c := fun p => does_prep p c k3
    rw [e] at h
    rw [e, e]
    exact prep_again g h
  by_cases k4 : c.s.kind = 4
  · have e : ∀ p, doesP p c = match findO p.records c.s.by_ with
      | some o => (p, ⟨{ okS with yes := o.yes, at_ := o.at_ }, []⟩)
      | none => ({ p with records := p.records ++ [outC c] }, ⟨{ okS with yes := c.s.yes, at_ := c.s.at_ }, []⟩) := fun p => by
      unfold doesP; rw [if_neg k2, if_neg k3, if_pos k4]; (try rfl)
    cases ho : findO p.records c.s.by_ with
    | some o =>
      have e1 := e p
      rw [ho] at e1
      have : (doesP p c).1 = p := by rw [e1]
      rw [this]
      exact ⟨this, h⟩
    | none =>
      have e1 := e p
      rw [ho] at e1
      rw [e1]
      dsimp only
      have e2 := e { p with records := p.records ++ [outC c] }
      rw [show findO (show Prt from { p with records := p.records ++ [outC c] }).records c.s.by_ = some (outC c) from findO_snoc ho] at e2
      rw [e2]
      exact ⟨rfl, rfl⟩
  by_cases k5 : c.s.kind = 5
  · have e : ∀ p, doesP p c = ({ p with cells := settleL p.cells c.s.by_ c.s.yes, done := match findO p.done c.s.by_ with | some _ => p.done | none => p.done ++ [outC c] }, ⟨okS, []⟩) := fun p => by
      unfold doesP; rw [if_neg k2, if_neg k3, if_neg k4, if_pos k5]; (try rfl)
    rw [e p]
    dsimp only
    rw [e]
    refine ⟨?_, rfl⟩
    dsimp only
    rw [settle_again g]
    cases ho : findO p.done c.s.by_ with
    | some o => dsimp only; rw [ho]
    | none => dsimp only; rw [findO_snoc ho]
  by_cases k6 : c.s.kind = 6
  · have e : ∀ p, doesP p c = ({ p with s := { p.s with closed := maxI p.s.closed (minI c.s.wall mostWall) } }, ⟨{ okS with wall := maxI p.s.closed (minI c.s.wall mostWall) }, []⟩) := fun p => by
      unfold doesP; rw [if_neg k2, if_neg k3, if_neg k4, if_neg k5, if_pos k6]
    rw [e p]
    dsimp only
    rw [e]
    refine ⟨?_, rfl⟩
    dsimp only
    rw [maxI_again]
  by_cases k7 : c.s.kind = 7
  · have e : ∀ p, doesP p c = ({ p with s := { p.s with low := maxI p.s.low (minI c.s.wall p.s.closed) }, cells := trimL p.cells ⟨maxI p.s.low (minI c.s.wall p.s.closed), 0⟩ }, ⟨{ okS with wall := maxI p.s.low (minI c.s.wall p.s.closed) }, []⟩) := fun p => by
      unfold doesP; rw [if_neg k2, if_neg k3, if_neg k4, if_neg k5, if_neg k6, if_pos k7]
    rw [e p]
    dsimp only
    rw [e]
    refine ⟨?_, rfl⟩
    dsimp only
    rw [maxI_again, trim_again g]
  · exfalso
    have e : doesP p c = (p, errR 9) := by unfold doesP; rw [if_neg k2, if_neg k3, if_neg k4, if_neg k5, if_neg k6, if_neg k7]
    rw [e] at h
    exact absurd h (by show ¬ (9 : Int) = 0; decide)
/-- A command that comes twice in a row. -/
theorem once_law {p : Prt} {c : Cmd} (g : Good p.cells) (hm : p.s.epoch < mostEpoch) (he : c.s.epoch = if c.s.kind = 1 then p.s.epoch + 1 else p.s.epoch) :
    (applyP (applyP p c).1 c).1 = (applyP p c).1 ∧ (c.s.kind = 1 → (applyP p c).2.s.err = 0 ∧ (applyP (applyP p c).1 c).2.s.err = 25) ∧
    (¬ c.s.kind = 1 → ((applyP p c).2.s.err ≠ 0 ∧ (applyP (applyP p c).1 c).2.s.err = (applyP p c).2.s.err) ∨ ((applyP p c).2.s.err = 0 ∧ (applyP (applyP p c).1 c).2.s.err = 0)) := by
  by_cases k1 : c.s.kind = 1
  · rw [if_pos k1] at he
    obtain ⟨q1, _⟩ := lease_law p c k1 hm
    rw [q1 he]
    dsimp only
    have q2 : applyP { p with s := { p.s with epoch := c.s.epoch, holder := c.s.node } } c = ({ p with s := { p.s with epoch := c.s.epoch, holder := c.s.node } }, errR 25) := by
      have hl : leaseP { p with s := { p.s with epoch := c.s.epoch, holder := c.s.node } } c = ({ p with s := { p.s with epoch := c.s.epoch, holder := c.s.node } }, errR 25) := by
        unfold leaseP
        rw [if_pos]
        right; left
        show c.s.epoch ≠ c.s.epoch + 1
        omega
      unfold applyP
      simp only [if_pos k1, hl]
      split <;> rfl
    rw [q2]
    exact ⟨rfl, fun _ => ⟨rfl, rfl⟩, fun h => absurd k1 h⟩
  · rw [if_neg k1] at he
    by_cases h0 : p.s.epoch = 0
    · obtain ⟨q1, _⟩ := other_law p c k1
      have q := q1 (.inl h0)
      have e1 : (applyP p c).1 = p := by rw [q]
      rw [e1]
      refine ⟨e1, fun h => absurd h k1, fun _ => .inl ⟨?_, rfl⟩⟩
      rw [q]
      show ¬ (25 : Int) = 0
      decide
    · have e1 := applyP_own p c k1 h0 he
      by_cases hr : (doesP p c).2.s.err = 0
      · rw [if_pos hr] at e1
        rw [e1]
        have hep := does_epoch p c
        have e2 := applyP_own (doesP p c).1 c k1 (by rw [hep]; exact h0) (by rw [hep]; exact he)
        obtain ⟨a1, a2⟩ := does_again g hr
        rw [if_pos a2] at e2
        rw [e2]
        exact ⟨a1, fun h => absurd h k1, fun _ => .inr ⟨hr, a2⟩⟩
      · rw [if_neg hr] at e1
        have e3 : (applyP p c).1 = p := by rw [e1]
        rw [e3]
        refine ⟨e3, fun h => absurd h k1, fun _ => .inl ⟨?_, rfl⟩⟩
        rw [e1]
        exact hr
end Go.Proofs.Ytefghfgmkndikaa
namespace Go.Proofs.Ytefghfgmkndikaa
open Go.AX
set_option maxRecDepth 100000
def f19r0 : List I := [.op (.box 3 43 (.tmp 1)),
  .op (.mov 4 (.const (.bool false))),
  .kp [0, 3]]
def f19r1 : List I := [.op (.call (some 11) 52 []),
  .op (.un 12 .not (.tmp 11)),
  .kp [0, 3, 12]]
def f19r2 : List I := [.op (.mov 4 (.const (.bool false))),
  .kp [4]]
def f19r3 : List I := [.op (.mov 13 (.tmp 0)),
  .op (.call (some 14) 53 [(.tmp 13), (.const (.int .i64 50))]),
  .op (.un 15 .not (.tmp 14)),
  .op (.mov 16 (.tmp 15)),
  .sc 16 false 4,
  .g 16 false (.ld 17 (some 14) (.tmp 3)),
  .g 16 false (.bsl 18 43 1 [.int .i64 0, .int .i64 0, .int .i64 0, .int .i64 0, .int .i64 0, .int .i64 0, .int .i64 0, .int .i64 0, .int .i64 0, .int .i64 0, .int .i64 0, .bool false, .slice none 0 0, .slice none 0 0] [(0, 14, (.tmp 17))]),
  .g 16 false (.call (some 19) 53 [(.tmp 18), (.const (.int .i64 1))]),
  .g 16 false (.un 20 .not (.tmp 19)),
  .op (.pick 21 (.tmp 16) (.const (.bool true)) (.tmp 20)),
  .kp [21, 0, 3]]
def f19r4 : List I := [.op (.mov 4 (.const (.bool true))),
  .kp [4]]
def f19r5 : List I := [.op (.mov 22 (.tmp 0)),
  .op (.call (some 23) 65 [(.tmp 22)]),
  .op (.mov 5 (.tmp 23)),
  .kp [3, 5]]
def f19r6 : List I := [.op (.mov 24 (.tmp 5)),
  .op (.mov 25 (.tmp 5)),
  .op (.len 26 true (.tmp 25)),
  .op (.bin 27 .sub (.tmp 26) (.const (.int .i64 1))),
  .op (.iad 28 9 (.tmp 24) (.tmp 27)),
  .op (.ld 29 (some 9) (.tmp 28)),
  .op (.new 6 116 [.int .i64 0, .int .i64 0, .int .i64 0, .int .i64 0, .int .i64 0, .int .i64 0, .slice none 0 0, .slice none 0 0, .slice none 0 0]),
  .op (.st 9 (.tmp 6) (.tmp 29)),
  .kp [3, 6]]
def f19r7 : List I := [.op (.ld 30 (some 9) (.tmp 6)),
  .op (.ld 31 (some 14) (.tmp 3)),
  .op (.call (some 32) 54 [(.tmp 30), (.tmp 31), (.const (.bool false))]),
  .op (.st 14 (.tmp 3) (.tmp 32)),
  .kp [3, 6]]
def f19r8 : List I := [.op (.ld 34 (some 9) (.tmp 6)),
  .op (.ld 35 (some 14) (.tmp 3)),
  .op (.call (some 36) 56 [(.tmp 34), (.tmp 35)]),
  .op (.mov 33 (.tmp 36)),
  .op (.ext 37 (.tmp 33) 0),
  .op (.ext 38 (.tmp 33) 1),
  .op (.new 7 116 [.int .i64 0, .int .i64 0, .int .i64 0, .int .i64 0, .int .i64 0, .int .i64 0, .slice none 0 0, .slice none 0 0, .slice none 0 0]),
  .op (.new 8 47 [.int .i64 0, .slice none 0 0, .int .i64 0, .int .i64 0, .int .i64 0, .int .i64 0, .int .i64 0, .int .i64 0, .int .i64 0, .int .i64 0, .bool false]),
  .op (.st 9 (.tmp 7) (.tmp 37)),
  .op (.st 11 (.tmp 8) (.tmp 38)),
  .kp [3, 7, 8]]
def f19r9 : List I := [.op (.ld 40 (some 9) (.tmp 7)),
  .op (.ld 41 (some 14) (.tmp 3)),
  .op (.call (some 42) 56 [(.tmp 40), (.tmp 41)]),
  .op (.mov 39 (.tmp 42)),
  .op (.ext 43 (.tmp 39) 0),
  .op (.ext 44 (.tmp 39) 1),
  .op (.new 9 116 [.int .i64 0, .int .i64 0, .int .i64 0, .int .i64 0, .int .i64 0, .int .i64 0, .slice none 0 0, .slice none 0 0, .slice none 0 0]),
  .op (.new 10 47 [.int .i64 0, .slice none 0 0, .int .i64 0, .int .i64 0, .int .i64 0, .int .i64 0, .int .i64 0, .int .i64 0, .int .i64 0, .int .i64 0, .bool false]),
  .op (.st 9 (.tmp 9) (.tmp 43)),
  .op (.st 11 (.tmp 10) (.tmp 44)),
  .kp [3, 7, 8, 9, 10]]
def f19r10 : List I := [.op (.fad 45 0 (.tmp 3)),
  .op (.ld 46 none (.tmp 45)),
  .op (.bin 47 .eql (.tmp 46) (.const (.int .i64 1))),
  .kp [3, 7, 8, 9, 10, 47]]
def f19r11b : List I := [.op (.mov 4 (.tmp 60)),
  .kp [4]]
def f19r11a : List I := .op (.mov 56 (.tmp 55)) ::
  .sc 56 true 3 ::
  .g 56 true (.ld 57 (some 9) (.tmp 7)) ::
  .g 56 true (.ld 58 (some 9) (.tmp 9)) ::
  .g 56 true (.call (some 59) 58 [(.tmp 57), (.tmp 58)]) ::
  .op (.pick 60 (.tmp 56) (.tmp 59) (.const (.bool false))) ::
  .kp [60] ::
  f19r11b
def f19r11 : List I := .op (.fad 48 0 (.tmp 8)) ::
  .op (.ld 49 none (.tmp 48)) ::
  .op (.bin 50 .eql (.tmp 49) (.const (.int .i64 0))) ::
  .op (.mov 51 (.tmp 50)) ::
  .sc 51 true 3 ::
  .g 51 true (.fad 52 0 (.tmp 10)) ::
  .g 51 true (.ld 53 none (.tmp 52)) ::
  .g 51 true (.bin 54 .eql (.tmp 53) (.const (.int .i64 25))) ::
  .op (.pick 55 (.tmp 51) (.tmp 54) (.const (.bool false))) ::
  .kp [55, 7, 9] ::
  f19r11a
def f19r12a : List I := [.op (.mov 4 (.tmp 101)),
  .kp [4]]
def f19r12 : List I := .op (.ld 61 (some 9) (.tmp 7)) ::
  .op (.ld 62 (some 9) (.tmp 9)) ::
  .op (.call (some 63) 58 [(.tmp 61), (.tmp 62)]) ::
  .op (.mov 64 (.tmp 63)) ::
  .sc 64 true 42 ::
  .g 64 true (.fad 65 0 (.tmp 8)) ::
  .g 64 true (.ld 66 none (.tmp 65)) ::
  .g 64 true (.bin 67 .neq (.tmp 66) (.const (.int .i64 0))) ::
  .g 64 true (.mov 68 (.tmp 67)) ::
  .sc 68 true 5 ::
  .g 68 true (.fad 69 0 (.tmp 10)) ::
  .g 68 true (.ld 70 none (.tmp 69)) ::
  .g 68 true (.fad 71 0 (.tmp 8)) ::
  .g 68 true (.ld 72 none (.tmp 71)) ::
  .g 68 true (.bin 73 .eql (.tmp 70) (.tmp 72)) ::
  .g 64 true (.pick 74 (.tmp 68) (.tmp 73) (.const (.bool false))) ::
  .g 64 true (.mov 75 (.tmp 74)) ::
  .sc 75 false 28 ::
  .g 75 false (.fad 76 0 (.tmp 8)) ::
  .g 75 false (.ld 77 none (.tmp 76)) ::
  .g 75 false (.bin 78 .eql (.tmp 77) (.const (.int .i64 0))) ::
  .g 75 false (.mov 79 (.tmp 78)) ::
  .sc 79 true 22 ::
  .g 79 true (.fad 80 0 (.tmp 10)) ::
  .g 79 true (.ld 81 none (.tmp 80)) ::
  .g 79 true (.bin 82 .eql (.tmp 81) (.const (.int .i64 0))) ::
  .g 79 true (.mov 83 (.tmp 82)) ::
  .sc 83 false 16 ::
  .g 83 false (.fad 84 0 (.tmp 3)) ::
  .g 83 false (.ld 85 none (.tmp 84)) ::
  .g 83 false (.bin 86 .eql (.tmp 85) (.const (.int .i64 3))) ::
  .g 83 false (.mov 87 (.tmp 86)) ::
  .sc 87 true 4 ::
  .g 87 true (.fad 88 13 (.tmp 3)) ::
  .g 87 true (.ld 89 none (.tmp 88)) ::
  .g 87 true (.len 90 true (.tmp 89)) ::
  .g 87 true (.bin 91 .eql (.tmp 90) (.const (.int .i64 0))) ::
  .g 83 false (.pick 92 (.tmp 87) (.tmp 91) (.const (.bool false))) ::
  .g 83 false (.mov 93 (.tmp 92)) ::
  .sc 93 true 3 ::
  .g 93 true (.fad 94 0 (.tmp 10)) ::
  .g 93 true (.ld 95 none (.tmp 94)) ::
  .g 93 true (.bin 96 .neq (.tmp 95) (.const (.int .i64 9))) ::
  .g 83 false (.pick 97 (.tmp 93) (.tmp 96) (.const (.bool false))) ::
  .g 79 true (.pick 98 (.tmp 83) (.const (.bool true)) (.tmp 97)) ::
  .g 75 false (.pick 99 (.tmp 79) (.tmp 98) (.const (.bool false))) ::
  .g 64 true (.pick 100 (.tmp 75) (.const (.bool true)) (.tmp 99)) ::
  .op (.pick 101 (.tmp 64) (.tmp 100) (.const (.bool false))) ::
  .kp [101] ::
  f19r12a
def f19c3 : C := (.seq (.reg f19r2) .ret)
def f19c6 : C := (.seq (.reg f19r4) .ret)
def f19c14 : C := (.seq (.reg f19r11) .ret)
def f19c15 : C := (.seq (.reg f19r12) .ret)
def f19c13 : C := (.seq (.cond (.tmp 47) f19c14 .skip) f19c15)
def f19c12 : C := (.seq (.reg f19r10) f19c13)
def f19c11 : C := (.seq (.reg f19r9) f19c12)
def f19c10 : C := (.seq (.reg f19r8) f19c11)
def f19c9 : C := (.seq (.reg f19r7) f19c10)
def f19c8 : C := (.seq (.reg f19r6) f19c9)
def f19c7 : C := (.seq (.reg f19r5) f19c8)
def f19c5 : C := (.seq (.cond (.tmp 21) f19c6 .skip) f19c7)
def f19c4 : C := (.seq (.reg f19r3) f19c5)
def f19c2 : C := (.seq (.cond (.tmp 12) f19c3 .skip) f19c4)
def f19c1 : C := (.seq (.reg f19r1) f19c2)
def f19c0 : C := (.seq (.reg f19r0) f19c1)
theorem f19cmp : cmpF Try.prog Try.f19 [.l [.o 0, .o 1, .kp [0, 3]],
  .l [.o 0, .o 1, .kp [0, 3, 12]],
  .l [.o 0, .kp [4]],
  .l [.o 0, .o 1, .o 2, .o 3, .sc 16 false 4, .o 4, .o 5, .o 6, .o 7, .o 8, .kp [21, 0, 3]],
  .l [.o 0, .kp [4]],
  .l [.o 0, .o 1, .o 2, .kp [3, 5]],
  .l [.o 0, .o 1, .o 2, .o 3, .o 4, .o 5, .o 6, .o 7, .kp [3, 6]],
  .l [.o 0, .o 1, .o 2, .o 3, .kp [3, 6]],
  .l [.o 0, .o 1, .o 2, .o 3, .o 4, .o 5, .o 6, .o 7, .o 8, .o 9, .kp [3, 7, 8]],
  .l [.o 0, .o 1, .o 2, .o 3, .o 4, .o 5, .o 6, .o 7, .o 8, .o 9, .kp [3, 7, 8, 9, 10]],
  .l [.o 0, .o 1, .o 2, .kp [3, 7, 8, 9, 10, 47]],
  .l [.o 0, .o 1, .o 2, .o 3, .sc 51 true 3, .o 4, .o 5, .o 6, .o 7, .kp [55, 7, 9], .o 8, .sc 56 true 3, .o 9, .o 10, .o 11, .o 12, .kp [60], .o 13, .kp [4]],
  .l [.o 0, .o 1, .o 2, .o 3, .sc 64 true 42, .o 4, .o 5, .o 6, .o 7, .sc 68 true 5, .o 8, .o 9, .o 10, .o 11, .o 12, .o 13, .o 14, .sc 75 false 28, .o 15, .o 16, .o 17, .o 18, .sc 79 true 22, .o 19, .o 20, .o 21, .o 22, .sc 83 false 16, .o 23, .o 24, .o 25, .o 26, .sc 87 true 4, .o 27, .o 28, .o 29, .o 30, .o 31, .o 32, .sc 93 true 3, .o 33, .o 34, .o 35, .o 36, .o 37, .o 38, .o 39, .o 40, .kp [101], .o 41, .kp [4]]] = some (f19c0, [.tmp 4]) := by kernel_rfl
theorem f19ok {args : List Value} {h : Heap} {R : Value → Heap → Prop} (hn : args.length ≤ 102) (H : wC Try.prog f19c0 (endW [.tmp 4] R) (envOf 0 args) h) : CallsH Try.prog 19 args h R :=
  fn_ok2 Try.func19 f19cmp hn H
section
variable {Q : X → Env → Heap → Prop} {σ : Env} {h : Heap}
theorem f19c6_eq : wC Try.prog f19c6 Q σ h = (wL Try.prog none f19r4 0 (fun σ h => Q .ret σ h) σ h) := rfl
theorem f19c14_eq : wC Try.prog f19c14 Q σ h = (wL Try.prog none f19r11 0 (fun σ h => Q .ret σ h) σ h) := rfl
theorem f19c15_eq : wC Try.prog f19c15 Q σ h = (wL Try.prog none f19r12 0 (fun σ h => Q .ret σ h) σ h) := rfl
theorem f19c13_eq : wC Try.prog f19c13 Q σ h = (bd (evO σ (.tmp 47)) fun v => bd (asB v) fun t => br t (wC Try.prog f19c14 (X.then (fun σ h => wC Try.prog f19c15 Q σ h) Q) σ h) (wC Try.prog f19c15 Q σ h)) := rfl
theorem f19c12_eq : wC Try.prog f19c12 Q σ h = (wL Try.prog none f19r10 0 (fun σ h => wC Try.prog f19c13 Q σ h) σ h) := rfl
theorem f19c11_eq : wC Try.prog f19c11 Q σ h = (wL Try.prog none f19r9 0 (fun σ h => wC Try.prog f19c12 Q σ h) σ h) := rfl
theorem f19c10_eq : wC Try.prog f19c10 Q σ h = (wL Try.prog none f19r8 0 (fun σ h => wC Try.prog f19c11 Q σ h) σ h) := rfl
theorem f19c9_eq : wC Try.prog f19c9 Q σ h = (wL Try.prog none f19r7 0 (fun σ h => wC Try.prog f19c10 Q σ h) σ h) := rfl
theorem f19c8_eq : wC Try.prog f19c8 Q σ h = (wL Try.prog none f19r6 0 (fun σ h => wC Try.prog f19c9 Q σ h) σ h) := rfl
theorem f19c7_eq : wC Try.prog f19c7 Q σ h = (wL Try.prog none f19r5 0 (fun σ h => wC Try.prog f19c8 Q σ h) σ h) := rfl
theorem f19c5_eq : wC Try.prog f19c5 Q σ h = (bd (evO σ (.tmp 21)) fun v => bd (asB v) fun t => br t (wC Try.prog f19c6 (X.then (fun σ h => wC Try.prog f19c7 Q σ h) Q) σ h) (wC Try.prog f19c7 Q σ h)) := rfl
theorem f19c4_eq : wC Try.prog f19c4 Q σ h = (wL Try.prog none f19r3 0 (fun σ h => wC Try.prog f19c5 Q σ h) σ h) := rfl
theorem f19c2_eq : wC Try.prog f19c2 Q σ h = (bd (evO σ (.tmp 12)) fun v => bd (asB v) fun t => br t (wC Try.prog f19c3 (X.then (fun σ h => wC Try.prog f19c4 Q σ h) Q) σ h) (wC Try.prog f19c4 Q σ h)) := rfl
theorem f19c1_eq : wC Try.prog f19c1 Q σ h = (wL Try.prog none f19r1 0 (fun σ h => wC Try.prog f19c2 Q σ h) σ h) := rfl
theorem f19c0_eq : wC Try.prog f19c0 Q σ h = (wL Try.prog none f19r0 0 (fun σ h => wC Try.prog f19c1 Q σ h) σ h) := rfl
end
end Go.Proofs.Ytefghfgmkndikaa
namespace Go.Proofs.Ytefghfgmkndikaa
open Go Go.AX
set_option maxHeartbeats 4000000 in
theorem twice_ok {a : Option Addr} {n : Nat} (l : List Cmd) (cv : CmV) (c0 : Cmd) (h : Heap) (S : SlM (fun b => b < h.size) h a l) (F : LenM l) (C : CmR (fun b => b < h.size) h cv c0) (F1 : c0.spans.length ≤ maxLen) (F2 : c0.writes.length ≤ maxLen) {R : Value → Heap → Prop}
    (hR : ∀ h', Ext h h' → R (.bool true) h') : CallsH Try.prog 19 [.slice a l.length n, .agg (eCm cv).toArray] h R := by
  have hbig : big = 1000000 := rfl
  have hm : mostEpoch = 1099511627776 := rfl
  refine f19ok (by simp) ?_
  (try simp (config := { maxSteps := 1000000 }) (disch := first | exact Nat.le_of_ble_eq_true rfl | omega) only [AXS, AXB, J.dst, reduceIte, Nat.reduceEqDiff, Nat.reduceAdd, Nat.reduceMul, Nat.reduceLT, Nat.reduceLeDiff]); rw [f19c0_eq]; (try simp (config := { maxSteps := 1000000 }) (disch := first | exact Nat.le_of_ble_eq_true rfl | omega) only [AXS, AXB, J.dst, reduceIte, Nat.reduceEqDiff, Nat.reduceAdd, Nat.reduceMul, Nat.reduceLT, Nat.reduceLeDiff, f19r0])
  refine wL_boxN rfl ?_; rintro b3 h1 x1 s1 hb3 (B3 : Blk _ _ _ (eCm cv))
  (try simp (config := { maxSteps := 1000000 }) (disch := first | exact Nat.le_of_ble_eq_true rfl | omega) only [AXS, AXB, J.dst, reduceIte, Nat.reduceEqDiff, Nat.reduceAdd, Nat.reduceMul, Nat.reduceLT, Nat.reduceLeDiff]); rw [f19c1_eq]; (try simp (config := { maxSteps := 1000000 }) (disch := first | exact Nat.le_of_ble_eq_true rfl | omega) only [AXS, AXB, J.dst, reduceIte, Nat.reduceEqDiff, Nat.reduceAdd, Nat.reduceMul, Nat.reduceLT, Nat.reduceLeDiff, f19r1])
  refine begunP_ok _ ?_
  intro h2 x2
  refine ⟨trivial, ?_⟩
  replace B3 := B3.ext x2
  have x02 := x1.trans x2
  (try simp (config := { maxSteps := 1000000 }) (disch := first | exact Nat.le_of_ble_eq_true rfl | omega) only [AXS, AXB, J.dst, reduceIte, Nat.reduceEqDiff, Nat.reduceAdd, Nat.reduceMul, Nat.reduceLT, Nat.reduceLeDiff]); rw [f19c2_eq]; (try simp (config := { maxSteps := 1000000 }) (disch := first | exact Nat.le_of_ble_eq_true rfl | omega) only [AXS, AXB, J.dst, reduceIte, Nat.reduceEqDiff, Nat.reduceAdd, Nat.reduceMul, Nat.reduceLT, Nat.reduceLeDiff])
  rw [f19c4_eq]
  simp (config := { maxSteps := 1000000 }) (disch := first | exact Nat.le_of_ble_eq_true rfl | omega) only [AXJ, AXS, AXB, J.dst, reduceIte, Nat.reduceEqDiff, Nat.reduceAdd, Nat.reduceMul, Nat.reduceLT, Nat.reduceLeDiff, f19r3]
  refine lightP_ok l 50 _ (S.ext x02) F ?_
  intro bl h3 hbl x3
  refine ⟨trivial, ?_⟩
  replace B3 := B3.ext x3
  have x03 := x02.trans x3
  cases bl with
  | false =>
    simp (config := { maxSteps := 1000000 }) (disch := first | exact Nat.le_of_ble_eq_true rfl | omega) only [AXJ, AXS, AXB, J.dst, reduceIte, Nat.reduceEqDiff, Nat.reduceAdd, Nat.reduceMul, Nat.reduceLT, Nat.reduceLeDiff, Bool.false_eq_true]
    (try simp (config := { maxSteps := 1000000 }) (disch := first | exact Nat.le_of_ble_eq_true rfl | omega) only [AXS, AXB, J.dst, reduceIte, Nat.reduceEqDiff, Nat.reduceAdd, Nat.reduceMul, Nat.reduceLT, Nat.reduceLeDiff]); rw [f19c5_eq]; (try simp (config := { maxSteps := 1000000 }) (disch := first | exact Nat.le_of_ble_eq_true rfl | omega) only [AXS, AXB, J.dst, reduceIte, Nat.reduceEqDiff, Nat.reduceAdd, Nat.reduceMul, Nat.reduceLT, Nat.reduceLeDiff]); rw [f19c6_eq]; (try simp (config := { maxSteps := 1000000 }) (disch := first | exact Nat.le_of_ble_eq_true rfl | omega) only [AXS, AXB, J.dst, reduceIte, Nat.reduceEqDiff, Nat.reduceAdd, Nat.reduceMul, Nat.reduceLT, Nat.reduceLeDiff, f19r4])
    exact hR _ x03
  | true =>
  obtain ⟨hL, hF⟩ := hbl rfl
  simp (config := { maxSteps := 1000000 }) (disch := first | exact Nat.le_of_ble_eq_true rfl | omega) only [AXJ, AXS, AXB, J.dst, reduceIte, Nat.reduceEqDiff, Nat.reduceAdd, Nat.reduceMul, Nat.reduceLT, Nat.reduceLeDiff, B3.rd, eCm]
  refine wL_bslN rfl ?_; rintro b5 h4 x4 s4 hb5 (B5 : Blk _ _ _ (eCm cv))
  have x04 := x03.trans x4
  replace B3 := B3.ext x4
  try simp (config := { maxSteps := 1000000 }) (disch := first | exact Nat.le_of_ble_eq_true rfl | omega) only [AXJ, AXS, AXB, J.dst, reduceIte, Nat.reduceEqDiff, Nat.reduceAdd, Nat.reduceMul, Nat.reduceLT, Nat.reduceLeDiff]
  refine lightP_ok (B := fun _ => True) (a := some ⟨b5, 0, none⟩) (n := 1) [c0] 1 _ ⟨[cv], .cons ((C.ext x04).imp fun _ _ => trivial) .nil, fun _ => ⟨b5, 0, rfl, trivial, by simpa using B5.row⟩⟩ ⟨by unfold maxLen; simp, fun x hx => by simp at hx; subst hx; exact ⟨F1, F2⟩⟩ ?_
  intro bl2 h5 hb2 x5
  refine ⟨trivial, ?_⟩
  replace B3 := B3.ext x5
  have x05 := x04.trans x5
  cases bl2 with
  | false =>
    simp (config := { maxSteps := 1000000 }) (disch := first | exact Nat.le_of_ble_eq_true rfl | omega) only [AXJ, AXS, AXB, J.dst, reduceIte, Nat.reduceEqDiff, Nat.reduceAdd, Nat.reduceMul, Nat.reduceLT, Nat.reduceLeDiff, Bool.false_eq_true]
    (try simp (config := { maxSteps := 1000000 }) (disch := first | exact Nat.le_of_ble_eq_true rfl | omega) only [AXS, AXB, J.dst, reduceIte, Nat.reduceEqDiff, Nat.reduceAdd, Nat.reduceMul, Nat.reduceLT, Nat.reduceLeDiff]); rw [f19c5_eq]; (try simp (config := { maxSteps := 1000000 }) (disch := first | exact Nat.le_of_ble_eq_true rfl | omega) only [AXS, AXB, J.dst, reduceIte, Nat.reduceEqDiff, Nat.reduceAdd, Nat.reduceMul, Nat.reduceLT, Nat.reduceLeDiff]); rw [f19c6_eq]; (try simp (config := { maxSteps := 1000000 }) (disch := first | exact Nat.le_of_ble_eq_true rfl | omega) only [AXS, AXB, J.dst, reduceIte, Nat.reduceEqDiff, Nat.reduceAdd, Nat.reduceMul, Nat.reduceLT, Nat.reduceLeDiff, f19r4])
    exact hR _ x05
  | true =>
  have hc0 := (hb2 rfl).2 c0 (by simp)
  simp (config := { maxSteps := 1000000 }) (disch := first | exact Nat.le_of_ble_eq_true rfl | omega) only [AXJ, AXS, AXB, J.dst, reduceIte, Nat.reduceEqDiff, Nat.reduceAdd, Nat.reduceMul, Nat.reduceLT, Nat.reduceLeDiff]
  (try simp (config := { maxSteps := 1000000 }) (disch := first | exact Nat.le_of_ble_eq_true rfl | omega) only [AXS, AXB, J.dst, reduceIte, Nat.reduceEqDiff, Nat.reduceAdd, Nat.reduceMul, Nat.reduceLT, Nat.reduceLeDiff]); rw [f19c5_eq]; (try simp (config := { maxSteps := 1000000 }) (disch := first | exact Nat.le_of_ble_eq_true rfl | omega) only [AXS, AXB, J.dst, reduceIte, Nat.reduceEqDiff, Nat.reduceAdd, Nat.reduceMul, Nat.reduceLT, Nat.reduceLeDiff]); rw [f19c7_eq]; (try simp (config := { maxSteps := 1000000 }) (disch := first | exact Nat.le_of_ble_eq_true rfl | omega) only [AXS, AXB, J.dst, reduceIte, Nat.reduceEqDiff, Nat.reduceAdd, Nat.reduceMul, Nat.reduceLT, Nat.reduceLeDiff, f19r5])
  have i5 := B3.lt
  refine run_ok l _ (S.ext x05) hF (by omega) ?_
  intro ao co h6 O x6
  refine ⟨trivial, ?_⟩
  replace B3 := B3.ext x6
  have x06 := x05.trans x6
  obtain ⟨ba, oa, va, rfl, hrowa, hpa⟩ := O.elem (allP_at (Nat.le_refl l.length))
  have hg := runs_good hF l.length (Nat.le_refl _)
  have hep := run_epoch l emptyP
  rw [List.take_length] at hpa hg
  have hw : IntKind.i64.wrap (((l.length + 1 : Nat) : Int) - 1) = (l.length : Int) := by rw [i64_wrap (by omega) (by omega)]; omega
  have hep' : (runP l).s.epoch < mostEpoch := by have : emptyP.s.epoch = 0 := rfl; unfold runP; omega
  (try simp (config := { maxSteps := 1000000 }) (disch := first | exact Nat.le_of_ble_eq_true rfl | omega) only [AXS, AXB, J.dst, reduceIte, Nat.reduceEqDiff, Nat.reduceAdd, Nat.reduceMul, Nat.reduceLT, Nat.reduceLeDiff]); rw [f19c8_eq]; (try simp (config := { maxSteps := 1000000 }) (disch := first | exact Nat.le_of_ble_eq_true rfl | omega) only [AXS, AXB, J.dst, reduceIte, Nat.reduceEqDiff, Nat.reduceAdd, Nat.reduceMul, Nat.reduceLT, Nat.reduceLeDiff, f19r6, hw, row_pr hrowa])
  refine ⟨by omega, by omega, ?_⟩
  refine wL_newN ?_; rintro b6 h7 x7 s7 hb6 B6
  replace B3 := B3.ext x7
  try simp (config := { maxSteps := 1000000 }) (disch := first | exact Nat.le_of_ble_eq_true rfl | omega) only [AXS, AXB, J.dst, reduceIte, Nat.reduceEqDiff, Nat.reduceAdd, Nat.reduceMul, Nat.reduceLT, Nat.reduceLeDiff]
  refine wL_stN rfl rfl rfl B6 (by decide) (ePr_one va) ?_
  rintro h8 u8 (B6 : Blk _ _ _ (ePr va))
  have z1 := x05.size
  have z6 := x6.size
  have z7 := x7.size
  have z8 := u8.size
  replace B3 := u8.blk B3 (by omega)
  have x68 := u8.ext x7 (by omega)
  have x08 := x06.trans x68
  have hvs := hpa.s
  have hp8 := hpa.ext x68
  (try simp (config := { maxSteps := 1000000 }) (disch := first | exact Nat.le_of_ble_eq_true rfl | omega) only [AXS, AXB, J.dst, reduceIte, Nat.reduceEqDiff, Nat.reduceAdd, Nat.reduceMul, Nat.reduceLT, Nat.reduceLeDiff]); rw [f19c9_eq]; (try simp (config := { maxSteps := 1000000 }) (disch := first | exact Nat.le_of_ble_eq_true rfl | omega) only [AXS, AXB, J.dst, reduceIte, Nat.reduceEqDiff, Nat.reduceAdd, Nat.reduceMul, Nat.reduceLT, Nat.reduceLeDiff, f19r7, B6.rd, ePr, B3.rd, eCm])
  refine own_okP va (runP l) cv c0 false _ hvs (C.ext x08) hg.e0 hg.e1 ?_
  intro cv' h9 C9 x9
  refine ⟨trivial, ?_⟩
  replace B3 := B3.ext x9; replace B6 := B6.ext x9
  have x09 := x08.trans x9
  have law := once_law (c := ownM (runP l) c0) hg.sz.cells.good hep' rfl
  have hcw : (ownM (runP l) c0).writes.length < 100 := hc0.2
  have hcsn : (ownM (runP l) c0).spans.length < 100 := hc0.1
  generalize hcc : ownM (runP l) c0 = c at *
  generalize runP l = p at *
  have C9' : CmR (fun b => b < h.size) h9 cv' c := C9
  have hcs := C9'.s
  try simp (config := { maxSteps := 1000000 }) (disch := first | exact Nat.le_of_ble_eq_true rfl | omega) only [AXS, AXB, J.dst, reduceIte, Nat.reduceEqDiff, Nat.reduceAdd, Nat.reduceMul, Nat.reduceLT, Nat.reduceLeDiff]
  refine wL_stN rfl rfl rfl B3 (by rw [eCm_len]; decide) (eCm_one cv') ?_
  rintro h10 u10 (B3 : Blk _ _ _ (eCm cv'))
  replace B6 := u10.blk B6 (by omega)
  have z0 := x1.size
  have z9 := x9.size
  have z10 := u10.size
  have x010 := u10.ext x09 (by omega)
  have C10 := C9'.at_ (h' := h10) fun b hb => u10.ne b (by have hb' : b < h.size := hb; omega)
  have hp10 := (hp8.ext x9).at_ (h' := h10) fun b hb => u10.ne b (by omega)
  (try simp (config := { maxSteps := 1000000 }) (disch := first | exact Nat.le_of_ble_eq_true rfl | omega) only [AXS, AXB, J.dst, reduceIte, Nat.reduceEqDiff, Nat.reduceAdd, Nat.reduceMul, Nat.reduceLT, Nat.reduceLeDiff]); rw [f19c10_eq]; (try simp (config := { maxSteps := 1000000 }) (disch := first | exact Nat.le_of_ble_eq_true rfl | omega) only [AXS, AXB, J.dst, reduceIte, Nat.reduceEqDiff, Nat.reduceAdd, Nat.reduceMul, Nat.reduceLT, Nat.reduceLeDiff, f19r8, B6.rd, ePr, B3.rd, eCm])
  have gq := applyG (c := c) hg ⟨hcsn, hcw⟩
  refine apply_ok (n := 100 * l.length) va p cv' c _ hp10 C10 hg.sz (by omega) (by omega) hg.e0 ?_
  intro pv1 rv1 h11 P11 K11 x11
  refine ⟨trivial, ?_⟩
  replace B3 := B3.ext x11
  try simp (config := { maxSteps := 1000000 }) (disch := first | exact Nat.le_of_ble_eq_true rfl | omega) only [AXS, AXB, J.dst, reduceIte, Nat.reduceEqDiff, Nat.reduceAdd, Nat.reduceMul, Nat.reduceLT, Nat.reduceLeDiff]
  refine wL_newN ?_; rintro b7 h12 x12 s12 hb7 B7
  replace B3 := B3.ext x12
  try simp (config := { maxSteps := 1000000 }) (disch := first | exact Nat.le_of_ble_eq_true rfl | omega) only [AXS, AXB, J.dst, reduceIte, Nat.reduceEqDiff, Nat.reduceAdd, Nat.reduceMul, Nat.reduceLT, Nat.reduceLeDiff]
  refine wL_newN ?_; rintro b8 h13 x13 s13 hb8 B8
  replace B3 := B3.ext x13; replace B7 := B7.ext x13
  try simp (config := { maxSteps := 1000000 }) (disch := first | exact Nat.le_of_ble_eq_true rfl | omega) only [AXS, AXB, J.dst, reduceIte, Nat.reduceEqDiff, Nat.reduceAdd, Nat.reduceMul, Nat.reduceLT, Nat.reduceLeDiff]
  refine wL_stN rfl rfl rfl B7 (by decide) (ePr_one pv1) ?_
  rintro h14 u14 (B7 : Blk _ _ _ (ePr pv1))
  try simp (config := { maxSteps := 1000000 }) (disch := first | exact Nat.le_of_ble_eq_true rfl | omega) only [AXS, AXB, J.dst, reduceIte, Nat.reduceEqDiff, Nat.reduceAdd, Nat.reduceMul, Nat.reduceLT, Nat.reduceLeDiff]
  refine wL_stN rfl rfl rfl (u14.blk B8 (by omega)) (by decide) (eRp_one rv1) ?_
  rintro h15 u15 (B8 : Blk _ _ _ (eRp rv1))
  have z11 := x11.size
  have z14 := u14.size
  have z15 := u15.size
  have i3 := B3.lt
  replace B7 := u15.blk B7 (by omega)
  replace B3 := u15.blk (u14.blk B3 (by omega)) (by omega)
  have x1115 := u15.ext (u14.ext (x12.trans x13) (by omega)) (by omega)
  have x015 := (x010.trans x11).trans x1115
  have hq15 := P11.prr.ext x1115
  have C15 := C10.ext (x11.trans x1115)
  have hrv1 := K11.s
  obtain ⟨law1, law2, law3⟩ := law
  (try simp (config := { maxSteps := 1000000 }) (disch := first | exact Nat.le_of_ble_eq_true rfl | omega) only [AXS, AXB, J.dst, reduceIte, Nat.reduceEqDiff, Nat.reduceAdd, Nat.reduceMul, Nat.reduceLT, Nat.reduceLeDiff]); rw [f19c11_eq]; (try simp (config := { maxSteps := 1000000 }) (disch := first | exact Nat.le_of_ble_eq_true rfl | omega) only [AXS, AXB, J.dst, reduceIte, Nat.reduceEqDiff, Nat.reduceAdd, Nat.reduceMul, Nat.reduceLT, Nat.reduceLeDiff, f19r9, B7.rd, ePr, B3.rd, eCm])
  refine apply_ok (n := 100 * l.length + 100) pv1 (applyP p c).1 cv' c _ hq15 C15 gq.sz (by omega) (by omega) gq.e0 ?_
  rw [law1]
  intro pv2 rv2 h16 P16 K16 x16
  refine ⟨trivial, ?_⟩
  replace B3 := B3.ext x16; replace B7 := B7.ext x16; replace B8 := B8.ext x16
  try simp (config := { maxSteps := 1000000 }) (disch := first | exact Nat.le_of_ble_eq_true rfl | omega) only [AXS, AXB, J.dst, reduceIte, Nat.reduceEqDiff, Nat.reduceAdd, Nat.reduceMul, Nat.reduceLT, Nat.reduceLeDiff]
  refine wL_newN ?_; rintro b9 h17 x17 s17 hb9 B9
  replace B3 := B3.ext x17; replace B7 := B7.ext x17; replace B8 := B8.ext x17
  try simp (config := { maxSteps := 1000000 }) (disch := first | exact Nat.le_of_ble_eq_true rfl | omega) only [AXS, AXB, J.dst, reduceIte, Nat.reduceEqDiff, Nat.reduceAdd, Nat.reduceMul, Nat.reduceLT, Nat.reduceLeDiff]
  refine wL_newN ?_; rintro b10 h18 x18 s18 hb10 B10
  replace B3 := B3.ext x18; replace B7 := B7.ext x18; replace B8 := B8.ext x18; replace B9 := B9.ext x18
  try simp (config := { maxSteps := 1000000 }) (disch := first | exact Nat.le_of_ble_eq_true rfl | omega) only [AXS, AXB, J.dst, reduceIte, Nat.reduceEqDiff, Nat.reduceAdd, Nat.reduceMul, Nat.reduceLT, Nat.reduceLeDiff]
  refine wL_stN rfl rfl rfl B9 (by decide) (ePr_one pv2) ?_
  rintro h19 u19 (B9 : Blk _ _ _ (ePr pv2))
  try simp (config := { maxSteps := 1000000 }) (disch := first | exact Nat.le_of_ble_eq_true rfl | omega) only [AXS, AXB, J.dst, reduceIte, Nat.reduceEqDiff, Nat.reduceAdd, Nat.reduceMul, Nat.reduceLT, Nat.reduceLeDiff]
  refine wL_stN rfl rfl rfl (u19.blk B10 (by omega)) (by decide) (eRp_one rv2) ?_
  rintro h20 u20 (B10 : Blk _ _ _ (eRp rv2))
  have z16 := x16.size
  have z19 := u19.size
  have z20 := u20.size
  have j7 := B7.lt
  have j8 := B8.lt
  have x1620 := u20.ext (u19.ext (x17.trans x18) (by omega)) (by omega)
  replace B9 := u20.blk B9 (by omega)
  replace B3 := u20.blk (u19.blk B3 (by omega)) (by omega)
  replace B7 := u20.blk (u19.blk B7 (by omega)) (by omega)
  replace B8 := u20.blk (u19.blk B8 (by omega)) (by omega)
  have x020 := (x015.trans x16).trans x1620
  have hq20 := (hq15.ext x16).ext x1620
  have hs20 := P16.prr.ext x1620
  have hrv2 := K16.s
  (try simp (config := { maxSteps := 1000000 }) (disch := first | exact Nat.le_of_ble_eq_true rfl | omega) only [AXS, AXB, J.dst, reduceIte, Nat.reduceEqDiff, Nat.reduceAdd, Nat.reduceMul, Nat.reduceLT, Nat.reduceLeDiff]); rw [f19c12_eq]; (try simp (config := { maxSteps := 1000000 }) (disch := first | exact Nat.le_of_ble_eq_true rfl | omega) only [AXS, AXB, J.dst, reduceIte, Nat.reduceEqDiff, Nat.reduceAdd, Nat.reduceMul, Nat.reduceLT, Nat.reduceLeDiff, f19r10, B3.cel, eCm, hcs])
  (try simp (config := { maxSteps := 1000000 }) (disch := first | exact Nat.le_of_ble_eq_true rfl | omega) only [AXS, AXB, J.dst, reduceIte, Nat.reduceEqDiff, Nat.reduceAdd, Nat.reduceMul, Nat.reduceLT, Nat.reduceLeDiff]); rw [f19c13_eq]; (try simp (config := { maxSteps := 1000000 }) (disch := first | exact Nat.le_of_ble_eq_true rfl | omega) only [AXS, AXB, J.dst, reduceIte, Nat.reduceEqDiff, Nat.reduceAdd, Nat.reduceMul, Nat.reduceLT, Nat.reduceLeDiff])
  refine ⟨fun k1 => ?_, fun k1 => ?_⟩
  · obtain ⟨e1, e2⟩ := law2 (by simpa using k1)
    try simp (config := { maxSteps := 1000000 }) (disch := first | exact Nat.le_of_ble_eq_true rfl | omega) only [AXS, AXB, J.dst, reduceIte, Nat.reduceEqDiff, Nat.reduceAdd, Nat.reduceMul, Nat.reduceLT, Nat.reduceLeDiff]
    rw [f19c14_eq]
    simp (config := { maxSteps := 1000000 }) (disch := first | exact Nat.le_of_ble_eq_true rfl | omega) only [AXJ, AXS, AXB, J.dst, reduceIte, Nat.reduceEqDiff, Nat.reduceAdd, Nat.reduceMul, Nat.reduceLT, Nat.reduceLeDiff, f19r11, B8.cel, B10.cel, eRp, hrv1, hrv2, e1, e2]
    simp (config := { maxSteps := 1000000 }) (disch := first | exact Nat.le_of_ble_eq_true rfl | omega) only [AXJ, AXS, AXB, J.dst, reduceIte, Nat.reduceEqDiff, Nat.reduceAdd, Nat.reduceMul, Nat.reduceLT, Nat.reduceLeDiff, f19r11a, B7.rd, B9.rd, ePr]
    refine samePrt_ok pv1 pv2 (applyP p c).1 _ hq20 hs20 gq.sz (by omega) ?_
    intro h21 x21
    refine ⟨trivial, ?_⟩
    try simp (config := { maxSteps := 1000000 }) (disch := first | exact Nat.le_of_ble_eq_true rfl | omega) only [AXJ, AXS, AXB, J.dst, reduceIte, Nat.reduceEqDiff, Nat.reduceAdd, Nat.reduceMul, Nat.reduceLT, Nat.reduceLeDiff]
    try simp (config := { maxSteps := 1000000 }) (disch := first | exact Nat.le_of_ble_eq_true rfl | omega) only [AXJ, AXS, AXB, J.dst, reduceIte, Nat.reduceEqDiff, Nat.reduceAdd, Nat.reduceMul, Nat.reduceLT, Nat.reduceLeDiff, f19r11b]
    exact hR _ (x020.trans x21)
  · have law := law3 (by simpa using k1)
    try simp (config := { maxSteps := 1000000 }) (disch := first | exact Nat.le_of_ble_eq_true rfl | omega) only [AXS, AXB, J.dst, reduceIte, Nat.reduceEqDiff, Nat.reduceAdd, Nat.reduceMul, Nat.reduceLT, Nat.reduceLeDiff]
    rw [f19c15_eq]
    simp (config := { maxSteps := 1000000 }) (disch := first | exact Nat.le_of_ble_eq_true rfl | omega) only [AXJ, AXS, AXB, J.dst, reduceIte, Nat.reduceEqDiff, Nat.reduceAdd, Nat.reduceMul, Nat.reduceLT, Nat.reduceLeDiff, f19r12, B7.rd, B9.rd, ePr]
    refine samePrt_ok pv1 pv2 (applyP p c).1 _ hq20 hs20 gq.sz (by omega) ?_
    intro h21 x21
    refine ⟨trivial, ?_⟩
    replace B8 := B8.ext x21; replace B10 := B10.ext x21; replace B3 := B3.ext x21
    rcases law with ⟨e1, e2⟩ | ⟨e1, e2⟩
    · have e1' : ((applyP p c).2.s.err != 0) = true := by simpa using e1
      simp (config := { maxSteps := 1000000 }) (disch := first | exact Nat.le_of_ble_eq_true rfl | omega) only [AXJ, AXS, AXB, J.dst, reduceIte, Nat.reduceEqDiff, Nat.reduceAdd, Nat.reduceMul, Nat.reduceLT, Nat.reduceLeDiff, ↓br_TT, ↓br_TF, ↓br_FT, ↓br_FF, B8.cel, B10.cel, eRp, hrv1, hrv2, e2, e1']
      try simp (config := { maxSteps := 1000000 }) (disch := first | exact Nat.le_of_ble_eq_true rfl | omega) only [AXJ, AXS, AXB, J.dst, reduceIte, Nat.reduceEqDiff, Nat.reduceAdd, Nat.reduceMul, Nat.reduceLT, Nat.reduceLeDiff, f19r12a]
      exact hR _ (x020.trans x21)
    · simp (config := { maxSteps := 1000000 }) (disch := first | exact Nat.le_of_ble_eq_true rfl | omega) only [AXJ, AXS, AXB, J.dst, reduceIte, Nat.reduceEqDiff, Nat.reduceAdd, Nat.reduceMul, Nat.reduceLT, Nat.reduceLeDiff, ↓br_TT, ↓br_TF, ↓br_FT, ↓br_FF, B8.cel, B10.cel, eRp, hrv1, hrv2, e1, e2]
      try simp (config := { maxSteps := 1000000 }) (disch := first | exact Nat.le_of_ble_eq_true rfl | omega) only [AXJ, AXS, AXB, J.dst, reduceIte, Nat.reduceEqDiff, Nat.reduceAdd, Nat.reduceMul, Nat.reduceLT, Nat.reduceLeDiff, f19r12a]
      exact hR _ (x020.trans x21)
end Go.Proofs.Ytefghfgmkndikaa
