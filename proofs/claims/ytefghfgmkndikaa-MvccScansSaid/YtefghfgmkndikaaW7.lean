/-
  Walks: copies of cells.
-/
import Derived.Test.YtefghfgmkndikaaW6
set_option linter.unusedSimpArgs false
set_option linter.unusedVariables false
namespace Go.AX
open Go
/-- The cell c lies as v, its versions in a row of the call's own. -/
structure OC (lo : Nat) (h : Heap) (v : CV) (c : Cell) : Prop where
  key : v.key = c.key
  locked : v.locked = c.locked
  lock : v.lock = c.lock
  vn : v.vn = c.vers.length
  vers : Own lo h 108 4 v.va v.vn v.vc (c.vers.flatMap eVer)
theorem OC.cr {lo : Nat} {h : Heap} {v : CV} {c : Cell} (r : OC lo h v c) : CR (fun b => lo ≤ b ∧ b < h.size ∧ ob v.va = some b) h v c := ⟨r.key, r.locked, r.lock, r.vn, r.vers.room.1, SlF.of_own r.vers r.vn⟩
theorem OC.ext {lo : Nat} {h h' : Heap} {v : CV} {c : Cell} (r : OC lo h v c) (x : Ext h h') : OC lo h' v c := ⟨r.key, r.locked, r.lock, r.vn, r.vers.ext x⟩
theorem OC.mono {lo lo' : Nat} {h : Heap} {v : CV} {c : Cell} (r : OC lo h v c) (x : lo' ≤ lo) : OC lo' h v c := ⟨r.key, r.locked, r.lock, r.vn, r.vers.mono x⟩

/-- A slice of cells in a row of the call's own, the versions' rows apart from it. -/
def OwnC (lo : Nat) (h : Heap) (a : Option Addr) (n c : Nat) (cs : List Cell) : Prop :=
  ∃ vs, Own lo h 103 12 a n c (vs.flatMap eCV) ∧ n = cs.length ∧ All2 (CR (fun b => lo ≤ b ∧ b < h.size ∧ some b ≠ ob a) h) vs cs
theorem OwnC.nil (lo : Nat) (h : Heap) : OwnC lo h none 0 0 [] := ⟨[], Own.nil _ _ _ _, rfl, .nil⟩
theorem SlF.to {α : Type} {B B' : Nat → Prop} {h h' : Heap} {e : α → List Value} {a : Option Addr} {ds : List α} (S : SlF B h e a ds) (H : ∀ b, B b → B' b ∧ h'[b]? = h[b]?) : SlF B' h' e a ds :=
  fun hn => let ⟨b, o, h1, h2, h3⟩ := S hn; ⟨b, o, h1, (H b h2).1, h3.at_ (H b h2).2⟩
theorem CR.to {B B' : Nat → Prop} {h h' : Heap} {v : CV} {c : Cell} (r : CR B h v c) (H : ∀ b, B b → B' b ∧ h'[b]? = h[b]?) : CR B' h' v c := ⟨r.key, r.locked, r.lock, r.vn, r.cap, r.vers.to H⟩
theorem OwnC.ext {lo : Nat} {h h' : Heap} {a : Option Addr} {n c : Nat} {cs : List Cell} (O : OwnC lo h a n c cs) (x : Ext h h') : OwnC lo h' a n c cs := by
  obtain ⟨vs, h1, h2, h3⟩ := O
  exact ⟨vs, h1.ext x, h2, h3.imp fun _ _ r => r.to fun b hb => ⟨⟨hb.1, Nat.lt_of_lt_of_le hb.2.1 x.size, hb.2.2⟩, x.at_ b hb.2.1⟩⟩
theorem OwnC.row {lo : Nat} {h : Heap} {a : Option Addr} {n c : Nat} {cs : List Cell} (O : OwnC lo h a n c cs) : ∀ k, ob a = some k → lo ≤ k ∧ k < h.size := by
  obtain ⟨vs, h1, _⟩ := O
  exact h1.ob
/-- As a slice of cells. -/
theorem OwnC.slc {lo : Nat} {h : Heap} {a : Option Addr} {n c : Nat} {cs : List Cell} (O : OwnC lo h a n c cs) : SlC (fun b => lo ≤ b ∧ b < h.size) h a cs := by
  obtain ⟨vs, h1, h2, h3⟩ := O
  exact ⟨vs, h3.imp fun _ _ r => r.imp fun b hb => ⟨hb.1, hb.2.1⟩, (SlF.of_own h1 (by rw [h2, h3.length])).imp fun b hb => ⟨hb.1, hb.2.1⟩⟩
/-- One more. -/
theorem OwnC.push {lo : Nat} {h h' : Heap} {a a' : Option Addr} {n c' : Nat} {cs : List Cell} {v : CV} {x : Cell} {vs : List CV} (h2 : n = cs.length) (h3 : All2 (CR (fun b => lo ≤ b ∧ b < h.size ∧ some b ≠ ob a) h) vs cs)
    (r : CR (fun b => lo ≤ b ∧ b < h.size ∧ some b ≠ ob a) h v x) (O : Own lo h' 103 12 a' (n + 1) c' (vs.flatMap eCV ++ eCV v)) (G : Gr (ob a) h h') (A : ob a' = ob a ∨ ∃ k, ob a' = some k ∧ h.size ≤ k) : OwnC lo h' a' (n + 1) c' (cs ++ [x]) := by
  have hto : ∀ b, (lo ≤ b ∧ b < h.size ∧ some b ≠ ob a) → (lo ≤ b ∧ b < h'.size ∧ some b ≠ ob a') ∧ h'[b]? = h[b]? := by
    rintro b ⟨b1, b2, b3⟩
    refine ⟨⟨b1, Nat.lt_of_lt_of_le b2 G.size, ?_⟩, G.at_ b b2 b3⟩
    rcases A with e | ⟨k, e, hk⟩
    · rw [e]; exact b3
    · rw [e]; intro e'; cases e'; omega
  refine ⟨vs ++ [v], ?_, by simp [h2], (h3.imp fun _ _ r => r.to hto).append (.cons (r.to hto) .nil)⟩
  rw [List.flatMap_append]
  simpa using O
end Go.AX
namespace Go.Proofs.Ytefghfgmkndikaa
open Go Go.AX

/-- Few enough. -/
def big : Nat := 1000000

/-- A cell is appended. -/
theorem raw_push {o : Oper} {σ : Env} {h : Heap} {K : Value → Heap → Prop} {x y : Operand} (ho : o.op = .call ⟨.builtin .append, #[x, y], #[74, 74]⟩) {a : Option Addr} {n c lo b : Nat} {cs : List Cell} {v : CV} {z : Cell}
    (hx : evO σ x = some (.slice a n c)) (hy : evO σ y = some (sl b 0 1 1)) (O : OwnC lo h a n c cs) (B : Blk h b 103 (eCV v)) (r : CR (fun b => lo ≤ b ∧ b < h.size ∧ some b ≠ ob a) h v z) (hn : n < big) (hlo : lo ≤ h.size)
    (H : ∀ a' c' h', OwnC lo h' a' (n + 1) c' (cs ++ [z]) → Gr (ob a) h h' → (ob a' = ob a ∨ ∃ k, ob a' = some k ∧ h.size ≤ k) → K (.slice a' (n + 1) c') h') : RawW Try.prog o σ h K := by
  obtain ⟨vs, h1, h2, h3⟩ := O
  have hbig : big = 1000000 := rfl
  refine raw_append slT74 ho hx hy h1 (news := eCV v) (by rw [eCV_len]) (.inr ⟨b, 0, rfl, B.row⟩) (eCV_one v) (by unfold maxLen; omega) (by omega) hlo ?_
  intro a' c' h' O' G A
  exact H a' c' h' (OwnC.push h2 h3 r O' G A) G A

theorem clone_ok {B : Nat → Prop} {a : Option Addr} {c : Nat} (vs : List Ver) (h : Heap) (S : SlF B h eVer a vs) (hn : vs.length ≤ big) {R : Value → Heap → Prop}
    (hR : ∀ a' c' h', Own h.size h' 108 4 a' vs.length c' (vs.flatMap eVer) → Ext h h' → R (.slice a' vs.length c') h') : CallsH Try.prog 114 [.slice a vs.length c] h R := by
  unfold big at hn
  refine f114ok (by simp) ?_
  simp (disch := first | exact Nat.le_of_ble_eq_true rfl | omega) only [AXR, AXB, J.dst, reduceIte, Nat.reduceEqDiff, Nat.reduceAdd, Nat.reduceMul, Nat.reduceLT, Nat.reduceLeDiff, f114r0, f114r1, f114r2, f114r3, f114c3_eq, f114c4_eq, f114c2_eq, f114c1_eq, f114c0_eq]
  cases a with
  | none =>
    have hv : vs = [] := by
      cases vs with
      | nil => rfl
      | cons v vs => obtain ⟨b, o, h1, _⟩ := S (by simp); cases h1
    subst hv
    rw [show eqN true false (.slice none ([] : List Ver).length c) (.slice none 0 0) = some (.bool true) from rfl]
    simp (disch := first | exact Nat.le_of_ble_eq_true rfl | omega) only [AXR, AXB, J.dst, reduceIte, Nat.reduceEqDiff, Nat.reduceAdd, Nat.reduceMul, Nat.reduceLT, Nat.reduceLeDiff, br_true]
    exact hR none 0 h (Own.nil _ _ _ _) (Ext.refl h)
  | some ad =>
    rw [show eqN true false (.slice (some ad) vs.length c) (.slice none 0 0) = some (.bool false) from rfl]
    simp (disch := first | exact Nat.le_of_ble_eq_true rfl | omega) only [AXR, AXB, J.dst, reduceIte, Nat.reduceEqDiff, Nat.reduceAdd, Nat.reduceMul, Nat.reduceLT, Nat.reduceLeDiff, br_false]
    refine wL_bslN rfl ?_; intro b1 h1 e1 s1 hb1 B1
    simp (disch := first | exact Nat.le_of_ble_eq_true rfl | omega) only [AXR, AXB, J.dst, reduceIte, Nat.reduceEqDiff, Nat.reduceAdd, Nat.reduceMul, Nat.reduceLT, Nat.reduceLeDiff]
    rw [wL_raw]
    have O1 : Own h.size h1 108 4 (some ⟨b1, 0, none⟩) 0 0 [] := Own.of_blk (by omega) B1 (by simp) (Nat.le_refl _) (Nat.zero_le _) (by simp)
    have hfl := flatMap_length eVer_len vs
    refine raw_append slT101 rfl rfl rfl O1 hfl ?_ (one_flatMap eVer_one vs) (by unfold maxLen; omega) (by omega) e1.size ?_
    · by_cases hv : vs = []
      · left; rw [hv]; rfl
      · obtain ⟨b, o, h1', _, h3⟩ := (S.ext e1) hv
        cases h1'
        exact .inr ⟨b, o, rfl, h3⟩
    · intro a' c' h' O' G A
      refine ⟨trivial, ?_⟩
      try simp (disch := first | exact Nat.le_of_ble_eq_true rfl | omega) only [AXR, AXB, J.dst, reduceIte, Nat.reduceEqDiff, Nat.reduceAdd, Nat.reduceMul, Nat.reduceLT, Nat.reduceLeDiff]
      simp only [Nat.zero_add, List.nil_append] at O' ⊢
      exact hR _ _ _ O' (G.ext e1 (fun k hk => by cases hk; show h.size ≤ b1; omega))

theorem own_ok {B : Nat → Prop} (x : CV) (c : Cell) (h : Heap) (S : CR B h x c) (hn : c.vers.length ≤ big) {R : Value → Heap → Prop}
    (hR : ∀ x' h', OC h.size h' x' c → Ext h h' → R (.agg (eCV x').toArray) h') : CallsH Try.prog 84 [.agg (eCV x).toArray] h R := by
  refine f84ok (by simp) ?_
  simp (disch := first | exact Nat.le_of_ble_eq_true rfl | omega) only [AXR, AXB, J.dst, reduceIte, Nat.reduceEqDiff, Nat.reduceAdd, Nat.reduceMul, Nat.reduceLT, Nat.reduceLeDiff, f84r0, f84r1, f84r2, f84c2_eq, f84c1_eq, f84c0_eq]
  refine wL_boxN rfl ?_; rintro b1 h1 e1 s1 hb1 (B1 : Blk _ _ _ (eCV x))
  refine wL_newN ?_; rintro b2 h2 e2 s2 hb2 B2
  have B1 := B1.ext e2
  simp (disch := first | exact Nat.le_of_ble_eq_true rfl | omega) only [AXR, AXB, J.dst, reduceIte, Nat.reduceEqDiff, Nat.reduceAdd, Nat.reduceMul, Nat.reduceLT, Nat.reduceLeDiff, f84r0, f84r1, f84r2, f84c2_eq, f84c1_eq, f84c0_eq, B1.cel, eCV, S.vn]
  refine clone_ok c.vers _ (S.vers.ext (e1.trans e2)) hn ?_
  intro a' c' h3 O3 e3
  try simp (disch := first | exact Nat.le_of_ble_eq_true rfl | omega) only [AXR, AXB, J.dst, reduceIte, Nat.reduceEqDiff, Nat.reduceAdd, Nat.reduceMul, Nat.reduceLT, Nat.reduceLeDiff, f84r0, f84r1, f84r2, f84c2_eq, f84c1_eq, f84c0_eq]
  replace B1 := B1.ext e3
  replace B2 := B2.ext e3
  have hl3 := O3.ob
  have e12 := e1.trans e2
  refine wL_stN rfl rfl rfl B1 (by rw [eCV_len]; exact Nat.le_of_ble_eq_true rfl) (fun v hv => by simp only [cells_slice, List.mem_toArray, List.mem_cons, List.not_mem_nil, or_false] at hv; subst hv; rfl) ?_
  rintro h4 u4 (B4 : Blk _ _ _ (eCV { x with va := a', vn := c.vers.length, vc := c' }))
  have B2 := u4.blk B2 (by omega)
  simp (disch := first | exact Nat.le_of_ble_eq_true rfl | omega) only [AXR, AXB, J.dst, reduceIte, Nat.reduceEqDiff, Nat.reduceAdd, Nat.reduceMul, Nat.reduceLT, Nat.reduceLeDiff, B4.rd, eCV]
  refine wL_stN rfl rfl rfl B2 (by decide) (eCV_one { x with va := a', vn := c.vers.length, vc := c' }) ?_
  rintro h5 u5 (B5 : Blk _ _ _ (eCV { x with va := a', vn := c.vers.length, vc := c' }))
  simp (disch := first | exact Nat.le_of_ble_eq_true rfl | omega) only [AXR, AXB, J.dst, reduceIte, Nat.reduceEqDiff, Nat.reduceAdd, Nat.reduceMul, Nat.reduceLT, Nat.reduceLeDiff, B5.rd, eCV]
  have hne : ∀ k, ob a' = some k → k ≠ b1 ∧ k ≠ b2 := fun k hk => by have := hl3 k hk; omega
  have e34 : Ext h h3 := e12.trans e3
  refine hR { x with va := a', vn := c.vers.length, vc := c' } h5 ⟨S.key, S.locked, S.lock, rfl, ?_⟩ (u5.ext (u4.ext e34 (by omega)) (by omega))
  exact ((O3.mono e12.size).gr u4.gr (fun k hk => by have := (hne k hk).1; intro e; cases e; exact this rfl)).gr u5.gr (fun k hk => by have := (hne k hk).2; intro e; cases e; exact this rfl)

theorem all_ok {B : Nat → Prop} {a : Option Addr} {c : Nat} (cs : List Cell) (h : Heap) (S : SlC B h a cs) (hn : cs.length ≤ big) (F : ∀ c ∈ cs, c.vers.length ≤ big) {R : Value → Heap → Prop}
    (hR : ∀ a' c' h', OwnC h.size h' a' cs.length c' cs → Ext h h' → R (.slice a' cs.length c') h') : CallsH Try.prog 86 [.slice a cs.length c] h R := by
  have hbig : big = 1000000 := rfl
  refine f86ok (by simp) ?_
  simp (disch := first | exact Nat.le_of_ble_eq_true rfl | omega) only [AXR, AXB, J.dst, reduceIte, Nat.reduceEqDiff, Nat.reduceAdd, Nat.reduceMul, Nat.reduceLT, Nat.reduceLeDiff, f86r0, f86r1, f86r2, f86r3, f86r4, f86r5, f86r6, f86r7, f86c8_eq, f86c7_eq, f86c9_eq, f86c6_eq, f86c5_eq, f86c4_eq, f86c10_eq, f86c3_eq, f86c2_eq, f86c1_eq, f86c0_eq]
  refine loop_in (fun n σ h' => Ext h h' ∧ ∃ (k c' : Nat) (a' : Option Addr), k + n = cs.length ∧ OwnC h.size h' a' k c' (cs.take k) ∧ σ = [(3, .slice a' k c'), (6, .slice a cs.length c), (7, vi cs.length), (8, vi k)])
    cs.length ⟨Ext.refl _, 0, 0, none, by omega, OwnC.nil _ _, rfl⟩ ?_
  rintro n σ h' ⟨e1, k, c', a', hk, O, rfl⟩ Q' hnx hex hrt _
  simp (disch := first | exact Nat.le_of_ble_eq_true rfl | omega) only [AXR, AXB, J.dst, reduceIte, Nat.reduceEqDiff, Nat.reduceAdd, Nat.reduceMul, Nat.reduceLT, Nat.reduceLeDiff, f86r0, f86r1, f86r2, f86r3, f86r4, f86r5, f86r6, f86r7, f86c8_eq, f86c7_eq, f86c9_eq, f86c6_eq, f86c5_eq, f86c4_eq, f86c10_eq, f86c3_eq, f86c2_eq, f86c1_eq, f86c0_eq]
  refine ⟨fun h2 => ?_, fun h2 => ?_⟩
  · have hkl : k < cs.length := by have := of_decide_eq_true h2; omega
    obtain ⟨x, hx⟩ := get_ex hkl
    obtain ⟨b, o, v, rfl, _, hrow, hcr⟩ := (S.ext e1).elem hx
    simp (disch := first | exact Nat.le_of_ble_eq_true rfl | omega) only [AXR, AXB, J.dst, reduceIte, Nat.reduceEqDiff, Nat.reduceAdd, Nat.reduceMul, Nat.reduceLT, Nat.reduceLeDiff, f86r0, f86r1, f86r2, f86r3, f86r4, f86r5, f86r6, f86r7, f86c8_eq, f86c7_eq, f86c9_eq, f86c6_eq, f86c5_eq, f86c4_eq, f86c10_eq, f86c3_eq, f86c2_eq, f86c1_eq, f86c0_eq, row_cv hrow]
    refine ⟨by omega, by omega, ?_⟩
    refine wL_newN ?_; rintro b4 h4 e4 s4 hb4 B4
    refine wL_stN rfl rfl rfl B4 (by decide) (eCV_one v) ?_; rintro h5 u5 (B5 : Blk _ _ _ (eCV v))
    have e5 := u5.ext e4 (by omega)
    simp (disch := first | exact Nat.le_of_ble_eq_true rfl | omega) only [AXR, AXB, J.dst, reduceIte, Nat.reduceEqDiff, Nat.reduceAdd, Nat.reduceMul, Nat.reduceLT, Nat.reduceLeDiff, f86r0, f86r1, f86r2, f86r3, f86r4, f86r5, f86r6, f86r7, f86c8_eq, f86c7_eq, f86c9_eq, f86c6_eq, f86c5_eq, f86c4_eq, f86c10_eq, f86c3_eq, f86c2_eq, f86c1_eq, f86c0_eq, B5.rd, eCV]
    refine own_ok v x _ (hcr.ext e5) (F x (List.mem_of_getElem? hx)) ?_
    intro x' h6 O6 e6
    refine ⟨trivial, ?_⟩
    try simp (disch := first | exact Nat.le_of_ble_eq_true rfl | omega) only [AXR, AXB, J.dst, reduceIte, Nat.reduceEqDiff, Nat.reduceAdd, Nat.reduceMul, Nat.reduceLT, Nat.reduceLeDiff, f86r0, f86r1, f86r2, f86r3, f86r4, f86r5, f86r6, f86r7, f86c8_eq, f86c7_eq, f86c9_eq, f86c6_eq, f86c5_eq, f86c4_eq, f86c10_eq, f86c3_eq, f86c2_eq, f86c1_eq, f86c0_eq]
    generalize hh7 : h6.push (Obj.cells _ 103) = h7
    have e7 : Ext h6 h7 := hh7 ▸ (Ext.refl h6).push _
    have B7 : Blk h7 h6.size 103 (eCV x') := hh7 ▸ Blk.new h6 103 _
    have e57 := e6.trans e7
    have ea := e5.trans e57
    have O7 := O.ext ea
    have hO := O.row
    rw [wL_raw]
    refine raw_push rfl rfl rfl O7 B7 ((O6.ext e7).cr.to fun b hb => ⟨⟨?_, hb.2.1, ?_⟩, rfl⟩) (by omega) (Nat.le_trans e1.size ea.size) ?_
    · have := e1.size; have := e5.size; omega
    · intro e; have := hO b e.symm; have := e5.size; omega
    intro a8 c8 h8 O8 G8 A8
    refine ⟨trivial, ?_⟩
    simp (disch := first | exact Nat.le_of_ble_eq_true rfl | omega) only [AXR, AXB, J.dst, reduceIte, Nat.reduceEqDiff, Nat.reduceAdd, Nat.reduceMul, Nat.reduceLT, Nat.reduceLeDiff]
    rw [i64_wrap (by omega) (by omega)]
    refine hnx (n - 1) _ _ (by omega) ⟨G8.ext (e1.trans ea) (fun j hj => (hO j hj).1), k + 1, c8, a8, by omega, ?_, rfl⟩
    rw [List.take_add_one, hx]
    exact O8
  · have hkl : k = cs.length := by have := of_decide_eq_false h2; omega
    subst hkl
    refine hex _ _ ?_
    simp (disch := first | exact Nat.le_of_ble_eq_true rfl | omega) only [AXR, AXB, J.dst, reduceIte, Nat.reduceEqDiff, Nat.reduceAdd, Nat.reduceMul, Nat.reduceLT, Nat.reduceLeDiff]
    rw [List.take_length] at O
    exact hR _ _ _ O e1
end Go.Proofs.Ytefghfgmkndikaa
