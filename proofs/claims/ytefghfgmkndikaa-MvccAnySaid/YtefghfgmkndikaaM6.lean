/-
  Walks: copies of cells.
-/
import Derived.Test.YtefghfgmkndikaaM5
set_option linter.unusedSimpArgs false
set_option linter.unusedVariables false
namespace Go.AX
open Go
/-- The cell c lies as v, its versions in a row of the call's own. -/
structure OC (lo : Nat) (h : Heap) (v : CV) (c : Cell) : Prop where
  key : v.key = c.key
  locked : v.locked = c.locked
  lock : v.lock = c.lock
  vn : v.vn = c.vers.length
  vers : Own lo h 108 4 v.va v.vn v.vc (c.vers.flatMap eVer)
theorem OC.cr {lo : Nat} {h : Heap} {v : CV} {c : Cell} (r : OC lo h v c) : CR (fun b => lo ≤ b ∧ b < h.size ∧ ob v.va = some b) h v c := ⟨r.key, r.locked, r.lock, r.vn, r.vers.room.1, SlF.of_own r.vers r.vn⟩
theorem OC.ext {lo : Nat} {h h' : Heap} {v : CV} {c : Cell} (r : OC lo h v c) (x : Ext h h') : OC lo h' v c := ⟨r.key, r.locked, r.lock, r.vn, r.vers.ext x⟩
theorem OC.mono {lo lo' : Nat} {h : Heap} {v : CV} {c : Cell} (r : OC lo h v c) (x : lo' ≤ lo) : OC lo' h v c := ⟨r.key, r.locked, r.lock, r.vn, r.vers.mono x⟩

/-- A slice of cells in a row of the call's own, the versions' rows apart from it. -/
def OwnC (lo : Nat) (h : Heap) (a : Option Addr) (n c : Nat) (cs : List Cell) : Prop :=
  ∃ vs, Own lo h 103 12 a n c (vs.flatMap eCV) ∧ n = cs.length ∧ All2 (CR (fun b => lo ≤ b ∧ b < h.size ∧ some b ≠ ob a) h) vs cs
theorem OwnC.nil (lo : Nat) (h : Heap) : OwnC lo h none 0 0 [] := ⟨[], Own.nil _ _ _ _, rfl, .nil⟩
theorem SlF.to {α : Type} {B B' : Nat → Prop} {h h' : Heap} {e : α → List Value} {a : Option Addr} {ds : List α} (S : SlF B h e a ds) (H : ∀ b, B b → B' b ∧ h'[b]? = h[b]?) : SlF B' h' e a ds :=
  fun hn => let ⟨b, o, h1, h2, h3⟩ := S hn; ⟨b, o, h1, (H b h2).1, h3.at_ (H b h2).2⟩
theorem CR.to {B B' : Nat → Prop} {h h' : Heap} {v : CV} {c : Cell} (r : CR B h v c) (H : ∀ b, B b → B' b ∧ h'[b]? = h[b]?) : CR B' h' v c := ⟨r.key, r.locked, r.lock, r.vn, r.cap, r.vers.to H⟩
theorem OwnC.ext {lo : Nat} {h h' : Heap} {a : Option Addr} {n c : Nat} {cs : List Cell} (O : OwnC lo h a n c cs) (x : Ext h h') : OwnC lo h' a n c cs := by
  obtain ⟨vs, h1, h2, h3⟩ := O
  exact ⟨vs, h1.ext x, h2, h3.imp fun _ _ r => r.to fun b hb => ⟨⟨hb.1, Nat.lt_of_lt_of_le hb.2.1 x.size, hb.2.2⟩, x.at_ b hb.2.1⟩⟩
theorem OwnC.row {lo : Nat} {h : Heap} {a : Option Addr} {n c : Nat} {cs : List Cell} (O : OwnC lo h a n c cs) : ∀ k, ob a = some k → lo ≤ k ∧ k < h.size := by
  obtain ⟨vs, h1, _⟩ := O
  exact h1.ob
/-- As a slice of cells. -/
theorem OwnC.slc {lo : Nat} {h : Heap} {a : Option Addr} {n c : Nat} {cs : List Cell} (O : OwnC lo h a n c cs) : SlC (fun b => lo ≤ b ∧ b < h.size) h a cs := by
  obtain ⟨vs, h1, h2, h3⟩ := O
  exact ⟨vs, h3.imp fun _ _ r => r.imp fun b hb => ⟨hb.1, hb.2.1⟩, (SlF.of_own h1 (by rw [h2, h3.length])).imp fun b hb => ⟨hb.1, hb.2.1⟩⟩
/-- One more. -/
theorem OwnC.push {lo : Nat} {h h' : Heap} {a a' : Option Addr} {n c' : Nat} {cs : List Cell} {v : CV} {x : Cell} {vs : List CV} (h2 : n = cs.length) (h3 : All2 (CR (fun b => lo ≤ b ∧ b < h.size ∧ some b ≠ ob a) h) vs cs)
    (r : CR (fun b => lo ≤ b ∧ b < h.size ∧ some b ≠ ob a) h v x) (O : Own lo h' 103 12 a' (n + 1) c' (vs.flatMap eCV ++ eCV v)) (G : Gr (ob a) h h') (A : ob a' = ob a ∨ ∃ k, ob a' = some k ∧ h.size ≤ k) : OwnC lo h' a' (n + 1) c' (cs ++ [x]) := by
  have hto : ∀ b, (lo ≤ b ∧ b < h.size ∧ some b ≠ ob a) → (lo ≤ b ∧ b < h'.size ∧ some b ≠ ob a') ∧ h'[b]? = h[b]? := by
    rintro b ⟨b1, b2, b3⟩
    refine ⟨⟨b1, Nat.lt_of_lt_of_le b2 G.size, ?_⟩, G.at_ b b2 b3⟩
    rcases A with e | ⟨k, e, hk⟩
    · rw [e]; exact b3
    · rw [e]; intro e'; cases e'; omega
  refine ⟨vs ++ [v], ?_, by simp [h2], (h3.imp fun _ _ r => r.to hto).append (.cons (r.to hto) .nil)⟩
  rw [List.flatMap_append]
  simpa using O
end Go.AX
namespace Go.Proofs.Ytefghfgmkndikaa
open Go Go.AX

/-- Few enough. -/
def big : Nat := 1000000

/-- A cell is appended. -/
theorem raw_push {o : Oper} {σ : Env} {h : Heap} {K : Value → Heap → Prop} {x y : Operand} (ho : o.op = .call ⟨.builtin .append, #[x, y], #[74, 74]⟩) {a : Option Addr} {n c lo b : Nat} {cs : List Cell} {v : CV} {z : Cell}
    (hx : evO σ x = some (.slice a n c)) (hy : evO σ y = some (sl b 0 1 1)) (O : OwnC lo h a n c cs) (B : Blk h b 103 (eCV v)) (r : CR (fun b => lo ≤ b ∧ b < h.size ∧ some b ≠ ob a) h v z) (hn : n < big) (hlo : lo ≤ h.size)
    (H : ∀ a' c' h', OwnC lo h' a' (n + 1) c' (cs ++ [z]) → Gr (ob a) h h' → (ob a' = ob a ∨ ∃ k, ob a' = some k ∧ h.size ≤ k) → K (.slice a' (n + 1) c') h') : RawW Try.prog o σ h K := by
  obtain ⟨vs, h1, h2, h3⟩ := O
  have hbig : big = 1000000 := rfl
  refine raw_append slT74 ho hx hy h1 (news := eCV v) (by rw [eCV_len]) (.inr ⟨b, 0, rfl, B.row⟩) (eCV_one v) (by unfold maxLen; omega) (by omega) hlo ?_
  intro a' c' h' O' G A
  exact H a' c' h' (OwnC.push h2 h3 r O' G A) G A

theorem clone_ok {B : Nat → Prop} {a : Option Addr} {c : Nat} (vs : List Ver) (h : Heap) (S : SlF B h eVer a vs) (hn : vs.length ≤ big) {R : Value → Heap → Prop}
    (hR : ∀ a' c' h', Own h.size h' 108 4 a' vs.length c' (vs.flatMap eVer) → Ext h h' → R (.slice a' vs.length c') h') : CallsH Try.prog 114 [.slice a vs.length c] h R := by
  unfold big at hn
  refine f114ok (by simp) ?_
  simp (disch := first | exact Nat.le_of_ble_eq_true rfl | omega) only [AXR, AXB, J.dst, reduceIte, Nat.reduceEqDiff, Nat.reduceAdd, Nat.reduceMul, Nat.reduceLT, Nat.reduceLeDiff, f114r0, f114r1, f114r2, f114r3, f114c3_eq, f114c4_eq, f114c2_eq, f114c1_eq, f114c0_eq]
  cases a with
  | none =>
    have hv : vs = [] := by
      cases vs with
      | nil => rfl
      | cons v vs => obtain ⟨b, o, h1, _⟩ := S (by simp); cases h1
    subst hv
    rw [show eqN true false (.slice none ([] : List Ver).length c) (.slice none 0 0) = some (.bool true) from rfl]
    simp (disch := first | exact Nat.le_of_ble_eq_true rfl | omega) only [AXR, AXB, J.dst, reduceIte, Nat.reduceEqDiff, Nat.reduceAdd, Nat.reduceMul, Nat.reduceLT, Nat.reduceLeDiff, br_true]
    exact hR none 0 h (Own.nil _ _ _ _) (Ext.refl h)
  | some ad =>
    rw [show eqN true false (.slice (some ad) vs.length c) (.slice none 0 0) = some (.bool false) from rfl]
    simp (disch := first | exact Nat.le_of_ble_eq_true rfl | omega) only [AXR, AXB, J.dst, reduceIte, Nat.reduceEqDiff, Nat.reduceAdd, Nat.reduceMul, Nat.reduceLT, Nat.reduceLeDiff, br_false]
    refine wL_bslN rfl ?_; intro b1 h1 e1 s1 hb1 B1
    simp (disch := first | exact Nat.le_of_ble_eq_true rfl | omega) only [AXR, AXB, J.dst, reduceIte, Nat.reduceEqDiff, Nat.reduceAdd, Nat.reduceMul, Nat.reduceLT, Nat.reduceLeDiff]
    rw [wL_raw]
    have O1 : Own h.size h1 108 4 (some ⟨b1, 0, none⟩) 0 0 [] := Own.of_blk (by omega) B1 (by simp) (Nat.le_refl _) (Nat.zero_le _) (by simp)
    have hfl := flatMap_length eVer_len vs
    refine raw_append slT101 rfl rfl rfl O1 hfl ?_ (one_flatMap eVer_one vs) (by unfold maxLen; omega) (by omega) e1.size ?_
    · by_cases hv : vs = []
      · left; rw [hv]; rfl
      · obtain ⟨b, o, h1', _, h3⟩ := (S.ext e1) hv
        cases h1'
        exact .inr ⟨b, o, rfl, h3⟩
    · intro a' c' h' O' G A
      refine ⟨trivial, ?_⟩
      try simp (disch := first | exact Nat.le_of_ble_eq_true rfl | omega) only [AXR, AXB, J.dst, reduceIte, Nat.reduceEqDiff, Nat.reduceAdd, Nat.reduceMul, Nat.reduceLT, Nat.reduceLeDiff]
      simp only [Nat.zero_add, List.nil_append] at O' ⊢
      exact hR _ _ _ O' (G.ext e1 (fun k hk => by cases hk; show h.size ≤ b1; omega))

theorem own_ok {B : Nat → Prop} (x : CV) (c : Cell) (h : Heap) (S : CR B h x c) (hn : c.vers.length ≤ big) {R : Value → Heap → Prop}
    (hR : ∀ x' h', OC h.size h' x' c → Ext h h' → R (.agg (eCV x').toArray) h') : CallsH Try.prog 84 [.agg (eCV x).toArray] h R := by
  refine f84ok (by simp) ?_
  simp (disch := first | exact Nat.le_of_ble_eq_true rfl | omega) only [AXR, AXB, J.dst, reduceIte, Nat.reduceEqDiff, Nat.reduceAdd, Nat.reduceMul, Nat.reduceLT, Nat.reduceLeDiff, f84r0, f84r1, f84r2, f84c2_eq, f84c1_eq, f84c0_eq]
  refine wL_boxN rfl ?_; rintro b1 h1 e1 s1 hb1 (B1 : Blk _ _ _ (eCV x))
  refine wL_newN ?_; rintro b2 h2 e2 s2 hb2 B2
  have B1 := B1.ext e2
  simp (disch := first | exact Nat.le_of_ble_eq_true rfl | omega) only [AXR, AXB, J.dst, reduceIte, Nat.reduceEqDiff, Nat.reduceAdd, Nat.reduceMul, Nat.reduceLT, Nat.reduceLeDiff, f84r0, f84r1, f84r2, f84c2_eq, f84c1_eq, f84c0_eq, B1.cel, eCV, S.vn]
  refine clone_ok c.vers _ (S.vers.ext (e1.trans e2)) hn ?_
  intro a' c' h3 O3 e3
  try simp (disch := first | exact Nat.le_of_ble_eq_true rfl | omega) only [AXR, AXB, J.dst, reduceIte, Nat.reduceEqDiff, Nat.reduceAdd, Nat.reduceMul, Nat.reduceLT, Nat.reduceLeDiff, f84r0, f84r1, f84r2, f84c2_eq, f84c1_eq, f84c0_eq]
  replace B1 := B1.ext e3
  replace B2 := B2.ext e3
  have hl3 := O3.ob
  have e12 := e1.trans e2
  refine wL_stN rfl rfl rfl B1 (by rw [eCV_len]; exact Nat.le_of_ble_eq_true rfl) (fun v hv => by simp only [cells_slice, List.mem_toArray, List.mem_cons, List.not_mem_nil, or_false] at hv; subst hv; rfl) ?_
  rintro h4 u4 (B4 : Blk _ _ _ (eCV { x with va := a', vn := c.vers.length, vc := c' }))
  have B2 := u4.blk B2 (by omega)
  simp (disch := first | exact Nat.le_of_ble_eq_true rfl | omega) only [AXR, AXB, J.dst, reduceIte, Nat.reduceEqDiff, Nat.reduceAdd, Nat.reduceMul, Nat.reduceLT, Nat.reduceLeDiff, B4.rd, eCV]
  refine wL_stN rfl rfl rfl B2 (by decide) (eCV_one { x with va := a', vn := c.vers.length, vc := c' }) ?_
  rintro h5 u5 (B5 : Blk _ _ _ (eCV { x with va := a', vn := c.vers.length, vc := c' }))
  simp (disch := first | exact Nat.le_of_ble_eq_true rfl | omega) only [AXR, AXB, J.dst, reduceIte, Nat.reduceEqDiff, Nat.reduceAdd, Nat.reduceMul, Nat.reduceLT, Nat.reduceLeDiff, B5.rd, eCV]
  have hne : ∀ k, ob a' = some k → k ≠ b1 ∧ k ≠ b2 := fun k hk => by have := hl3 k hk; omega
  have e34 : Ext h h3 := e12.trans e3
  refine hR { x with va := a', vn := c.vers.length, vc := c' } h5 ⟨S.key, S.locked, S.lock, rfl, ?_⟩ (u5.ext (u4.ext e34 (by omega)) (by omega))
  exact ((O3.mono e12.size).gr u4.gr (fun k hk => by have := (hne k hk).1; intro e; cases e; exact this rfl)).gr u5.gr (fun k hk => by have := (hne k hk).2; intro e; cases e; exact this rfl)

theorem all_ok {B : Nat → Prop} {a : Option Addr} {c : Nat} (cs : List Cell) (h : Heap) (S : SlC B h a cs) (hn : cs.length ≤ big) (F : ∀ c ∈ cs, c.vers.length ≤ big) {R : Value → Heap → Prop}
    (hR : ∀ a' c' h', OwnC h.size h' a' cs.length c' cs → Ext h h' → R (.slice a' cs.length c') h') : CallsH Try.prog 86 [.slice a cs.length c] h R := by
  have hbig : big = 1000000 := rfl
  refine f86ok (by simp) ?_
  simp (disch := first | exact Nat.le_of_ble_eq_true rfl | omega) only [AXR, AXB, J.dst, reduceIte, Nat.reduceEqDiff, Nat.reduceAdd, Nat.reduceMul, Nat.reduceLT, Nat.reduceLeDiff, f86r0, f86r1, f86r2, f86r3, f86r4, f86r5, f86r6, f86r7, f86c8_eq, f86c7_eq, f86c9_eq, f86c6_eq, f86c5_eq, f86c4_eq, f86c10_eq, f86c3_eq, f86c2_eq, f86c1_eq, f86c0_eq]
  refine loop_in (fun n σ h' => Ext h h' ∧ ∃ (k c' : Nat) (a' : Option Addr), k + n = cs.length ∧ OwnC h.size h' a' k c' (cs.take k) ∧ σ = [(3, .slice a' k c'), (6, .slice a cs.length c), (7, vi cs.length), (8, vi k)])
    cs.length ⟨Ext.refl _, 0, 0, none, by omega, OwnC.nil _ _, rfl⟩ ?_
  rintro n σ h' ⟨e1, k, c', a', hk, O, rfl⟩ Q' hnx hex hrt _
  simp (disch := first | exact Nat.le_of_ble_eq_true rfl | omega) only [AXR, AXB, J.dst, reduceIte, Nat.reduceEqDiff, Nat.reduceAdd, Nat.reduceMul, Nat.reduceLT, Nat.reduceLeDiff, f86r0, f86r1, f86r2, f86r3, f86r4, f86r5, f86r6, f86r7, f86c8_eq, f86c7_eq, f86c9_eq, f86c6_eq, f86c5_eq, f86c4_eq, f86c10_eq, f86c3_eq, f86c2_eq, f86c1_eq, f86c0_eq]
  refine ⟨fun h2 => ?_, fun h2 => ?_⟩
  · have hkl : k < cs.length := by have := of_decide_eq_true h2; omega
    obtain ⟨x, hx⟩ := get_ex hkl
    obtain ⟨b, o, v, rfl, _, hrow, hcr⟩ := (S.ext e1).elem hx
    simp (disch := first | exact Nat.le_of_ble_eq_true rfl | omega) only [AXR, AXB, J.dst, reduceIte, Nat.reduceEqDiff, Nat.reduceAdd, Nat.reduceMul, Nat.reduceLT, Nat.reduceLeDiff, f86r0, f86r1, f86r2, f86r3, f86r4, f86r5, f86r6, f86r7, f86c8_eq, f86c7_eq, f86c9_eq, f86c6_eq, f86c5_eq, f86c4_eq, f86c10_eq, f86c3_eq, f86c2_eq, f86c1_eq, f86c0_eq, row_cv hrow]
    refine ⟨by omega, by omega, ?_⟩
    refine wL_newN ?_; rintro b4 h4 e4 s4 hb4 B4
    refine wL_stN rfl rfl rfl B4 (by decide) (eCV_one v) ?_; rintro h5 u5 (B5 : Blk _ _ _ (eCV v))
    have e5 := u5.ext e4 (by omega)
    simp (disch := first | exact Nat.le_of_ble_eq_true rfl | omega) only [AXR, AXB, J.dst, reduceIte, Nat.reduceEqDiff, Nat.reduceAdd, Nat.reduceMul, Nat.reduceLT, Nat.reduceLeDiff, f86r0, f86r1, f86r2, f86r3, f86r4, f86r5, f86r6, f86r7, f86c8_eq, f86c7_eq, f86c9_eq, f86c6_eq, f86c5_eq, f86c4_eq, f86c10_eq, f86c3_eq, f86c2_eq, f86c1_eq, f86c0_eq, B5.rd, eCV]
    refine own_ok v x _ (hcr.ext e5) (F x (List.mem_of_getElem? hx)) ?_
    intro x' h6 O6 e6
    refine ⟨trivial, ?_⟩
    try simp (disch := first | exact Nat.le_of_ble_eq_true rfl | omega) only [AXR, AXB, J.dst, reduceIte, Nat.reduceEqDiff, Nat.reduceAdd, Nat.reduceMul, Nat.reduceLT, Nat.reduceLeDiff, f86r0, f86r1, f86r2, f86r3, f86r4, f86r5, f86r6, f86r7, f86c8_eq, f86c7_eq, f86c9_eq, f86c6_eq, f86c5_eq, f86c4_eq, f86c10_eq, f86c3_eq, f86c2_eq, f86c1_eq, f86c0_eq]
    generalize hh7 : h6.push (Obj.cells _ 103) = h7
    have e7 : Ext h6 h7 := hh7 ▸ (Ext.refl h6).push _
    have B7 : Blk h7 h6.size 103 (eCV x') := hh7 ▸ Blk.new h6 103 _
    have e57 := e6.trans e7
    have ea := e5.trans e57
    have O7 := O.ext ea
    have hO := O.row
    rw [wL_raw]
    refine raw_push rfl rfl rfl O7 B7 ((O6.ext e7).cr.to fun b hb => ⟨⟨?_, hb.2.1, ?_⟩, rfl⟩) (by omega) (Nat.le_trans e1.size ea.size) ?_
    · have := e1.size; have := e5.size; omega
    · intro e; have := hO b e.symm; have := e5.size; omega
    intro a8 c8 h8 O8 G8 A8
    refine ⟨trivial, ?_⟩
    simp (disch := first | exact Nat.le_of_ble_eq_true rfl | omega) only [AXR, AXB, J.dst, reduceIte, Nat.reduceEqDiff, Nat.reduceAdd, Nat.reduceMul, Nat.reduceLT, Nat.reduceLeDiff]
    rw [i64_wrap (by omega) (by omega)]
    refine hnx (n - 1) _ _ (by omega) ⟨G8.ext (e1.trans ea) (fun j hj => (hO j hj).1), k + 1, c8, a8, by omega, ?_, rfl⟩
    rw [List.take_add_one, hx]
    exact O8
  · have hkl : k = cs.length := by have := of_decide_eq_false h2; omega
    subst hkl
    refine hex _ _ ?_
    simp (disch := first | exact Nat.le_of_ble_eq_true rfl | omega) only [AXR, AXB, J.dst, reduceIte, Nat.reduceEqDiff, Nat.reduceAdd, Nat.reduceMul, Nat.reduceLT, Nat.reduceLeDiff]
    rw [List.take_length] at O
    exact hR _ _ _ O e1
end Go.Proofs.Ytefghfgmkndikaa
/-
  Walks: the reference's Copy.
-/
namespace Go.Proofs.Ytefghfgmkndikaa
open Go Go.AX

theorem one_sl (a : Option Addr) (n c : Nat) : ∀ v ∈ (Value.slice a n c).cells.toList, v.oneCell' = true := by
  intro v hv; simp only [cells_slice, List.mem_cons, List.not_mem_nil, or_false] at hv; subst hv; rfl

theorem copy_ok {B : Nat → Prop} {a : Option Addr} {c : Nat} (cs : List Cell) (h : Heap) (S : SlC B h a cs) (hn : cs.length ≤ big) (F : ∀ c ∈ cs, c.vers.length ≤ big) {R : Value → Heap → Prop}
    (hR : ∀ a' c' h', OwnC h.size h' a' cs.length c' cs → Ext h h' → R (.slice a' cs.length c') h') : CallsH Try.prog 48 [.slice a cs.length c] h R := by
  have hbig : big = 1000000 := rfl
  refine f48ok (by simp) ?_
  (try simp (disch := first | exact Nat.le_of_ble_eq_true rfl | omega) only [AXR, AXB, J.dst, reduceIte, Nat.reduceEqDiff, Nat.reduceAdd, Nat.reduceMul, Nat.reduceLT, Nat.reduceLeDiff]); rw [f48c0_eq]; (try simp (disch := first | exact Nat.le_of_ble_eq_true rfl | omega) only [AXR, AXB, J.dst, reduceIte, Nat.reduceEqDiff, Nat.reduceAdd, Nat.reduceMul, Nat.reduceLT, Nat.reduceLeDiff, f48r0, f48r1, f48r2, f48r3, f48r4, f48r5, f48r6, f48r7, f48r8]); rw [f48c1_eq]; (try simp (disch := first | exact Nat.le_of_ble_eq_true rfl | omega) only [AXR, AXB, J.dst, reduceIte, Nat.reduceEqDiff, Nat.reduceAdd, Nat.reduceMul, Nat.reduceLT, Nat.reduceLeDiff, f48r0, f48r1, f48r2, f48r3, f48r4, f48r5, f48r6, f48r7, f48r8]); rw [f48c2_eq]; (try simp (disch := first | exact Nat.le_of_ble_eq_true rfl | omega) only [AXR, AXB, J.dst, reduceIte, Nat.reduceEqDiff, Nat.reduceAdd, Nat.reduceMul, Nat.reduceLT, Nat.reduceLeDiff, f48r0, f48r1, f48r2, f48r3, f48r4, f48r5, f48r6, f48r7, f48r8])
  rw [f48c3_eq]
  refine loop_in (fun n σ h' => Ext h h' ∧ ∃ (k c' : Nat) (a' : Option Addr), k + n = cs.length ∧ OwnC h.size h' a' k c' (cs.take k) ∧ σ = [(0, .slice a cs.length c), (3, .slice a' k c'), (4, vi k)])
    cs.length ⟨Ext.refl _, 0, 0, none, by omega, OwnC.nil _ _, rfl⟩ ?_
  rintro n σ h' ⟨e1, k, c', a', hk, O, rfl⟩ Q' hnx hex hrt _
  (try simp (disch := first | exact Nat.le_of_ble_eq_true rfl | omega) only [AXR, AXB, J.dst, reduceIte, Nat.reduceEqDiff, Nat.reduceAdd, Nat.reduceMul, Nat.reduceLT, Nat.reduceLeDiff]); rw [f48c4_eq]; (try simp (disch := first | exact Nat.le_of_ble_eq_true rfl | omega) only [AXR, AXB, J.dst, reduceIte, Nat.reduceEqDiff, Nat.reduceAdd, Nat.reduceMul, Nat.reduceLT, Nat.reduceLeDiff, f48r0, f48r1, f48r2, f48r3, f48r4, f48r5, f48r6, f48r7, f48r8]); rw [f48c5_eq]; (try simp (disch := first | exact Nat.le_of_ble_eq_true rfl | omega) only [AXR, AXB, J.dst, reduceIte, Nat.reduceEqDiff, Nat.reduceAdd, Nat.reduceMul, Nat.reduceLT, Nat.reduceLeDiff, f48r0, f48r1, f48r2, f48r3, f48r4, f48r5, f48r6, f48r7, f48r8])
  refine ⟨fun h2 => ?_, fun h2 => ?_⟩
  · have hkl : k < cs.length := by have := of_decide_eq_true h2; omega
    obtain ⟨x, hx⟩ := get_ex hkl
    obtain ⟨b, o, v, rfl, _, hrow, hcr⟩ := (S.ext e1).elem hx
    rw [f48c6_eq]
    (try simp (disch := first | exact Nat.le_of_ble_eq_true rfl | omega) only [AXR, AXB, J.dst, reduceIte, Nat.reduceEqDiff, Nat.reduceAdd, Nat.reduceMul, Nat.reduceLT, Nat.reduceLeDiff]); rw [f48c7_eq]; (try simp (disch := first | exact Nat.le_of_ble_eq_true rfl | omega) only [AXR, AXB, J.dst, reduceIte, Nat.reduceEqDiff, Nat.reduceAdd, Nat.reduceMul, Nat.reduceLT, Nat.reduceLeDiff, f48r0, f48r1, f48r2, f48r3, f48r4, f48r5, f48r6, f48r7, f48r8, row_cv hrow])
    refine ⟨by omega, by omega, ?_⟩
    refine wL_newN ?_; rintro b4 h4 e4 s4 hb4 B4
    refine wL_stN rfl rfl rfl B4 (by decide) (eCV_one v) ?_; rintro h5 u5 (B5 : Blk _ _ _ (eCV v))
    have e5 := u5.ext e4 (by omega)
    (try simp (disch := first | exact Nat.le_of_ble_eq_true rfl | omega) only [AXR, AXB, J.dst, reduceIte, Nat.reduceEqDiff, Nat.reduceAdd, Nat.reduceMul, Nat.reduceLT, Nat.reduceLeDiff]); rw [f48c8_eq]; (try simp (disch := first | exact Nat.le_of_ble_eq_true rfl | omega) only [AXR, AXB, J.dst, reduceIte, Nat.reduceEqDiff, Nat.reduceAdd, Nat.reduceMul, Nat.reduceLT, Nat.reduceLeDiff, f48r0, f48r1, f48r2, f48r3, f48r4, f48r5, f48r6, f48r7, f48r8])
    refine wL_bslN rfl ?_; intro b6 h6 e6 s6 hb6 B6
    have B5 := B5.ext e6
    simp (disch := first | exact Nat.le_of_ble_eq_true rfl | omega) only [AXR, AXB, J.dst, reduceIte, Nat.reduceEqDiff, Nat.reduceAdd, Nat.reduceMul, Nat.reduceLT, Nat.reduceLeDiff, B5.cel, eCV, hcr.vn]
    rw [wL_raw]
    have O6 : Own h5.size h6 108 4 (some ⟨b6, 0, none⟩) 0 0 [] := Own.of_blk (by omega) B6 (by simp) (Nat.le_refl _) (Nat.zero_le _) (by simp)
    have hfl := flatMap_length eVer_len x.vers
    have hxn := F x (List.mem_of_getElem? hx)
    refine raw_append slT101 rfl rfl rfl O6 hfl ?_ (one_flatMap eVer_one x.vers) (by unfold maxLen; omega) (by omega) e6.size ?_
    · by_cases hv : x.vers = []
      · left; rw [hv]; rfl
      · obtain ⟨b', o', h1', _, h3⟩ := (hcr.vers.ext (e5.trans e6)) hv
        exact .inr ⟨b', o', h1', h3⟩
    intro a7 c7 h7 O7 G7 A7
    have e7 : Ext h5 h7 := G7.ext e6 (fun k hk => by cases hk; show h5.size ≤ b6; omega)
    refine ⟨trivial, ?_⟩
    simp only [Nat.zero_add, List.nil_append] at O7 ⊢
    try simp (disch := first | exact Nat.le_of_ble_eq_true rfl | omega) only [AXR, AXB, J.dst, reduceIte, Nat.reduceEqDiff, Nat.reduceAdd, Nat.reduceMul, Nat.reduceLT, Nat.reduceLeDiff]
    have hb7 := O7.ob
    have hs5 : b4 < h5.size := by have := u5.size; omega
    have B7 := G7.blk B5 (by intro e; have : b4 = b6 := by cases e; rfl
                             omega)
    refine wL_stN rfl rfl rfl B7 (by rw [eCV_len]; exact Nat.le_of_ble_eq_true rfl) (one_sl _ _ _) ?_
    rintro h8 u8 (B8 : Blk _ _ _ (eCV { v with va := a7, vn := x.vers.length, vc := c7 }))
    try simp (disch := first | exact Nat.le_of_ble_eq_true rfl | omega) only [AXR, AXB, J.dst, reduceIte, Nat.reduceEqDiff, Nat.reduceAdd, Nat.reduceMul, Nat.reduceLT, Nat.reduceLeDiff]
    (try simp (disch := first | exact Nat.le_of_ble_eq_true rfl | omega) only [AXR, AXB, J.dst, reduceIte, Nat.reduceEqDiff, Nat.reduceAdd, Nat.reduceMul, Nat.reduceLT, Nat.reduceLeDiff]); rw [f48c9_eq]; (try simp (disch := first | exact Nat.le_of_ble_eq_true rfl | omega) only [AXR, AXB, J.dst, reduceIte, Nat.reduceEqDiff, Nat.reduceAdd, Nat.reduceMul, Nat.reduceLT, Nat.reduceLeDiff, f48r0, f48r1, f48r2, f48r3, f48r4, f48r5, f48r6, f48r7, f48r8, B8.rd, eCV])
    refine wL_bslN rfl ?_; rintro b9 h9 e9 s9 hb9 (B9 : Blk _ _ _ (eCV { v with va := a7, vn := x.vers.length, vc := c7 }))
    try simp (disch := first | exact Nat.le_of_ble_eq_true rfl | omega) only [AXR, AXB, J.dst, reduceIte, Nat.reduceEqDiff, Nat.reduceAdd, Nat.reduceMul, Nat.reduceLT, Nat.reduceLeDiff]
    rw [wL_raw]
    have hO := O.row
    have e8 : Ext h' h8 := u8.ext (e5.trans e7) (by omega)
    have e59 : Ext h' h9 := e8.trans e9
    have O9 := (O7.gr u8.gr (fun j hj => by have := hb7 j hj; intro e; cases e; omega)).ext e9
    have O79 := O.ext e59
    have hz := e1.size
    have hz9 := e59.size
    have hz5 := e5.size
    have r9 : OC h5.size h9 { v with va := a7, vn := x.vers.length, vc := c7 } x := ⟨hcr.key, hcr.locked, hcr.lock, rfl, O9⟩
    refine raw_push rfl rfl rfl O79 B9 (r9.cr.to fun b hb => ⟨⟨?_, hb.2.1, ?_⟩, rfl⟩) (by omega) (by omega) ?_
    · omega
    · intro e; have := hO b e.symm; omega
    intro a8 c8 h10 O10 G10 A10
    refine ⟨trivial, ?_⟩
    try simp (disch := first | exact Nat.le_of_ble_eq_true rfl | omega) only [AXR, AXB, J.dst, reduceIte, Nat.reduceEqDiff, Nat.reduceAdd, Nat.reduceMul, Nat.reduceLT, Nat.reduceLeDiff]
    (try simp (disch := first | exact Nat.le_of_ble_eq_true rfl | omega) only [AXR, AXB, J.dst, reduceIte, Nat.reduceEqDiff, Nat.reduceAdd, Nat.reduceMul, Nat.reduceLT, Nat.reduceLeDiff]); rw [f48c10_eq]; (try simp (disch := first | exact Nat.le_of_ble_eq_true rfl | omega) only [AXR, AXB, J.dst, reduceIte, Nat.reduceEqDiff, Nat.reduceAdd, Nat.reduceMul, Nat.reduceLT, Nat.reduceLeDiff, f48r0, f48r1, f48r2, f48r3, f48r4, f48r5, f48r6, f48r7, f48r8])
    rw [i64_wrap (by omega) (by omega)]
    refine hnx (n - 1) _ _ (by omega) ⟨G10.ext (e1.trans e59) (fun j hj => (hO j hj).1), k + 1, c8, a8, by omega, ?_, rfl⟩
    rw [List.take_add_one, hx]
    exact O10
  · have hkl : k = cs.length := by have := of_decide_eq_false h2; omega
    subst hkl
    refine hex _ _ ?_
    (try simp (disch := first | exact Nat.le_of_ble_eq_true rfl | omega) only [AXR, AXB, J.dst, reduceIte, Nat.reduceEqDiff, Nat.reduceAdd, Nat.reduceMul, Nat.reduceLT, Nat.reduceLeDiff]); rw [f48c11_eq]; (try simp (disch := first | exact Nat.le_of_ble_eq_true rfl | omega) only [AXR, AXB, J.dst, reduceIte, Nat.reduceEqDiff, Nat.reduceAdd, Nat.reduceMul, Nat.reduceLT, Nat.reduceLeDiff, f48r0, f48r1, f48r2, f48r3, f48r4, f48r5, f48r6, f48r7, f48r8])
    rw [List.take_length] at O
    exact hR _ _ _ O e1
end Go.Proofs.Ytefghfgmkndikaa
/-
  Walks: put.
-/
namespace Go.AX
open Go
deriving instance DecidableEq for Lck, Pai, Ver
theorem eqA_stampB (neg : Bool) (s t : Stamp) : eqA neg [.i .i64, .i .i64] (.agg #[vi s.wall, vi s.tie]) (.agg #[vi t.wall, vi t.tie]) = some (.bool (if neg then !decide (s = t) else decide (s = t))) := by
  obtain ⟨a, b⟩ := s
  obtain ⟨c, d⟩ := t
  have : (a == c && b == d) = decide ((⟨a, b⟩ : Stamp) = ⟨c, d⟩) := by
    rw [Bool.eq_iff_iff]; simp
  simp only [eqA, eqKds, eqKd, and_self, if_true, Option.bind_some, Option.map_some, Bool.and_true, this]
theorem eqA_tryB (neg : Bool) (s t : Try4) : eqA neg [.i .i64, .i .i64, .i .i64, .i .i64] (.agg #[vi s.node, vi s.life, vi s.seq, vi s.attempt]) (.agg #[vi t.node, vi t.life, vi t.seq, vi t.attempt]) = some (.bool (if neg then !decide (s = t) else decide (s = t))) := by
  obtain ⟨a, b, c, d⟩ := s
  obtain ⟨e, f, g, i⟩ := t
  have : (a == e && (b == f && (c == g && d == i))) = decide ((⟨a, b, c, d⟩ : Try4) = ⟨e, f, g, i⟩) := by
    rw [Bool.eq_iff_iff]; simp
  simp only [eqA, eqKds, eqKd, and_self, if_true, Option.bind_some, Option.map_some, Bool.and_true, this]

theorem eqA_stamp (s t : Stamp) : eqA false [.i .i64, .i .i64] (.agg #[vi s.wall, vi s.tie]) (.agg #[vi t.wall, vi t.tie]) = some (.bool (decide (s = t))) := eqA_stampB false s t
theorem eqA_stampN (s t : Stamp) : eqA true [.i .i64, .i .i64] (.agg #[vi s.wall, vi s.tie]) (.agg #[vi t.wall, vi t.tie]) = some (.bool (!decide (s = t))) := eqA_stampB true s t
theorem eqA_try (s t : Try4) : eqA false [.i .i64, .i .i64, .i .i64, .i .i64] (.agg #[vi s.node, vi s.life, vi s.seq, vi s.attempt]) (.agg #[vi t.node, vi t.life, vi t.seq, vi t.attempt]) = some (.bool (decide (s = t))) := eqA_tryB false s t
theorem eqA_tryN (s t : Try4) : eqA true [.i .i64, .i .i64, .i .i64, .i .i64] (.agg #[vi s.node, vi s.life, vi s.seq, vi s.attempt]) (.agg #[vi t.node, vi t.life, vi t.seq, vi t.attempt]) = some (.bool (!decide (s = t))) := eqA_tryB true s t

/-- A version in its place. -/
def putV (vs : List Ver) (v : Ver) : List Ver :=
  if 0 ≤ lastV vs v.at_ ∧ (vs.getD (lastV vs v.at_).toNat default).at_ = v.at_ then vs.set (lastV vs v.at_).toNat v
  else vs.take (lastV vs v.at_ + 1).toNat ++ [v] ++ vs.drop (lastV vs v.at_ + 1).toNat

theorem flatMap_take {α : Type} {e : α → List Value} {s : Nat} (he : ∀ x, (e x).length = s) : ∀ (ds : List α) (i : Nat), (ds.flatMap e).take (i * s) = (ds.take i).flatMap e
  | [], i => by simp
  | d :: ds, 0 => by simp
  | d :: ds, i + 1 => by
    have e1 : (i + 1) * s = (e d).length + i * s := by rw [he, Nat.add_mul]; omega
    simp only [List.flatMap_cons, List.take_succ_cons]
    rw [e1, List.take_length_add_append, flatMap_take he ds i]
theorem flatMap_drop {α : Type} {e : α → List Value} {s : Nat} (he : ∀ x, (e x).length = s) : ∀ (ds : List α) (i : Nat), (ds.flatMap e).drop (i * s) = (ds.drop i).flatMap e
  | [], i => by simp
  | d :: ds, 0 => by simp
  | d :: ds, i + 1 => by
    have e1 : (i + 1) * s = (e d).length + i * s := by rw [he, Nat.add_mul]; omega
    simp only [List.flatMap_cons, List.drop_succ_cons]
    rw [e1, List.drop_length_add_append, flatMap_drop he ds i]

theorem putL_take : ∀ (vs l : List Value) (o m : Nat), o + vs.length ≤ m → (putL l o vs).take m = putL (l.take m) o vs
  | [], _, _, _, _ => rfl
  | v :: vs, l, o, m, h => by
    simp only [List.length_cons] at h
    simp only [putL]
    rw [putL_take vs _ _ _ (by omega), List.take_set]
theorem putL_append_left : ∀ (vs l m : List Value) (o : Nat), o + vs.length ≤ l.length → putL (l ++ m) o vs = putL l o vs ++ m
  | [], _, _, _, _ => rfl
  | v :: vs, l, m, o, h => by
    simp only [List.length_cons] at h
    simp only [putL]
    rw [List.set_append_left _ _ (by omega), putL_append_left vs _ _ _ (by rw [List.length_set]; omega)]
theorem putL_append_right : ∀ (vs l m : List Value) (o : Nat), putL (l ++ m) (l.length + o) vs = l ++ putL m o vs
  | [], _, _, _ => rfl
  | v :: vs, l, m, o => by
    simp only [putL]
    rw [List.set_append_right _ _ (by omega), Nat.add_sub_cancel_left, Nat.add_assoc, putL_append_right vs]
theorem flat_put {α : Type} {e : α → List Value} {s : Nat} (he : ∀ x, (e x).length = s) {vals : List Value} {off : Nat} {v v' : α} (hv : e v' = putL (e v) off vals) (hs : off + vals.length ≤ s) :
    ∀ (ds : List α) (i : Nat), ds[i]? = some v → putL (ds.flatMap e) (i * s + off) vals = (ds.set i v').flatMap e
  | [], i, h => by simp at h
  | d :: ds, 0, h => by
    simp at h; subst h
    simp only [List.flatMap_cons, List.set_cons_zero, Nat.zero_mul, Nat.zero_add]
    rw [putL_append_left _ _ _ _ (by rw [he]; exact hs), hv]
  | d :: ds, i + 1, h => by
    have e1 : (i + 1) * s + off = (e d).length + (i * s + off) := by rw [he, Nat.add_mul]; omega
    simp only [List.flatMap_cons, List.set_cons_succ]
    rw [e1, putL_append_right, flat_put he hv hs ds i (by simpa using h)]
theorem putL_all : ∀ (vs l : List Value), l.length = vs.length → putL l 0 vs = vs := by
  have key : ∀ (vs l p : List Value), l.length = vs.length → putL (p ++ l) p.length vs = p ++ vs := by
    intro vs
    induction vs with
    | nil => intro l p h; have : l = [] := List.eq_nil_of_length_eq_zero h
             subst this; rfl
    | cons v vs ih =>
      intro l p h
      cases l with
      | nil => simp at h
      | cons x l =>
        simp only [putL]
        rw [List.set_append_right _ _ (Nat.le_refl _), Nat.sub_self, List.set_cons_zero]
        have := ih l (p ++ [v]) (by simpa using h)
        simpa using this
  intro vs l h
  simpa using key vs l [] h

/-- An element of an own row is written anew, wholly or in part. -/
theorem Own.put {α : Type} {e : α → List Value} {s t lo : Nat} (he : ∀ x, (e x).length = s) {h h' : Heap} {a : Option Addr} {n c b : Nat} {ds : List α} {vals cur : List Value} {off i : Nat} {v v' : α}
    (O : Own lo h t s a n c (ds.flatMap e)) (hn : n = ds.length) (hi : ds[i]? = some v) (ha : AX.ob a = some b) (hcur : Blk h b t cur) (B' : Blk h' b t (putL cur (i * s + off) vals)) (hv : e v' = putL (e v) off vals) (hs : off + vals.length ≤ s) :
    Own lo h' t s a n c ((ds.set i v').flatMap e) := by
  have hil : i < ds.length := (List.getElem?_eq_some_iff.1 hi).1
  obtain ⟨hr1, hr2⟩ := O.room
  obtain ⟨g, cur', rfl, hg, G, hcl, hct⟩ := O.blk (by omega)
  cases ha
  have : cur = cur' := by
    unfold Blk at hcur G
    rw [hcur] at G
    simpa using G
  subst this
  have hle : i * s + s ≤ n * s := by rw [← Nat.succ_mul]; exact Nat.mul_le_mul_right _ (by omega)
  refine Own.of_blk hg B' (by rw [putL_length]; exact hcl) hr1 hr2 ?_
  rw [putL_take _ _ _ _ (by omega), hct, flat_put he hv hs ds i hi]
end Go.AX
namespace Go.Proofs.Ytefghfgmkndikaa
open Go Go.AX

theorem put_ok {lo : Nat} {a : Option Addr} {n c : Nat} (vs : List Ver) (v : Ver) (h : Heap) (O : Own lo h 108 4 a n c (vs.flatMap eVer)) (hnl : n = vs.length) (hn : vs.length ≤ big) (hlo : lo ≤ h.size) {R : Value → Heap → Prop}
    (hR : ∀ a' n' c' h', Own lo h' 108 4 a' n' c' ((putV vs v).flatMap eVer) → n' = (putV vs v).length → Gr (ob a) h h' → (ob a' = ob a ∨ ∃ k, ob a' = some k ∧ h.size ≤ k) → R (.slice a' n' c') h') :
    CallsH Try.prog 85 [.slice a n c, .agg (eVer v).toArray] h R := by
  have hbig : big = 1000000 := rfl
  subst hnl
  refine f85ok (by simp) ?_
  (try simp (disch := first | exact Nat.le_of_ble_eq_true rfl | omega) only [AXR, AXB, J.dst, reduceIte, Nat.reduceEqDiff, Nat.reduceAdd, Nat.reduceMul, Nat.reduceLT, Nat.reduceLeDiff]); rw [f85c0_eq]; (try simp (disch := first | exact Nat.le_of_ble_eq_true rfl | omega) only [AXR, AXB, J.dst, reduceIte, Nat.reduceEqDiff, Nat.reduceAdd, Nat.reduceMul, Nat.reduceLT, Nat.reduceLeDiff, f85r0, f85r1, f85r2, f85r3, f85r4, f85r5])
  refine wL_boxN rfl ?_; rintro b1 h1 e1 s1 hb1 (B1 : Blk _ _ _ (eVer v))
  (try simp (disch := first | exact Nat.le_of_ble_eq_true rfl | omega) only [AXR, AXB, J.dst, reduceIte, Nat.reduceEqDiff, Nat.reduceAdd, Nat.reduceMul, Nat.reduceLT, Nat.reduceLeDiff]); rw [f85c1_eq]; (try simp (disch := first | exact Nat.le_of_ble_eq_true rfl | omega) only [AXR, AXB, J.dst, reduceIte, Nat.reduceEqDiff, Nat.reduceAdd, Nat.reduceMul, Nat.reduceLT, Nat.reduceLeDiff, f85r0, f85r1, f85r2, f85r3, f85r4, f85r5, B1.rd, eVer])
  have O1 := O.ext e1
  refine last_ok vs v.at_ _ (SlF.of_own O1 rfl) (by unfold maxLen; omega) ?_
  intro h2 e2
  have O2 := O1.ext e2
  have B2 := B1.ext e2
  have hlv := lastV_le vs v.at_
  have hob := O.ob
  have e12 := e1.trans e2
  have hins : ¬ (0 ≤ lastV vs v.at_ ∧ (vs.getD (lastV vs v.at_).toNat default).at_ = v.at_) →
      wC Try.prog f85c3 (endW [Rs.tmp 4] R) [(0, .slice a vs.length c), (3, ptr b1 0), (5, vi (lastV vs v.at_)), (21, .bool false)] h2 := by
    intro hno
    obtain ⟨i, hi⟩ : ∃ i : Nat, lastV vs v.at_ + 1 = i := ⟨(lastV vs v.at_ + 1).toNat, by omega⟩
    have hp : putV vs v = vs.take i ++ [v] ++ vs.drop i := by
      unfold putV; rw [if_neg hno, hi]; rfl
    (try simp (disch := first | exact Nat.le_of_ble_eq_true rfl | omega) only [AXR, AXB, J.dst, reduceIte, Nat.reduceEqDiff, Nat.reduceAdd, Nat.reduceMul, Nat.reduceLT, Nat.reduceLeDiff]); rw [f85c3_eq]; (try simp (disch := first | exact Nat.le_of_ble_eq_true rfl | omega) only [AXR, AXB, J.dst, reduceIte, Nat.reduceEqDiff, Nat.reduceAdd, Nat.reduceMul, Nat.reduceLT, Nat.reduceLeDiff, f85r0, f85r1, f85r2, f85r3, f85r4, f85r5, B2.rd, eVer]); rw [f85c6_eq]; (try simp (disch := first | exact Nat.le_of_ble_eq_true rfl | omega) only [AXR, AXB, J.dst, reduceIte, Nat.reduceEqDiff, Nat.reduceAdd, Nat.reduceMul, Nat.reduceLT, Nat.reduceLeDiff, f85r0, f85r1, f85r2, f85r3, f85r4, f85r5, B2.rd, eVer])
    rw [i64_wrap (by omega) (by omega), hi]
    refine wL_bslN rfl ?_; rintro b3 h3 e3 s3 hb3 (B3 : Blk _ _ _ (eVer v))
    simp (disch := first | exact Nat.le_of_ble_eq_true rfl | omega) only [AXR, AXB, J.dst, reduceIte, Nat.reduceEqDiff, Nat.reduceAdd, Nat.reduceMul, Nat.reduceLT, Nat.reduceLeDiff]
    have O3 := O2.ext e3
    have e13 := e12.trans e3
    have hz := e13.size
    refine insV_ok _ O3 (by omega) (by omega) (by omega) B3 rfl (one_flatMap eVer_one vs) (eVer_one v) (.inr (fun e => by have := hob b3 e.symm; have := e12.size; omega)) (by unfold maxLen; omega) ?_
    intro a' c' h' O' G' A'
    try simp (disch := first | exact Nat.le_of_ble_eq_true rfl | omega) only [AXR, AXB, J.dst, reduceIte, Nat.reduceEqDiff, Nat.reduceAdd, Nat.reduceMul, Nat.reduceLT, Nat.reduceLeDiff]
    rw [flatMap_take eVer_len, flatMap_drop eVer_len] at O'
    refine hR a' (vs.length + 1) c' h' ?_ ?_ ?_ ?_
    · rw [hp, List.flatMap_append, List.flatMap_append]; simpa using O'
    · rw [hp]; simp; omega
    · exact ((e13.gr _)).trans G'
    · rcases A' with e | ⟨k, e, hk⟩
      · exact .inl e
      · exact .inr ⟨k, e, by omega⟩
  rw [f85c2_eq]
  refine drw_lt ?_
  simp (disch := first | exact Nat.le_of_ble_eq_true rfl | omega) only [AXR, AXB, J.dst, reduceIte, Nat.reduceEqDiff, Nat.reduceAdd, Nat.reduceMul, Nat.reduceLT, Nat.reduceLeDiff, f85r2]
  by_cases hpos : 0 ≤ lastV vs v.at_
  · obtain ⟨k, hk⟩ : ∃ k : Nat, lastV vs v.at_ = k := ⟨(lastV vs v.at_).toNat, by omega⟩
    rw [hk] at hins hlv ⊢
    obtain ⟨u, hu⟩ := get_ex (show k < vs.length by omega)
    obtain ⟨b, o, ha, _, hrow⟩ := (SlF.of_own O2 rfl).elem eVer_len hu
    rw [decide_eq_true (by omega), br_true]
    simp (disch := first | exact Nat.le_of_ble_eq_true rfl | omega) only [AXR, AXB, J.dst, reduceIte, Nat.reduceEqDiff, Nat.reduceAdd, Nat.reduceMul, Nat.reduceLT, Nat.reduceLeDiff, ha, row_ver hrow, B2.rd, eVer, eStamp, eqA_stamp]
    refine ⟨by omega, by omega, hrow.lt (by rw [eVer_len]; omega), B2.lt, ?_⟩
    rw [ha] at hins
    by_cases heq : u.at_ = v.at_
    · rw [decide_eq_true heq]
      have hp : putV vs v = vs.set k v := by
        unfold putV; rw [hk, if_pos ⟨by omega, by rw [Int.toNat_natCast, getD_of hu]; exact heq⟩]; rfl
      obtain ⟨hr1, hr2⟩ := O2.room
      obtain ⟨g, cur, ha', hg, G, hcl, hct⟩ := O2.blk (by omega)
      rw [ha] at ha'
      cases ha'
      (try simp (disch := first | exact Nat.le_of_ble_eq_true rfl | omega) only [AXR, AXB, J.dst, reduceIte, Nat.reduceEqDiff, Nat.reduceAdd, Nat.reduceMul, Nat.reduceLT, Nat.reduceLeDiff]); rw [f85c3_eq]; (try simp (disch := first | exact Nat.le_of_ble_eq_true rfl | omega) only [AXR, AXB, J.dst, reduceIte, Nat.reduceEqDiff, Nat.reduceAdd, Nat.reduceMul, Nat.reduceLT, Nat.reduceLeDiff, f85r0, f85r1, f85r2, f85r3, f85r4, f85r5, br_true])
      (try simp (disch := first | exact Nat.le_of_ble_eq_true rfl | omega) only [AXR, AXB, J.dst, reduceIte, Nat.reduceEqDiff, Nat.reduceAdd, Nat.reduceMul, Nat.reduceLT, Nat.reduceLeDiff]); rw [f85c4_eq]; (try simp (disch := first | exact Nat.le_of_ble_eq_true rfl | omega) only [AXR, AXB, J.dst, reduceIte, Nat.reduceEqDiff, Nat.reduceAdd, Nat.reduceMul, Nat.reduceLT, Nat.reduceLeDiff, f85r0, f85r1, f85r2, f85r3, f85r4, f85r5, B2.rd, eVer])
      refine ⟨by omega, by omega, ?_⟩
      refine wL_stN rfl rfl rfl G (by rw [hcl]; omega) (eVer_one v) ?_
      intro h3 u3 B3
      try simp (disch := first | exact Nat.le_of_ble_eq_true rfl | omega) only [AXR, AXB, J.dst, reduceIte, Nat.reduceEqDiff, Nat.reduceAdd, Nat.reduceMul, Nat.reduceLT, Nat.reduceLeDiff]
      (try simp (disch := first | exact Nat.le_of_ble_eq_true rfl | omega) only [AXR, AXB, J.dst, reduceIte, Nat.reduceEqDiff, Nat.reduceAdd, Nat.reduceMul, Nat.reduceLT, Nat.reduceLeDiff]); rw [f85c5_eq]; (try simp (disch := first | exact Nat.le_of_ble_eq_true rfl | omega) only [AXR, AXB, J.dst, reduceIte, Nat.reduceEqDiff, Nat.reduceAdd, Nat.reduceMul, Nat.reduceLT, Nat.reduceLeDiff, f85r0, f85r1, f85r2, f85r3, f85r4, f85r5])
      refine hR (some ⟨b, 0, none⟩) vs.length c h3 ?_ (by rw [hp]; simp) ((e12.gr _).trans ?_) (.inl (by rw [ha]))
      · rw [hp, ← ha]
        exact O2.put eVer_len (off := 0) (vals := eVer v) rfl hu (by rw [ha]; rfl) G (by rw [Nat.zero_add] at B3; exact B3) (putL_all _ _ rfl).symm (by rw [eVer_len]; omega)
      · rw [ha]; exact u3.gr
    · rw [decide_eq_false heq]
      exact hins (fun h => heq (by have := h.2; rwa [Int.toNat_natCast, getD_of hu] at this))
  · rw [decide_eq_false (by omega), br_false]
    exact hins (fun h => hpos h.1)
end Go.Proofs.Ytefghfgmkndikaa
/-
  Walks: Lock.
-/
namespace Go.AX
open Go
/-- The lock that is laid. -/
def lkW (w : Wri) (l : Lck) : Lck := { l with drop := w.drop, data := if w.drop then noB else w.data }
def lockL (cs : List Cell) (w : Wri) (l : Lck) : List Cell :=
  if hasK cs w.key then cs.set (lbK cs w.key) { cs.getD (lbK cs w.key) default with locked := true, lock := lkW w l }
  else cs.take (lbK cs w.key) ++ [⟨w.key, [], true, lkW w l⟩] ++ cs.drop (lbK cs w.key)

theorem All2.set {α β : Type} {R : α → β → Prop} : ∀ {l : List α} {m : List β} {i : Nat} {a : α} {b : β}, All2 R l m → R a b → All2 R (l.set i a) (m.set i b)
  | _, _, _, _, _, .nil, _ => .nil
  | _, _, 0, _, _, .cons _ t, h => .cons h t
  | _, _, i + 1, _, _, .cons r t, h => .cons r (t.set h)
theorem All2.take {α β : Type} {R : α → β → Prop} : ∀ {l : List α} {m : List β} (i : Nat), All2 R l m → All2 R (l.take i) (m.take i)
  | _, _, 0, _ => by simp only [List.take_zero]; exact .nil
  | _, _, i + 1, .nil => by simp only [List.take_nil]; exact .nil
  | _, _, i + 1, .cons r t => .cons r (t.take i)
theorem All2.drop {α β : Type} {R : α → β → Prop} : ∀ {l : List α} {m : List β} (i : Nat), All2 R l m → All2 R (l.drop i) (m.drop i)
  | _, _, 0, t => t
  | _, _, i + 1, .nil => .nil
  | _, _, i + 1, .cons _ t => t.drop i

theorem cellTo {lo : Nat} {h h' : Heap} {a a' : Option Addr} (G : Gr (ob a) h h') (A : ob a' = ob a ∨ ∃ k, ob a' = some k ∧ h.size ≤ k) :
    ∀ b, (lo ≤ b ∧ b < h.size ∧ some b ≠ ob a) → (lo ≤ b ∧ b < h'.size ∧ some b ≠ ob a') ∧ h'[b]? = h[b]? := by
  rintro b ⟨b1, b2, b3⟩
  refine ⟨⟨b1, Nat.lt_of_lt_of_le b2 G.size, ?_⟩, G.at_ b b2 b3⟩
  rcases A with e | ⟨k, e, hk⟩
  · rw [e]; exact b3
  · rw [e]; intro e'; cases e'; omega
theorem eCV_lock (v : CV) (l : Lck) : eCV { v with locked := true, lock := l } = putL (putL (eCV v) 2 [.bool true]) 3 (eLck l) := rfl
end Go.AX
namespace Go.Proofs.Ytefghfgmkndikaa
open Go Go.AX

theorem one_lck (l : Lck) : ∀ v ∈ eLck l, v.oneCell' = true := by
  intro v hv; simp only [eLck, List.mem_cons, List.not_mem_nil, or_false] at hv
  rcases hv with rfl | rfl | rfl | rfl | rfl | rfl | rfl | rfl | rfl <;> rfl
theorem one_b (b : Bool) : ∀ v ∈ (Value.bool b).cells.toList, v.oneCell' = true := by
  intro v hv; simp only [cells_bool, List.mem_cons, List.not_mem_nil, or_false] at hv; subst hv; rfl
theorem one_s (b : ByteArray) : ∀ v ∈ (Value.string b).cells.toList, v.oneCell' = true := by
  intro v hv; simp only [cells_string, List.mem_cons, List.not_mem_nil, or_false] at hv; subst hv; rfl

theorem lock_ok {B : Nat → Prop} {a : Option Addr} {c : Nat} (cs : List Cell) (w : Wri) (l : Lck) (h : Heap) (S : SlC B h a cs) (hs : Sorted cs) (hn : cs.length < big) (F : ∀ c ∈ cs, c.vers.length ≤ big) {R : Value → Heap → Prop}
    (hR : ∀ a' n' c' h', OwnC h.size h' a' n' c' (lockL cs w l) → Ext h h' → R (.slice a' n' c') h') : CallsH Try.prog 40 [.slice a cs.length c, .agg (eWri w).toArray, .agg (eLck l).toArray] h R := by
  have hbig : big = 1000000 := rfl
  refine f40ok (by simp) ?_
  (try simp (disch := first | exact Nat.le_of_ble_eq_true rfl | omega) only [AXR, AXB, J.dst, reduceIte, Nat.reduceEqDiff, Nat.reduceAdd, Nat.reduceMul, Nat.reduceLT, Nat.reduceLeDiff]); rw [f40c0_eq]; (try simp (disch := first | exact Nat.le_of_ble_eq_true rfl | omega) only [AXR, AXB, J.dst, reduceIte, Nat.reduceEqDiff, Nat.reduceAdd, Nat.reduceMul, Nat.reduceLT, Nat.reduceLeDiff, f40r0, f40r1, f40r2, f40r3, f40r4, f40r5, f40r6, f40r7, f40r8, f40r9])
  refine wL_boxN rfl ?_; rintro b1 h1 e1 s1 hb1 (B1 : Blk _ _ _ (eWri w))
  refine wL_boxN rfl ?_; rintro b2 h2 e2 s2 hb2 (B2 : Blk _ _ _ (eLck l))
  have hl1 := B1.lt
  replace B1 := B1.ext e2
  have hne : b1 ≠ b2 := by omega
  (try simp (disch := first | exact Nat.le_of_ble_eq_true rfl | omega) only [AXR, AXB, J.dst, reduceIte, Nat.reduceEqDiff, Nat.reduceAdd, Nat.reduceMul, Nat.reduceLT, Nat.reduceLeDiff]); rw [f40c1_eq]; (try simp (disch := first | exact Nat.le_of_ble_eq_true rfl | omega) only [AXR, AXB, J.dst, reduceIte, Nat.reduceEqDiff, Nat.reduceAdd, Nat.reduceMul, Nat.reduceLT, Nat.reduceLeDiff, f40r0, f40r1, f40r2, f40r3, f40r4, f40r5, f40r6, f40r7, f40r8, f40r9])
  refine ⟨fun b => b < h2.size ∧ b ≠ b2, fun b hb => hb.1, ?_⟩
  simp (disch := first | exact Nat.le_of_ble_eq_true rfl | omega) only [AXR, AXB, J.dst, reduceIte, Nat.reduceEqDiff, Nat.reduceAdd, Nat.reduceMul, Nat.reduceLT, Nat.reduceLeDiff, f40r1, B1.cel, eWri]
  refine ⟨⟨by omega, hne⟩, ⟨by omega, hne⟩, ?_⟩
  refine wL_stD rfl rfl (fun h => h.2 rfl) rfl B2 (Nat.le_of_ble_eq_true rfl) (one_b _) ?_
  intro h3 u3 B3
  simp (disch := first | exact Nat.le_of_ble_eq_true rfl | omega) only [AXR, AXB, J.dst, reduceIte, Nat.reduceEqDiff, Nat.reduceAdd, Nat.reduceMul, Nat.reduceLT, Nat.reduceLeDiff]
  refine wL_stD rfl rfl (fun h => h.2 rfl) rfl B3 (Nat.le_of_ble_eq_true rfl) (one_s _) ?_
  rintro h4 u4 (B4 : Blk _ _ _ (eLck { l with drop := w.drop, data := w.data }))
  have B14 := u4.blk (u3.blk B1 hne) hne
  have e4 : Ext h h4 := u4.ext (u3.ext (e1.trans e2) (by omega)) (by omega)
  try simp (disch := first | exact Nat.le_of_ble_eq_true rfl | omega) only [AXR, AXB, J.dst, reduceIte, Nat.reduceEqDiff, Nat.reduceAdd, Nat.reduceMul, Nat.reduceLT, Nat.reduceLeDiff]
  have rest : ∀ (h5 : Heap) (τ : Env), Ext h h5 → b2 < h5.size → Blk h5 b1 70 (eWri w) → Blk h5 b2 72 (eLck (lkW w l)) → wC Try.prog f40c5 (endW [Rs.tmp 6] R) ((0, .slice a cs.length c) :: (4, ptr b1 0) :: (5, ptr b2 0) :: τ) h5 := by
    intro h5 τ e5 hb5 B1 B2
    (try simp (disch := first | exact Nat.le_of_ble_eq_true rfl | omega) only [AXR, AXB, J.dst, reduceIte, Nat.reduceEqDiff, Nat.reduceAdd, Nat.reduceMul, Nat.reduceLT, Nat.reduceLeDiff]); rw [f40c5_eq]; (try simp (disch := first | exact Nat.le_of_ble_eq_true rfl | omega) only [AXR, AXB, J.dst, reduceIte, Nat.reduceEqDiff, Nat.reduceAdd, Nat.reduceMul, Nat.reduceLT, Nat.reduceLeDiff, f40r0, f40r1, f40r2, f40r3, f40r4, f40r5, f40r6, f40r7, f40r8, f40r9])
    refine all_ok cs _ (S.ext e5) (by omega) F ?_
    intro a6 c6 h6 O6 e6
    try simp (disch := first | exact Nat.le_of_ble_eq_true rfl | omega) only [AXR, AXB, J.dst, reduceIte, Nat.reduceEqDiff, Nat.reduceAdd, Nat.reduceMul, Nat.reduceLT, Nat.reduceLeDiff]
    replace B1 := B1.ext e6
    replace B2 := B2.ext e6
    (try simp (disch := first | exact Nat.le_of_ble_eq_true rfl | omega) only [AXR, AXB, J.dst, reduceIte, Nat.reduceEqDiff, Nat.reduceAdd, Nat.reduceMul, Nat.reduceLT, Nat.reduceLeDiff]); rw [f40c6_eq]; (try simp (disch := first | exact Nat.le_of_ble_eq_true rfl | omega) only [AXR, AXB, J.dst, reduceIte, Nat.reduceEqDiff, Nat.reduceAdd, Nat.reduceMul, Nat.reduceLT, Nat.reduceLeDiff, f40r0, f40r1, f40r2, f40r3, f40r4, f40r5, f40r6, f40r7, f40r8, f40r9, B1.cel, eWri])
    refine find_ok cs w.key _ O6.slc hs (by unfold maxLen; omega) ?_
    intro h7 e7
    try simp (disch := first | exact Nat.le_of_ble_eq_true rfl | omega) only [AXR, AXB, J.dst, reduceIte, Nat.reduceEqDiff, Nat.reduceAdd, Nat.reduceMul, Nat.reduceLT, Nat.reduceLeDiff]
    replace B1 := B1.ext e7
    replace B2 := B2.ext e7
    have O7 := (O6.ext e7)
    have e57 := e5.trans (e6.trans e7)
    have hlb := lbK_le cs w.key
    -- the last part
    have fin : ∀ (h8 : Heap) (τ : Env) (a8 : Option Addr) (n8 c8 : Nat) (ds : List Cell) (x : Cell), Ext h h8 → OwnC h5.size h8 a8 n8 c8 ds → ds[lbK cs w.key]? = some x → Blk h8 b2 72 (eLck (lkW w l)) →
        ds.set (lbK cs w.key) { x with locked := true, lock := lkW w l } = lockL cs w l → wC Try.prog f40c10 (endW [Rs.tmp 6] R) ((5, ptr b2 0) :: (7, .slice a8 n8 c8) :: (8, vi (lbK cs w.key)) :: τ) h8 := by
      intro h8 τ a8 n8 c8 ds x e8 O8 hx B8 hres
      obtain ⟨vs, h1, h2, h3⟩ := O8
      have hxl := (List.getElem?_eq_some_iff.1 hx).1
      obtain ⟨v, hv, hcr⟩ := h3.get hx
      obtain ⟨hr1, hr2⟩ := h1.room
      obtain ⟨g, cur, rfl, hg, G, hcl, hct⟩ := h1.blk (by omega)
      have hgb : g ≠ b2 := by omega
      have hle : lbK cs w.key * 12 + 12 ≤ c8 * 12 := by omega
      rw [f40c10_eq]
      refine ⟨fun b => b < h8.size ∧ b ≠ g, fun b hb => hb.1, ?_⟩
      simp (disch := first | exact Nat.le_of_ble_eq_true rfl | omega) only [AXR, AXB, J.dst, reduceIte, Nat.reduceEqDiff, Nat.reduceAdd, Nat.reduceMul, Nat.reduceLT, Nat.reduceLeDiff, f40r8, B8.rd, eLck]
      refine ⟨⟨B8.lt, fun e => hgb e.symm⟩, by omega, by omega, ?_⟩
      refine wL_stD rfl rfl (fun h => h.2 rfl) rfl G (by rw [hcl]; omega) (one_b _) ?_
      intro h9 u9 B9
      simp (disch := first | exact Nat.le_of_ble_eq_true rfl | omega) only [AXR, AXB, J.dst, reduceIte, Nat.reduceEqDiff, Nat.reduceAdd, Nat.reduceMul, Nat.reduceLT, Nat.reduceLeDiff]
      refine ⟨by omega, by omega, ?_⟩
      refine wL_stD rfl rfl (fun h => h.2 rfl) rfl B9 (by rw [putL_length, hcl]; omega) (one_lck (lkW w l)) ?_
      intro h10 u10 B10
      try simp (disch := first | exact Nat.le_of_ble_eq_true rfl | omega) only [AXR, AXB, J.dst, reduceIte, Nat.reduceEqDiff, Nat.reduceAdd, Nat.reduceMul, Nat.reduceLT, Nat.reduceLeDiff]
      (try simp (disch := first | exact Nat.le_of_ble_eq_true rfl | omega) only [AXR, AXB, J.dst, reduceIte, Nat.reduceEqDiff, Nat.reduceAdd, Nat.reduceMul, Nat.reduceLT, Nat.reduceLeDiff]); rw [f40c11_eq]; (try simp (disch := first | exact Nat.le_of_ble_eq_true rfl | omega) only [AXR, AXB, J.dst, reduceIte, Nat.reduceEqDiff, Nat.reduceAdd, Nat.reduceMul, Nat.reduceLT, Nat.reduceLeDiff, f40r0, f40r1, f40r2, f40r3, f40r4, f40r5, f40r6, f40r7, f40r8, f40r9])
      have hu : Upd g h8 h10 := ⟨by rw [u10.size, u9.size], fun k hk => (u10.ne k hk).trans (u9.ne k hk)⟩
      have hgh : h.size ≤ g := Nat.le_trans e5.size hg
      refine hR _ _ _ _ ⟨vs.set (lbK cs w.key) { v with locked := true, lock := lkW w l }, ?_, ?_, ?_⟩ (hu.ext e8 hgh)
      · simp only [Nat.zero_add] at B9 B10
        have hvl : vs[lbK cs w.key]? = some v := hv
        have P1 := h1.put (h' := h9) eCV_len (by rw [h2, h3.length]) hvl rfl G (off := 2) (vals := [.bool true]) (v' := { v with locked := true }) (by exact B9) rfl (by simp)
        have P2 := P1.put (h' := h10) eCV_len (by rw [List.length_set, h2, h3.length]) (i := lbK cs w.key) (v := { v with locked := true }) (by rw [List.getElem?_set_self (by rw [h3.length]; exact hxl)]) rfl B9 (off := 3) (vals := eLck (lkW w l))
          (v' := { v with locked := true, lock := lkW w l }) (by exact B10) rfl (by simp [eLck])
        rw [List.set_set] at P2
        exact P2.mono e5.size
      · rw [← hres, List.length_set]; exact h2
      · rw [← hres]
        have hto : ∀ b, (h5.size ≤ b ∧ b < h8.size ∧ some b ≠ ob (some (⟨g, 0, none⟩ : Addr))) → (h.size ≤ b ∧ b < h10.size ∧ some b ≠ ob (some (⟨g, 0, none⟩ : Addr))) ∧ h10[b]? = h8[b]? := by
          rintro b ⟨b1, b2, b3⟩
          exact ⟨⟨Nat.le_trans e5.size b1, by rw [hu.size]; exact b2, b3⟩, hu.ne b (fun e => b3 (by rw [e]; rfl))⟩
        have r := hcr.to hto
        exact (h3.imp fun _ _ r => r.to hto).set ⟨r.key, rfl, rfl, r.vn, r.cap, r.vers⟩
    (try simp (disch := first | exact Nat.le_of_ble_eq_true rfl | omega) only [AXR, AXB, J.dst, reduceIte, Nat.reduceEqDiff, Nat.reduceAdd, Nat.reduceMul, Nat.reduceLT, Nat.reduceLeDiff]); rw [f40c7_eq]; (try simp (disch := first | exact Nat.le_of_ble_eq_true rfl | omega) only [AXR, AXB, J.dst, reduceIte, Nat.reduceEqDiff, Nat.reduceAdd, Nat.reduceMul, Nat.reduceLT, Nat.reduceLeDiff, f40r0, f40r1, f40r2, f40r3, f40r4, f40r5, f40r6, f40r7, f40r8, f40r9]); rw [f40c8_eq]; (try simp (disch := first | exact Nat.le_of_ble_eq_true rfl | omega) only [AXR, AXB, J.dst, reduceIte, Nat.reduceEqDiff, Nat.reduceAdd, Nat.reduceMul, Nat.reduceLT, Nat.reduceLeDiff, f40r0, f40r1, f40r2, f40r3, f40r4, f40r5, f40r6, f40r7, f40r8, f40r9])
    refine ⟨fun hh => ?_, fun hh => ?_⟩
    · have hno : hasK cs w.key = false := by simpa using hh
      (try simp (disch := first | exact Nat.le_of_ble_eq_true rfl | omega) only [AXR, AXB, J.dst, reduceIte, Nat.reduceEqDiff, Nat.reduceAdd, Nat.reduceMul, Nat.reduceLT, Nat.reduceLeDiff]); rw [f40c9_eq]; (try simp (disch := first | exact Nat.le_of_ble_eq_true rfl | omega) only [AXR, AXB, J.dst, reduceIte, Nat.reduceEqDiff, Nat.reduceAdd, Nat.reduceMul, Nat.reduceLT, Nat.reduceLeDiff, f40r0, f40r1, f40r2, f40r3, f40r4, f40r5, f40r6, f40r7, f40r8, f40r9, B1.cel, eWri])
      refine wL_bslN rfl ?_; rintro b8 h8 e8 s8 hb8 (B8 : Blk _ _ _ (eCV ⟨w.key, none, 0, 0, false, noLock⟩))
      try simp (disch := first | exact Nat.le_of_ble_eq_true rfl | omega) only [AXR, AXB, J.dst, reduceIte, Nat.reduceEqDiff, Nat.reduceAdd, Nat.reduceMul, Nat.reduceLT, Nat.reduceLeDiff]
      obtain ⟨vs, h1, h2, h3⟩ := O7.ext e8
      have hob := h1.ob
      have hob7 := O7.row
      have hz := e57.size
      have hz8 := e8.size
      have hz67 := (e6.trans e7).size
      have hfl := flatMap_length eCV_len vs
      refine insC_ok _ h1 (by omega) hlb (by omega) B8 rfl (one_flatMap eCV_one vs) (eCV_one _) (.inr (fun e => by have := hob7 b8 e.symm; omega)) (by unfold maxLen; omega) ?_
      intro a9 c9 h9 O9 G9 A9
      try simp (disch := first | exact Nat.le_of_ble_eq_true rfl | omega) only [AXR, AXB, J.dst, reduceIte, Nat.reduceEqDiff, Nat.reduceAdd, Nat.reduceMul, Nat.reduceLT, Nat.reduceLeDiff]
      rw [flatMap_take eCV_len, flatMap_drop eCV_len] at O9
      have e9 : Ext h h9 := G9.ext (e57.trans e8) (fun k hk => by have := hob k hk; have := e5.size; omega)
      have hb2 := B2.lt
      have B29 : Blk h9 b2 72 (eLck (lkW w l)) := G9.blk (B2.ext e8) (fun e => by have := hob b2 e.symm; omega)
      have hto := cellTo (lo := h5.size) G9 A9
      refine fin h9 _ a9 (cs.length + 1) c9 (cs.take (lbK cs w.key) ++ [⟨w.key, [], false, noLock⟩] ++ cs.drop (lbK cs w.key)) ⟨w.key, [], false, noLock⟩ e9 ⟨vs.take (lbK cs w.key) ++ [⟨w.key, none, 0, 0, false, noLock⟩] ++ vs.drop (lbK cs w.key), ?_, ?_, ?_⟩ ?_ B29 ?_
      · rw [List.flatMap_append, List.flatMap_append]; simpa using O9
      · simp; omega
      · have h3' := h3.imp fun _ _ r => r.to hto
        exact ((h3'.take _).append (.cons ⟨rfl, rfl, rfl, rfl, Nat.le_refl _, SlF.nil⟩ .nil)).append (h3'.drop _)
      · rw [List.append_assoc, List.getElem?_append_right (by simp; omega)]
        simp [Nat.min_eq_left hlb]
      · unfold lockL
        rw [if_neg (by simp [hno])]
        rw [List.append_assoc, List.set_append_right _ _ (by simp; omega)]
        simp [Nat.min_eq_left hlb]
    · have hyes : hasK cs w.key = true := by simpa using hh
      have hx : ∃ x, cs[lbK cs w.key]? = some x := by
        unfold hasK at hyes
        split at hyes
        · exact ⟨_, by assumption⟩
        · cases hyes
      obtain ⟨x, hx⟩ := hx
      refine fin h7 _ _ _ _ cs x e57 O7 hx B2 ?_
      unfold lockL
      rw [if_pos hyes, getD_of hx]
  (try simp (disch := first | exact Nat.le_of_ble_eq_true rfl | omega) only [AXR, AXB, J.dst, reduceIte, Nat.reduceEqDiff, Nat.reduceAdd, Nat.reduceMul, Nat.reduceLT, Nat.reduceLeDiff]); rw [f40c2_eq]; (try simp (disch := first | exact Nat.le_of_ble_eq_true rfl | omega) only [AXR, AXB, J.dst, reduceIte, Nat.reduceEqDiff, Nat.reduceAdd, Nat.reduceMul, Nat.reduceLT, Nat.reduceLeDiff, f40r0, f40r1, f40r2, f40r3, f40r4, f40r5, f40r6, f40r7, f40r8, f40r9, B14.cel, eWri]); rw [f40c3_eq]; (try simp (disch := first | exact Nat.le_of_ble_eq_true rfl | omega) only [AXR, AXB, J.dst, reduceIte, Nat.reduceEqDiff, Nat.reduceAdd, Nat.reduceMul, Nat.reduceLT, Nat.reduceLeDiff, f40r0, f40r1, f40r2, f40r3, f40r4, f40r5, f40r6, f40r7, f40r8, f40r9, B14.cel, eWri])
  refine ⟨fun hd => ?_, fun hd => ?_⟩
  · (try simp (disch := first | exact Nat.le_of_ble_eq_true rfl | omega) only [AXR, AXB, J.dst, reduceIte, Nat.reduceEqDiff, Nat.reduceAdd, Nat.reduceMul, Nat.reduceLT, Nat.reduceLeDiff]); rw [f40c4_eq]; (try simp (disch := first | exact Nat.le_of_ble_eq_true rfl | omega) only [AXR, AXB, J.dst, reduceIte, Nat.reduceEqDiff, Nat.reduceAdd, Nat.reduceMul, Nat.reduceLT, Nat.reduceLeDiff, f40r0, f40r1, f40r2, f40r3, f40r4, f40r5, f40r6, f40r7, f40r8, f40r9])
    refine wL_stN rfl rfl rfl B4 (Nat.le_of_ble_eq_true rfl) (one_s _) ?_
    rintro h5 u5 (B5 : Blk _ _ _ (eLck { l with drop := w.drop, data := noB }))
    try simp (disch := first | exact Nat.le_of_ble_eq_true rfl | omega) only [AXR, AXB, J.dst, reduceIte, Nat.reduceEqDiff, Nat.reduceAdd, Nat.reduceMul, Nat.reduceLT, Nat.reduceLeDiff]
    refine rest h5 _ (u5.ext e4 (by omega)) (B5.lt) (u5.blk B14 hne) ?_
    have : lkW w l = { l with drop := w.drop, data := noB } := by simp [lkW, hd]
    rw [this]; exact B5
  · refine rest h4 _ e4 B4.lt B14 ?_
    have : lkW w l = { l with drop := w.drop, data := w.data } := by simp [lkW, hd]
    rw [this]; exact B4
end Go.Proofs.Ytefghfgmkndikaa
/-
  Walks: Settle.
-/
namespace Go.AX
open Go
/-- What is left of a cell that may go. -/
def leftC (c : Cell) : Option Cell := if c.locked || decide (c.vers ≠ []) then some c else none
def verL (l : Lck) : Ver := ⟨l.at_, l.drop, l.data⟩
def settleC (by_ : Try4) (yes : Bool) (c : Cell) : Cell :=
  if c.locked && decide (c.lock.by_ = by_) then ⟨c.key, if yes then putV c.vers (verL c.lock) else c.vers, false, noLock⟩ else c
def settleL (cs : List Cell) (by_ : Try4) (yes : Bool) : List Cell := cs.filterMap fun c => leftC (settleC by_ yes c)
theorem OC.box {lo : Nat} {h h' : Heap} {b : Nat} {v : CV} {c : Cell} (r : OC lo h v c) (u : Upd b h h') (hb : b < lo) : OC lo h' v c :=
  ⟨r.key, r.locked, r.lock, r.vn, r.vers.gr u.gr (fun k hk => by have := r.vers.ob k hk; intro e; cases e; omega)⟩
theorem OwnC.mono {lo lo' : Nat} {h : Heap} {a : Option Addr} {n c : Nat} {cs : List Cell} (O : OwnC lo h a n c cs) (hl : lo' ≤ lo) : OwnC lo' h a n c cs := by
  obtain ⟨vs, h1, h2, h3⟩ := O
  exact ⟨vs, h1.mono hl, h2, h3.imp fun _ _ r => r.imp fun b hb => ⟨Nat.le_trans hl hb.1, hb.2⟩⟩
theorem vers_pos (c : Cell) {n : Nat} (hn : n = c.vers.length) : decide ((n : Int) > 0) = decide (c.vers ≠ []) := by
  subst hn
  cases c.vers with
  | nil => rfl
  | cons a l => simp
end Go.AX
namespace Go.Proofs.Ytefghfgmkndikaa
open Go Go.AX

theorem settle_ok {B : Nat → Prop} {a : Option Addr} {c : Nat} (cs : List Cell) (by_ : Try4) (yes : Bool) (h : Heap) (S : SlC B h a cs) (hn : cs.length ≤ big) (F : ∀ c ∈ cs, c.vers.length < big) {R : Value → Heap → Prop}
    (hR : ∀ a' n' c' h', OwnC h.size h' a' n' c' (settleL cs by_ yes) → Ext h h' → R (.slice a' n' c') h') : CallsH Try.prog 39 [.slice a cs.length c, .agg (eTry by_).toArray, .bool yes] h R := by
  have hbig : big = 1000000 := rfl
  refine f39ok (by simp) ?_
  (try simp (disch := first | exact Nat.le_of_ble_eq_true rfl | omega) only [AXR, AXB, J.dst, reduceIte, Nat.reduceEqDiff, Nat.reduceAdd, Nat.reduceMul, Nat.reduceLT, Nat.reduceLeDiff]); rw [f39c0_eq]; (try simp (disch := first | exact Nat.le_of_ble_eq_true rfl | omega) only [AXR, AXB, J.dst, reduceIte, Nat.reduceEqDiff, Nat.reduceAdd, Nat.reduceMul, Nat.reduceLT, Nat.reduceLeDiff, f39r0, f39r1, f39r2, f39r3, f39r4, f39r5, f39r6, f39r7, f39r8, f39r9, f39r10, f39r11, f39r12, f39r13])
  refine wL_boxN rfl ?_; rintro b1 h1 e1 s1 hb1 (B1 : Blk _ _ _ (eTry by_))
  (try simp (disch := first | exact Nat.le_of_ble_eq_true rfl | omega) only [AXR, AXB, J.dst, reduceIte, Nat.reduceEqDiff, Nat.reduceAdd, Nat.reduceMul, Nat.reduceLT, Nat.reduceLeDiff]); rw [f39c1_eq]; (try simp (disch := first | exact Nat.le_of_ble_eq_true rfl | omega) only [AXR, AXB, J.dst, reduceIte, Nat.reduceEqDiff, Nat.reduceAdd, Nat.reduceMul, Nat.reduceLT, Nat.reduceLeDiff, f39r0, f39r1, f39r2, f39r3, f39r4, f39r5, f39r6, f39r7, f39r8, f39r9, f39r10, f39r11, f39r12, f39r13]); rw [f39c2_eq]; (try simp (disch := first | exact Nat.le_of_ble_eq_true rfl | omega) only [AXR, AXB, J.dst, reduceIte, Nat.reduceEqDiff, Nat.reduceAdd, Nat.reduceMul, Nat.reduceLT, Nat.reduceLeDiff, f39r0, f39r1, f39r2, f39r3, f39r4, f39r5, f39r6, f39r7, f39r8, f39r9, f39r10, f39r11, f39r12, f39r13])
  rw [f39c3_eq]
  refine loop_in (fun n σ h' => Ext h1 h' ∧ ∃ (k m c' : Nat) (a' : Option Addr), k + n = cs.length ∧ m ≤ k ∧ OwnC h1.size h' a' m c' ((cs.take k).filterMap fun c => leftC (settleC by_ yes c)) ∧
      σ = [(2, .bool yes), (4, ptr b1 0), (7, .slice a' m c'), (10, .slice a cs.length c), (11, vi cs.length), (12, vi k)])
    cs.length ⟨Ext.refl _, 0, 0, 0, none, by omega, by omega, OwnC.nil _ _, rfl⟩ ?_
  rintro n σ h' ⟨e2, k, m, c', a', hk, hm, O, rfl⟩ Q' hnx hex hrt _
  have eh := e1.trans e2
  (try simp (disch := first | exact Nat.le_of_ble_eq_true rfl | omega) only [AXR, AXB, J.dst, reduceIte, Nat.reduceEqDiff, Nat.reduceAdd, Nat.reduceMul, Nat.reduceLT, Nat.reduceLeDiff]); rw [f39c4_eq]; (try simp (disch := first | exact Nat.le_of_ble_eq_true rfl | omega) only [AXR, AXB, J.dst, reduceIte, Nat.reduceEqDiff, Nat.reduceAdd, Nat.reduceMul, Nat.reduceLT, Nat.reduceLeDiff, f39r0, f39r1, f39r2, f39r3, f39r4, f39r5, f39r6, f39r7, f39r8, f39r9, f39r10, f39r11, f39r12, f39r13]); rw [f39c5_eq]; (try simp (disch := first | exact Nat.le_of_ble_eq_true rfl | omega) only [AXR, AXB, J.dst, reduceIte, Nat.reduceEqDiff, Nat.reduceAdd, Nat.reduceMul, Nat.reduceLT, Nat.reduceLeDiff, f39r0, f39r1, f39r2, f39r3, f39r4, f39r5, f39r6, f39r7, f39r8, f39r9, f39r10, f39r11, f39r12, f39r13])
  refine ⟨fun h2 => ?_, fun h2 => ?_⟩
  · have hkl : k < cs.length := by have := of_decide_eq_true h2; omega
    obtain ⟨x, hx⟩ := get_ex hkl
    obtain ⟨b, o, v, rfl, _, hrow, hcr⟩ := (S.ext eh).elem hx
    have hxF := F x (List.mem_of_getElem? hx)
    rw [f39c6_eq]
    (try simp (disch := first | exact Nat.le_of_ble_eq_true rfl | omega) only [AXR, AXB, J.dst, reduceIte, Nat.reduceEqDiff, Nat.reduceAdd, Nat.reduceMul, Nat.reduceLT, Nat.reduceLeDiff]); rw [f39c7_eq]; (try simp (disch := first | exact Nat.le_of_ble_eq_true rfl | omega) only [AXR, AXB, J.dst, reduceIte, Nat.reduceEqDiff, Nat.reduceAdd, Nat.reduceMul, Nat.reduceLT, Nat.reduceLeDiff, f39r0, f39r1, f39r2, f39r3, f39r4, f39r5, f39r6, f39r7, f39r8, f39r9, f39r10, f39r11, f39r12, f39r13, row_cv hrow])
    refine ⟨by omega, by omega, ?_⟩
    refine wL_newN ?_; rintro b4 h4 e4 s4 hb4 B4
    refine wL_stN rfl rfl rfl B4 (by decide) (eCV_one v) ?_; rintro h5 u5 (B5 : Blk _ _ _ (eCV v))
    have e5 := u5.ext e4 (by omega)
    (try simp (disch := first | exact Nat.le_of_ble_eq_true rfl | omega) only [AXR, AXB, J.dst, reduceIte, Nat.reduceEqDiff, Nat.reduceAdd, Nat.reduceMul, Nat.reduceLT, Nat.reduceLeDiff]); rw [f39c8_eq]; (try simp (disch := first | exact Nat.le_of_ble_eq_true rfl | omega) only [AXR, AXB, J.dst, reduceIte, Nat.reduceEqDiff, Nat.reduceAdd, Nat.reduceMul, Nat.reduceLT, Nat.reduceLeDiff, f39r0, f39r1, f39r2, f39r3, f39r4, f39r5, f39r6, f39r7, f39r8, f39r9, f39r10, f39r11, f39r12, f39r13, B5.rd, eCV])
    refine own_ok v x _ (hcr.ext e5) (by omega) ?_
    intro x' h6 O6 e6
    try simp (disch := first | exact Nat.le_of_ble_eq_true rfl | omega) only [AXR, AXB, J.dst, reduceIte, Nat.reduceEqDiff, Nat.reduceAdd, Nat.reduceMul, Nat.reduceLT, Nat.reduceLeDiff]
    have hb45 := B5.lt
    replace B5 := B5.ext e6
    refine wL_stN rfl rfl rfl B5 (by rw [eCV_len]; exact Nat.le_of_ble_eq_true rfl) (eCV_one x') ?_; rintro h7 u7 (B7 : Blk _ _ _ (eCV x'))
    try simp (disch := first | exact Nat.le_of_ble_eq_true rfl | omega) only [AXR, AXB, J.dst, reduceIte, Nat.reduceEqDiff, Nat.reduceAdd, Nat.reduceMul, Nat.reduceLT, Nat.reduceLeDiff]
    have O7 := O6.box u7 hb45
    have e7 : Ext h' h7 := u7.ext (e5.trans e6) (by omega)
    have hO := O.row
    have hs1 := B1.lt
    have hse := eh.size
    have hs2 := e2.size
    have hs5 := e5.size
    -- what is left is appended
    have app : ∀ (h8 : Heap) (τ : Env) (v8 : CV) (c8 : Cell), Ext h' h8 → Blk h8 b4 103 (eCV v8) → OC h5.size h8 v8 c8 → c8 = settleC by_ yes x →
        wC Try.prog f39c15 (X.inBlock 1 (X.then (fun σ h => wC Try.prog f39c18 Q' σ h) Q')) ((2, .bool yes) :: (4, ptr b1 0) :: (7, .slice a' m c') :: (9, ptr b4 0) :: (10, .slice (some ⟨b, o, none⟩) cs.length c) :: (11, vi cs.length) :: (12, vi k) :: τ) h8 := by
      intro h8 τ v8 c8 e8 B8 O8 hres
      have hw : IntKind.i64.wrap ((k : Int) + 1) = ((k + 1 : Nat) : Int) := i64_wrap (by omega) (by omega)
      have hskip : leftC c8 = none → ∀ τ, wC Try.prog f39c16 (X.inBlock 1 (X.then (fun σ h => wC Try.prog f39c18 Q' σ h) Q')) ((2, .bool yes) :: (4, ptr b1 0) :: (7, .slice a' m c') :: (9, ptr b4 0) :: (10, .slice (some ⟨b, o, none⟩) cs.length c) :: (11, vi cs.length) :: (12, vi k) :: (52, .bool false) :: τ) h8 := by
        intro hl τ
        (try simp (disch := first | exact Nat.le_of_ble_eq_true rfl | omega) only [AXR, AXB, J.dst, reduceIte, Nat.reduceEqDiff, Nat.reduceAdd, Nat.reduceMul, Nat.reduceLT, Nat.reduceLeDiff]); rw [f39c16_eq]; (try simp (disch := first | exact Nat.le_of_ble_eq_true rfl | omega) only [AXR, AXB, J.dst, reduceIte, Nat.reduceEqDiff, Nat.reduceAdd, Nat.reduceMul, Nat.reduceLT, Nat.reduceLeDiff, f39r0, f39r1, f39r2, f39r3, f39r4, f39r5, f39r6, f39r7, f39r8, f39r9, f39r10, f39r11, f39r12, f39r13, br_false])
        (try simp (disch := first | exact Nat.le_of_ble_eq_true rfl | omega) only [AXR, AXB, J.dst, reduceIte, Nat.reduceEqDiff, Nat.reduceAdd, Nat.reduceMul, Nat.reduceLT, Nat.reduceLeDiff]); rw [f39c18_eq]; (try simp (disch := first | exact Nat.le_of_ble_eq_true rfl | omega) only [AXR, AXB, J.dst, reduceIte, Nat.reduceEqDiff, Nat.reduceAdd, Nat.reduceMul, Nat.reduceLT, Nat.reduceLeDiff, f39r0, f39r1, f39r2, f39r3, f39r4, f39r5, f39r6, f39r7, f39r8, f39r9, f39r10, f39r11, f39r12, f39r13, hw])
        refine hnx (n - 1) _ _ (by omega) ⟨e2.trans e8, k + 1, m, c', a', by omega, by omega, ?_, rfl⟩
        rw [List.take_add_one, hx, List.filterMap_append]
        simp only [Option.toList, List.filterMap_cons, List.filterMap_nil, ← hres, hl, List.append_nil]
        exact O.ext e8
      have hkeep : leftC c8 = some c8 → ∀ τ, wC Try.prog f39c16 (X.inBlock 1 (X.then (fun σ h => wC Try.prog f39c18 Q' σ h) Q')) ((2, .bool yes) :: (4, ptr b1 0) :: (7, .slice a' m c') :: (9, ptr b4 0) :: (10, .slice (some ⟨b, o, none⟩) cs.length c) :: (11, vi cs.length) :: (12, vi k) :: (52, .bool true) :: τ) h8 := by
        intro hl τ
        (try simp (disch := first | exact Nat.le_of_ble_eq_true rfl | omega) only [AXR, AXB, J.dst, reduceIte, Nat.reduceEqDiff, Nat.reduceAdd, Nat.reduceMul, Nat.reduceLT, Nat.reduceLeDiff]); rw [f39c16_eq]; (try simp (disch := first | exact Nat.le_of_ble_eq_true rfl | omega) only [AXR, AXB, J.dst, reduceIte, Nat.reduceEqDiff, Nat.reduceAdd, Nat.reduceMul, Nat.reduceLT, Nat.reduceLeDiff, f39r0, f39r1, f39r2, f39r3, f39r4, f39r5, f39r6, f39r7, f39r8, f39r9, f39r10, f39r11, f39r12, f39r13, br_true])
        (try simp (disch := first | exact Nat.le_of_ble_eq_true rfl | omega) only [AXR, AXB, J.dst, reduceIte, Nat.reduceEqDiff, Nat.reduceAdd, Nat.reduceMul, Nat.reduceLT, Nat.reduceLeDiff]); rw [f39c17_eq]; (try simp (disch := first | exact Nat.le_of_ble_eq_true rfl | omega) only [AXR, AXB, J.dst, reduceIte, Nat.reduceEqDiff, Nat.reduceAdd, Nat.reduceMul, Nat.reduceLT, Nat.reduceLeDiff, f39r0, f39r1, f39r2, f39r3, f39r4, f39r5, f39r6, f39r7, f39r8, f39r9, f39r10, f39r11, f39r12, f39r13, B8.rd, eCV])
        refine wL_bslN rfl ?_; rintro b9 h9 e9 s9 hb9 (B9 : Blk _ _ _ (eCV v8))
        try simp (disch := first | exact Nat.le_of_ble_eq_true rfl | omega) only [AXR, AXB, J.dst, reduceIte, Nat.reduceEqDiff, Nat.reduceAdd, Nat.reduceMul, Nat.reduceLT, Nat.reduceLeDiff]
        rw [wL_raw]
        have e89 := e8.trans e9
        have hs89 := e89.size
        refine raw_push rfl rfl rfl (O.ext e89) B9 ((O8.ext e9).cr.to fun b hb => ⟨⟨?_, hb.2.1, ?_⟩, rfl⟩) (by omega) (by omega) ?_
        · omega
        · intro e; have := hO b e.symm; omega
        intro a10 c10 h10 O10 G10 A10
        refine ⟨trivial, ?_⟩
        try simp (disch := first | exact Nat.le_of_ble_eq_true rfl | omega) only [AXR, AXB, J.dst, reduceIte, Nat.reduceEqDiff, Nat.reduceAdd, Nat.reduceMul, Nat.reduceLT, Nat.reduceLeDiff]
        (try simp (disch := first | exact Nat.le_of_ble_eq_true rfl | omega) only [AXR, AXB, J.dst, reduceIte, Nat.reduceEqDiff, Nat.reduceAdd, Nat.reduceMul, Nat.reduceLT, Nat.reduceLeDiff]); rw [f39c18_eq]; (try simp (disch := first | exact Nat.le_of_ble_eq_true rfl | omega) only [AXR, AXB, J.dst, reduceIte, Nat.reduceEqDiff, Nat.reduceAdd, Nat.reduceMul, Nat.reduceLT, Nat.reduceLeDiff, f39r0, f39r1, f39r2, f39r3, f39r4, f39r5, f39r6, f39r7, f39r8, f39r9, f39r10, f39r11, f39r12, f39r13, hw])
        refine hnx (n - 1) _ _ (by omega) ⟨G10.ext (e2.trans e89) (fun j hj => (hO j hj).1), k + 1, m + 1, c10, a10, by omega, by omega, ?_, rfl⟩
        rw [List.take_add_one, hx, List.filterMap_append]
        simp only [Option.toList, List.filterMap_cons, List.filterMap_nil, ← hres, hl]
        exact O10
      (try simp (disch := first | exact Nat.le_of_ble_eq_true rfl | omega) only [AXR, AXB, J.dst, reduceIte, Nat.reduceEqDiff, Nat.reduceAdd, Nat.reduceMul, Nat.reduceLT, Nat.reduceLeDiff]); rw [f39c15_eq]; (try simp (disch := first | exact Nat.le_of_ble_eq_true rfl | omega) only [AXR, AXB, J.dst, reduceIte, Nat.reduceEqDiff, Nat.reduceAdd, Nat.reduceMul, Nat.reduceLT, Nat.reduceLeDiff, f39r0, f39r1, f39r2, f39r3, f39r4, f39r5, f39r6, f39r7, f39r8, f39r9, f39r10, f39r11, f39r12, f39r13, B8.cel, eCV])
      have hlk := O8.locked
      rw [vers_pos c8 O8.vn, hlk]
      refine ⟨fun hl => hkeep (by simp [leftC, hl]) [], fun hl => ?_⟩
      by_cases hv : c8.vers = []
      · rw [decide_eq_false (by simp [hv])]
        exact hskip (by simp [leftC, hl, hv]) []
      · rw [decide_eq_true hv]
        exact hkeep (by simp [leftC, hv]) []
    -- the lock is taken away
    have clr : ∀ (h8 : Heap) (τ : Env) (v8 : CV) (c8 : Cell), Ext h' h8 → Blk h8 b4 103 (eCV v8) → OC h5.size h8 v8 c8 → (⟨c8.key, c8.vers, false, noLock⟩ : Cell) = settleC by_ yes x →
        wC Try.prog f39c14 (X.then (fun σ h => wC Try.prog f39c15 (X.inBlock 1 (X.then (fun σ h => wC Try.prog f39c18 Q' σ h) Q')) σ h) (X.inBlock 1 (X.then (fun σ h => wC Try.prog f39c18 Q' σ h) Q')))
          ((2, .bool yes) :: (4, ptr b1 0) :: (7, .slice a' m c') :: (9, ptr b4 0) :: (10, .slice (some ⟨b, o, none⟩) cs.length c) :: (11, vi cs.length) :: (12, vi k) :: τ) h8 := by
      intro h8 τ v8 c8 e8 B8 O8 hres
      (try simp (disch := first | exact Nat.le_of_ble_eq_true rfl | omega) only [AXR, AXB, J.dst, reduceIte, Nat.reduceEqDiff, Nat.reduceAdd, Nat.reduceMul, Nat.reduceLT, Nat.reduceLeDiff]); rw [f39c14_eq]; (try simp (disch := first | exact Nat.le_of_ble_eq_true rfl | omega) only [AXR, AXB, J.dst, reduceIte, Nat.reduceEqDiff, Nat.reduceAdd, Nat.reduceMul, Nat.reduceLT, Nat.reduceLeDiff, f39r0, f39r1, f39r2, f39r3, f39r4, f39r5, f39r6, f39r7, f39r8, f39r9, f39r10, f39r11, f39r12, f39r13])
      refine wL_stN rfl rfl rfl B8 (by rw [eCV_len]; exact Nat.le_of_ble_eq_true rfl) (one_b _) ?_
      rintro h9 u9 B9
      try simp (disch := first | exact Nat.le_of_ble_eq_true rfl | omega) only [AXR, AXB, J.dst, reduceIte, Nat.reduceEqDiff, Nat.reduceAdd, Nat.reduceMul, Nat.reduceLT, Nat.reduceLeDiff]
      refine wL_stN rfl rfl rfl B9 (by rw [putL_length, eCV_len]; exact Nat.le_of_ble_eq_true rfl) (one_lck noLock) ?_
      rintro h10 u10 (B10 : Blk _ _ _ (eCV { v8 with locked := false, lock := noLock }))
      try simp (disch := first | exact Nat.le_of_ble_eq_true rfl | omega) only [AXR, AXB, J.dst, reduceIte, Nat.reduceEqDiff, Nat.reduceAdd, Nat.reduceMul, Nat.reduceLT, Nat.reduceLeDiff]
      have O10 := (O8.box u9 hb45).box u10 hb45
      exact app h10 [] { v8 with locked := false, lock := noLock } ⟨c8.key, c8.vers, false, noLock⟩ (u10.ext (u9.ext e8 (by omega)) (by omega)) B10 ⟨O8.key, rfl, rfl, O8.vn, O10.vers⟩ hres
    have B17 : Blk h7 b1 37 (eTry by_) := B1.ext (e2.trans e7)
    (try simp (disch := first | exact Nat.le_of_ble_eq_true rfl | omega) only [AXR, AXB, J.dst, reduceIte, Nat.reduceEqDiff, Nat.reduceAdd, Nat.reduceMul, Nat.reduceLT, Nat.reduceLeDiff]); rw [f39c9_eq]; (try simp (disch := first | exact Nat.le_of_ble_eq_true rfl | omega) only [AXR, AXB, J.dst, reduceIte, Nat.reduceEqDiff, Nat.reduceAdd, Nat.reduceMul, Nat.reduceLT, Nat.reduceLeDiff, f39r0, f39r1, f39r2, f39r3, f39r4, f39r5, f39r6, f39r7, f39r8, f39r9, f39r10, f39r11, f39r12, f39r13, B7.cel, B7.rd, B17.rd, eCV, eTry, eqA_try, O7.locked, O7.lock])
    have hno : (x.locked && decide (x.lock.by_ = by_)) = false → wC Try.prog f39c10 (X.inBlock 1 (X.then (fun σ h => wC Try.prog f39c18 Q' σ h) Q'))
      [(2, .bool yes), (4, ptr b1 0), (7, .slice a' m c'), (9, ptr b4 0), (10, .slice (some ⟨b, o, none⟩) cs.length c), (11, vi cs.length), (12, vi k), (26, .bool false)] h7 := by
      intro hf
      (try simp (disch := first | exact Nat.le_of_ble_eq_true rfl | omega) only [AXR, AXB, J.dst, reduceIte, Nat.reduceEqDiff, Nat.reduceAdd, Nat.reduceMul, Nat.reduceLT, Nat.reduceLeDiff]); rw [f39c10_eq]; (try simp (disch := first | exact Nat.le_of_ble_eq_true rfl | omega) only [AXR, AXB, J.dst, reduceIte, Nat.reduceEqDiff, Nat.reduceAdd, Nat.reduceMul, Nat.reduceLT, Nat.reduceLeDiff, f39r0, f39r1, f39r2, f39r3, f39r4, f39r5, f39r6, f39r7, f39r8, f39r9, f39r10, f39r11, f39r12, f39r13, br_false])
      exact app h7 [(26, .bool false)] x' x e7 B7 O7 (by unfold settleC; rw [if_neg (by simp [hf])])
    refine ⟨fun hl => ?_, fun hl => hno (by simp [hl])⟩
    by_cases hby : x.lock.by_ = by_
    · rw [decide_eq_true hby]
      have hset : settleC by_ yes x = ⟨x.key, if yes then putV x.vers (verL x.lock) else x.vers, false, noLock⟩ := by
        unfold settleC; rw [if_pos (by simp [hl, hby])]
      (try simp (disch := first | exact Nat.le_of_ble_eq_true rfl | omega) only [AXR, AXB, J.dst, reduceIte, Nat.reduceEqDiff, Nat.reduceAdd, Nat.reduceMul, Nat.reduceLT, Nat.reduceLeDiff]); rw [f39c10_eq]; (try simp (disch := first | exact Nat.le_of_ble_eq_true rfl | omega) only [AXR, AXB, J.dst, reduceIte, Nat.reduceEqDiff, Nat.reduceAdd, Nat.reduceMul, Nat.reduceLT, Nat.reduceLeDiff, f39r0, f39r1, f39r2, f39r3, f39r4, f39r5, f39r6, f39r7, f39r8, f39r9, f39r10, f39r11, f39r12, f39r13, br_true])
      (try simp (disch := first | exact Nat.le_of_ble_eq_true rfl | omega) only [AXR, AXB, J.dst, reduceIte, Nat.reduceEqDiff, Nat.reduceAdd, Nat.reduceMul, Nat.reduceLT, Nat.reduceLeDiff]); rw [f39c11_eq]; (try simp (disch := first | exact Nat.le_of_ble_eq_true rfl | omega) only [AXR, AXB, J.dst, reduceIte, Nat.reduceEqDiff, Nat.reduceAdd, Nat.reduceMul, Nat.reduceLT, Nat.reduceLeDiff, f39r0, f39r1, f39r2, f39r3, f39r4, f39r5, f39r6, f39r7, f39r8, f39r9, f39r10, f39r11, f39r12, f39r13]); rw [f39c12_eq]; (try simp (disch := first | exact Nat.le_of_ble_eq_true rfl | omega) only [AXR, AXB, J.dst, reduceIte, Nat.reduceEqDiff, Nat.reduceAdd, Nat.reduceMul, Nat.reduceLT, Nat.reduceLeDiff, f39r0, f39r1, f39r2, f39r3, f39r4, f39r5, f39r6, f39r7, f39r8, f39r9, f39r10, f39r11, f39r12, f39r13])
      refine ⟨fun hy => ?_, fun hy => ?_⟩
      · (try simp (disch := first | exact Nat.le_of_ble_eq_true rfl | omega) only [AXR, AXB, J.dst, reduceIte, Nat.reduceEqDiff, Nat.reduceAdd, Nat.reduceMul, Nat.reduceLT, Nat.reduceLeDiff]); rw [f39c13_eq]; (try simp (disch := first | exact Nat.le_of_ble_eq_true rfl | omega) only [AXR, AXB, J.dst, reduceIte, Nat.reduceEqDiff, Nat.reduceAdd, Nat.reduceMul, Nat.reduceLT, Nat.reduceLeDiff, f39r0, f39r1, f39r2, f39r3, f39r4, f39r5, f39r6, f39r7, f39r8, f39r9, f39r10, f39r11, f39r12, f39r13, B7.cel, B7.rd, eCV, O7.lock])
        have hO7 := O7.vers.ob
        refine put_ok (lo := h5.size) x.vers (verL x.lock) _ O7.vers O7.vn (by omega) (by have := u7.size; have := e6.size; omega) ?_
        intro a8 n8 c8 h8 O8 hn8 G8 A8
        try simp (disch := first | exact Nat.le_of_ble_eq_true rfl | omega) only [AXR, AXB, J.dst, reduceIte, Nat.reduceEqDiff, Nat.reduceAdd, Nat.reduceMul, Nat.reduceLT, Nat.reduceLeDiff]
        have B8 := G8.blk B7 (fun e => by have := hO7 b4 e.symm; omega)
        have e8 : Ext h' h8 := G8.ext e7 (fun j hj => by have := hO7 j hj; omega)
        have hO8 := O8.ob
        refine wL_stN rfl rfl rfl B8 (by rw [eCV_len]; exact Nat.le_of_ble_eq_true rfl) (one_sl _ _ _) ?_
        rintro h9 u9 (B9 : Blk _ _ _ (eCV { x' with va := a8, vn := n8, vc := c8 }))
        try simp (disch := first | exact Nat.le_of_ble_eq_true rfl | omega) only [AXR, AXB, J.dst, reduceIte, Nat.reduceEqDiff, Nat.reduceAdd, Nat.reduceMul, Nat.reduceLT, Nat.reduceLeDiff]
        have O9 := O8.gr u9.gr (fun j hj => by have := hO8 j hj; intro e; cases e; omega)
        exact clr h9 [] { x' with va := a8, vn := n8, vc := c8 } ⟨x.key, putV x.vers (verL x.lock), x.locked, x.lock⟩ (u9.ext e8 (by omega)) B9 ⟨O7.key, O7.locked, O7.lock, hn8, O9⟩ (by rw [hset, hy]; rfl)
      · try simp (disch := first | exact Nat.le_of_ble_eq_true rfl | omega) only [AXR, AXB, J.dst, reduceIte, Nat.reduceEqDiff, Nat.reduceAdd, Nat.reduceMul, Nat.reduceLT, Nat.reduceLeDiff]
        exact clr h7 _ x' x e7 B7 O7 (by rw [hset, hy]; rfl)
    · rw [decide_eq_false hby]
      exact hno (by simp [hby])
  · have hkl : k = cs.length := by have := of_decide_eq_false h2; omega
    subst hkl
    refine hex _ _ ?_
    (try simp (disch := first | exact Nat.le_of_ble_eq_true rfl | omega) only [AXR, AXB, J.dst, reduceIte, Nat.reduceEqDiff, Nat.reduceAdd, Nat.reduceMul, Nat.reduceLT, Nat.reduceLeDiff]); rw [f39c19_eq]; (try simp (disch := first | exact Nat.le_of_ble_eq_true rfl | omega) only [AXR, AXB, J.dst, reduceIte, Nat.reduceEqDiff, Nat.reduceAdd, Nat.reduceMul, Nat.reduceLT, Nat.reduceLeDiff, f39r0, f39r1, f39r2, f39r3, f39r4, f39r5, f39r6, f39r7, f39r8, f39r9, f39r10, f39r11, f39r12, f39r13])
    rw [List.take_length] at O
    exact hR _ _ _ _ (O.mono e1.size) eh
end Go.Proofs.Ytefghfgmkndikaa
/-
  Walks: Trim.
-/
namespace Go.AX
open Go
/-- How many versions a trim takes away. -/
def cutV (vs : List Ver) (below : Stamp) : Nat :=
  if lastV vs below < 0 then 0 else if (vs.getD (lastV vs below).toNat default).drop then (lastV vs below).toNat + 1 else (lastV vs below).toNat
def trimC (below : Stamp) (c : Cell) : Cell := { c with vers := c.vers.drop (cutV c.vers below) }
def trimL (cs : List Cell) (below : Stamp) : List Cell := cs.filterMap fun c => leftC (trimC below c)
theorem cutV_le (vs : List Ver) (t : Stamp) : cutV vs t ≤ vs.length := by
  have := lastV_le vs t
  unfold cutV
  split
  · omega
  · split <;> omega
theorem SlF.of_drop {lo : Nat} {h : Heap} {a a' : Option Addr} {n c : Nat} {vs : List Ver} (O : Own lo h 108 4 a n c (vs.flatMap eVer)) (hn : n = vs.length) {l : Nat} (ha : l < c → a' = a.map (·.add (l * 4))) :
    SlF (fun b => lo ≤ b ∧ b < h.size ∧ ob a = some b) h eVer a' (vs.drop l) := by
  intro hne
  have hlt : l < vs.length := by
    rcases Nat.lt_or_ge l vs.length with h | h
    · exact h
    · exact absurd (List.drop_of_length_le h) hne
  obtain ⟨hr1, _⟩ := O.room
  obtain ⟨g, rfl, hg, hrow⟩ := O.row (by omega)
  refine ⟨g, l * 4, by rw [ha (by omega), Option.map_some, add_mk, Nat.zero_add], ⟨hg, (O.ob g rfl).2, rfl⟩, ?_⟩
  have := hrow.sub (l * 4) ((vs.flatMap eVer).length - l * 4)
  rw [List.take_of_length_le (by rw [List.length_drop]; omega), flatMap_drop eVer_len, Nat.zero_add] at this
  exact this
end Go.AX
namespace Go.Proofs.Ytefghfgmkndikaa
open Go Go.AX

theorem trim_ok {B : Nat → Prop} {a : Option Addr} {c : Nat} (cs : List Cell) (below : Stamp) (h : Heap) (S : SlC B h a cs) (hn : cs.length ≤ big) (F : ∀ c ∈ cs, c.vers.length < big) {R : Value → Heap → Prop}
    (hR : ∀ a' n' c' h', OwnC h.size h' a' n' c' (trimL cs below) → Ext h h' → R (.slice a' n' c') h') : CallsH Try.prog 46 [.slice a cs.length c, .agg (eStamp below).toArray] h R := by
  have hbig : big = 1000000 := rfl
  refine f46ok (by simp) ?_
  (try simp (disch := first | exact Nat.le_of_ble_eq_true rfl | omega) only [AXR, AXB, J.dst, reduceIte, Nat.reduceEqDiff, Nat.reduceAdd, Nat.reduceMul, Nat.reduceLT, Nat.reduceLeDiff]); rw [f46c0_eq]; (try simp (disch := first | exact Nat.le_of_ble_eq_true rfl | omega) only [AXR, AXB, J.dst, reduceIte, Nat.reduceEqDiff, Nat.reduceAdd, Nat.reduceMul, Nat.reduceLT, Nat.reduceLeDiff, f46r0, f46r1, f46r2, f46r3, f46r4, f46r5, f46r6, f46r7, f46r8, f46r9, f46r10, f46r11, f46r12, f46r13, f46r14])
  refine wL_boxN rfl ?_; rintro b1 h1 e1 s1 hb1 (B1 : Blk _ _ _ (eStamp below))
  (try simp (disch := first | exact Nat.le_of_ble_eq_true rfl | omega) only [AXR, AXB, J.dst, reduceIte, Nat.reduceEqDiff, Nat.reduceAdd, Nat.reduceMul, Nat.reduceLT, Nat.reduceLeDiff]); rw [f46c1_eq]; (try simp (disch := first | exact Nat.le_of_ble_eq_true rfl | omega) only [AXR, AXB, J.dst, reduceIte, Nat.reduceEqDiff, Nat.reduceAdd, Nat.reduceMul, Nat.reduceLT, Nat.reduceLeDiff, f46r0, f46r1, f46r2, f46r3, f46r4, f46r5, f46r6, f46r7, f46r8, f46r9, f46r10, f46r11, f46r12, f46r13, f46r14]); rw [f46c2_eq]; (try simp (disch := first | exact Nat.le_of_ble_eq_true rfl | omega) only [AXR, AXB, J.dst, reduceIte, Nat.reduceEqDiff, Nat.reduceAdd, Nat.reduceMul, Nat.reduceLT, Nat.reduceLeDiff, f46r0, f46r1, f46r2, f46r3, f46r4, f46r5, f46r6, f46r7, f46r8, f46r9, f46r10, f46r11, f46r12, f46r13, f46r14])
  rw [f46c3_eq]
  refine loop_in (fun n σ h' => Ext h1 h' ∧ ∃ (k m c' : Nat) (a' : Option Addr), k + n = cs.length ∧ m ≤ k ∧ OwnC h1.size h' a' m c' ((cs.take k).filterMap fun c => leftC (trimC below c)) ∧
      σ = [(3, ptr b1 0), (5, .slice a' m c'), (9, .slice a cs.length c), (10, vi cs.length), (11, vi k)])
    cs.length ⟨Ext.refl _, 0, 0, 0, none, by omega, by omega, OwnC.nil _ _, rfl⟩ ?_
  rintro n σ h' ⟨e2, k, m, c', a', hk, hm, O, rfl⟩ Q' hnx hex hrt _
  have eh := e1.trans e2
  (try simp (disch := first | exact Nat.le_of_ble_eq_true rfl | omega) only [AXR, AXB, J.dst, reduceIte, Nat.reduceEqDiff, Nat.reduceAdd, Nat.reduceMul, Nat.reduceLT, Nat.reduceLeDiff]); rw [f46c4_eq]; (try simp (disch := first | exact Nat.le_of_ble_eq_true rfl | omega) only [AXR, AXB, J.dst, reduceIte, Nat.reduceEqDiff, Nat.reduceAdd, Nat.reduceMul, Nat.reduceLT, Nat.reduceLeDiff, f46r0, f46r1, f46r2, f46r3, f46r4, f46r5, f46r6, f46r7, f46r8, f46r9, f46r10, f46r11, f46r12, f46r13, f46r14]); rw [f46c5_eq]; (try simp (disch := first | exact Nat.le_of_ble_eq_true rfl | omega) only [AXR, AXB, J.dst, reduceIte, Nat.reduceEqDiff, Nat.reduceAdd, Nat.reduceMul, Nat.reduceLT, Nat.reduceLeDiff, f46r0, f46r1, f46r2, f46r3, f46r4, f46r5, f46r6, f46r7, f46r8, f46r9, f46r10, f46r11, f46r12, f46r13, f46r14])
  refine ⟨fun h2 => ?_, fun h2 => ?_⟩
  · have hkl : k < cs.length := by have := of_decide_eq_true h2; omega
    obtain ⟨x, hx⟩ := get_ex hkl
    obtain ⟨b, o, v, rfl, _, hrow, hcr⟩ := (S.ext eh).elem hx
    have hxF := F x (List.mem_of_getElem? hx)
    rw [f46c6_eq]
    (try simp (disch := first | exact Nat.le_of_ble_eq_true rfl | omega) only [AXR, AXB, J.dst, reduceIte, Nat.reduceEqDiff, Nat.reduceAdd, Nat.reduceMul, Nat.reduceLT, Nat.reduceLeDiff]); rw [f46c7_eq]; (try simp (disch := first | exact Nat.le_of_ble_eq_true rfl | omega) only [AXR, AXB, J.dst, reduceIte, Nat.reduceEqDiff, Nat.reduceAdd, Nat.reduceMul, Nat.reduceLT, Nat.reduceLeDiff, f46r0, f46r1, f46r2, f46r3, f46r4, f46r5, f46r6, f46r7, f46r8, f46r9, f46r10, f46r11, f46r12, f46r13, f46r14, row_cv hrow])
    refine ⟨by omega, by omega, ?_⟩
    refine wL_newN ?_; rintro b4 h4 e4 s4 hb4 B4
    refine wL_stN rfl rfl rfl B4 (by decide) (eCV_one v) ?_; rintro h5 u5 (B5 : Blk _ _ _ (eCV v))
    have e5 := u5.ext e4 (by omega)
    (try simp (disch := first | exact Nat.le_of_ble_eq_true rfl | omega) only [AXR, AXB, J.dst, reduceIte, Nat.reduceEqDiff, Nat.reduceAdd, Nat.reduceMul, Nat.reduceLT, Nat.reduceLeDiff]); rw [f46c8_eq]; (try simp (disch := first | exact Nat.le_of_ble_eq_true rfl | omega) only [AXR, AXB, J.dst, reduceIte, Nat.reduceEqDiff, Nat.reduceAdd, Nat.reduceMul, Nat.reduceLT, Nat.reduceLeDiff, f46r0, f46r1, f46r2, f46r3, f46r4, f46r5, f46r6, f46r7, f46r8, f46r9, f46r10, f46r11, f46r12, f46r13, f46r14, B5.rd, eCV])
    refine own_ok v x _ (hcr.ext e5) (by omega) ?_
    intro x' h6 O6 e6
    try simp (disch := first | exact Nat.le_of_ble_eq_true rfl | omega) only [AXR, AXB, J.dst, reduceIte, Nat.reduceEqDiff, Nat.reduceAdd, Nat.reduceMul, Nat.reduceLT, Nat.reduceLeDiff]
    have hb45 := B5.lt
    replace B5 := B5.ext e6
    refine wL_stN rfl rfl rfl B5 (by rw [eCV_len]; exact Nat.le_of_ble_eq_true rfl) (eCV_one x') ?_; rintro h7 u7 (B7 : Blk _ _ _ (eCV x'))
    try simp (disch := first | exact Nat.le_of_ble_eq_true rfl | omega) only [AXR, AXB, J.dst, reduceIte, Nat.reduceEqDiff, Nat.reduceAdd, Nat.reduceMul, Nat.reduceLT, Nat.reduceLeDiff]
    have O7 := O6.box u7 hb45
    have e7 : Ext h' h7 := u7.ext (e5.trans e6) (by omega)
    have hO := O.row
    have hs1 := B1.lt
    have hse := eh.size
    have hs2 := e2.size
    have hs5 := e5.size
    -- what is left is appended
    have app : ∀ (h8 : Heap) (τ : Env) (v8 : CV) (c8 : Cell), Ext h' h8 → Blk h8 b4 103 (eCV v8) → CR (fun b => h5.size ≤ b ∧ b < h8.size) h8 v8 c8 → c8 = trimC below x →
        AX.look τ 3 = some (ptr b1 0) → AX.look τ 5 = some (.slice a' m c') → AX.look τ 7 = some (ptr b4 0) → AX.look τ 9 = some (.slice (some ⟨b, o, none⟩) cs.length c) → AX.look τ 10 = some (vi cs.length) → AX.look τ 11 = some (vi k) →
        wC Try.prog f46c16 (X.inBlock 1 (X.then (fun σ h => wC Try.prog f46c19 Q' σ h) Q')) τ h8 := by
      intro h8 τ v8 c8 e8 B8 O8 hres l3 l5 l7 l9 l10 l11
      have hw : IntKind.i64.wrap ((k : Int) + 1) = ((k + 1 : Nat) : Int) := i64_wrap (by omega) (by omega)
      have hskip : leftC c8 = none → wC Try.prog f46c17 (X.inBlock 1 (X.then (fun σ h => wC Try.prog f46c19 Q' σ h) Q')) [(3, ptr b1 0), (5, .slice a' m c'), (7, ptr b4 0), (9, .slice (some ⟨b, o, none⟩) cs.length c), (10, vi cs.length), (11, vi k), (43, .bool false)] h8 := by
        intro hl
        (try simp (disch := first | exact Nat.le_of_ble_eq_true rfl | omega) only [AXR, AXB, J.dst, reduceIte, Nat.reduceEqDiff, Nat.reduceAdd, Nat.reduceMul, Nat.reduceLT, Nat.reduceLeDiff]); rw [f46c17_eq]; (try simp (disch := first | exact Nat.le_of_ble_eq_true rfl | omega) only [AXR, AXB, J.dst, reduceIte, Nat.reduceEqDiff, Nat.reduceAdd, Nat.reduceMul, Nat.reduceLT, Nat.reduceLeDiff, f46r0, f46r1, f46r2, f46r3, f46r4, f46r5, f46r6, f46r7, f46r8, f46r9, f46r10, f46r11, f46r12, f46r13, f46r14, br_false])
        (try simp (disch := first | exact Nat.le_of_ble_eq_true rfl | omega) only [AXR, AXB, J.dst, reduceIte, Nat.reduceEqDiff, Nat.reduceAdd, Nat.reduceMul, Nat.reduceLT, Nat.reduceLeDiff]); rw [f46c19_eq]; (try simp (disch := first | exact Nat.le_of_ble_eq_true rfl | omega) only [AXR, AXB, J.dst, reduceIte, Nat.reduceEqDiff, Nat.reduceAdd, Nat.reduceMul, Nat.reduceLT, Nat.reduceLeDiff, f46r0, f46r1, f46r2, f46r3, f46r4, f46r5, f46r6, f46r7, f46r8, f46r9, f46r10, f46r11, f46r12, f46r13, f46r14, hw])
        refine hnx (n - 1) _ _ (by omega) ⟨e2.trans e8, k + 1, m, c', a', by omega, by omega, ?_, rfl⟩
        rw [List.take_add_one, hx, List.filterMap_append]
        simp only [Option.toList, List.filterMap_cons, List.filterMap_nil, ← hres, hl, List.append_nil]
        exact O.ext e8
      have hkeep : leftC c8 = some c8 → wC Try.prog f46c17 (X.inBlock 1 (X.then (fun σ h => wC Try.prog f46c19 Q' σ h) Q')) [(3, ptr b1 0), (5, .slice a' m c'), (7, ptr b4 0), (9, .slice (some ⟨b, o, none⟩) cs.length c), (10, vi cs.length), (11, vi k), (43, .bool true)] h8 := by
        intro hl
        (try simp (disch := first | exact Nat.le_of_ble_eq_true rfl | omega) only [AXR, AXB, J.dst, reduceIte, Nat.reduceEqDiff, Nat.reduceAdd, Nat.reduceMul, Nat.reduceLT, Nat.reduceLeDiff]); rw [f46c17_eq]; (try simp (disch := first | exact Nat.le_of_ble_eq_true rfl | omega) only [AXR, AXB, J.dst, reduceIte, Nat.reduceEqDiff, Nat.reduceAdd, Nat.reduceMul, Nat.reduceLT, Nat.reduceLeDiff, f46r0, f46r1, f46r2, f46r3, f46r4, f46r5, f46r6, f46r7, f46r8, f46r9, f46r10, f46r11, f46r12, f46r13, f46r14, br_true])
        (try simp (disch := first | exact Nat.le_of_ble_eq_true rfl | omega) only [AXR, AXB, J.dst, reduceIte, Nat.reduceEqDiff, Nat.reduceAdd, Nat.reduceMul, Nat.reduceLT, Nat.reduceLeDiff]); rw [f46c18_eq]; (try simp (disch := first | exact Nat.le_of_ble_eq_true rfl | omega) only [AXR, AXB, J.dst, reduceIte, Nat.reduceEqDiff, Nat.reduceAdd, Nat.reduceMul, Nat.reduceLT, Nat.reduceLeDiff, f46r0, f46r1, f46r2, f46r3, f46r4, f46r5, f46r6, f46r7, f46r8, f46r9, f46r10, f46r11, f46r12, f46r13, f46r14, B8.rd, eCV])
        refine wL_bslN rfl ?_; rintro b9 h9 e9 s9 hb9 (B9 : Blk _ _ _ (eCV v8))
        try simp (disch := first | exact Nat.le_of_ble_eq_true rfl | omega) only [AXR, AXB, J.dst, reduceIte, Nat.reduceEqDiff, Nat.reduceAdd, Nat.reduceMul, Nat.reduceLT, Nat.reduceLeDiff]
        rw [wL_raw]
        have e89 := e8.trans e9
        have hs89 := e89.size
        refine raw_push rfl rfl rfl (O.ext e89) B9 (O8.to fun b hb => ⟨⟨?_, ?_, ?_⟩, e9.at_ b hb.2⟩) (by omega) (by omega) ?_
        · omega
        · have := e9.size; omega
        · intro e; have := hO b e.symm; omega
        intro a10 c10 h10 O10 G10 A10
        refine ⟨trivial, ?_⟩
        try simp (disch := first | exact Nat.le_of_ble_eq_true rfl | omega) only [AXR, AXB, J.dst, reduceIte, Nat.reduceEqDiff, Nat.reduceAdd, Nat.reduceMul, Nat.reduceLT, Nat.reduceLeDiff]
        (try simp (disch := first | exact Nat.le_of_ble_eq_true rfl | omega) only [AXR, AXB, J.dst, reduceIte, Nat.reduceEqDiff, Nat.reduceAdd, Nat.reduceMul, Nat.reduceLT, Nat.reduceLeDiff]); rw [f46c19_eq]; (try simp (disch := first | exact Nat.le_of_ble_eq_true rfl | omega) only [AXR, AXB, J.dst, reduceIte, Nat.reduceEqDiff, Nat.reduceAdd, Nat.reduceMul, Nat.reduceLT, Nat.reduceLeDiff, f46r0, f46r1, f46r2, f46r3, f46r4, f46r5, f46r6, f46r7, f46r8, f46r9, f46r10, f46r11, f46r12, f46r13, f46r14, hw])
        refine hnx (n - 1) _ _ (by omega) ⟨G10.ext (e2.trans e89) (fun j hj => (hO j hj).1), k + 1, m + 1, c10, a10, by omega, by omega, ?_, rfl⟩
        rw [List.take_add_one, hx, List.filterMap_append]
        simp only [Option.toList, List.filterMap_cons, List.filterMap_nil, ← hres, hl]
        exact O10
      (try simp (disch := first | exact Nat.le_of_ble_eq_true rfl | omega) only [AXR, AXB, J.dst, reduceIte, Nat.reduceEqDiff, Nat.reduceAdd, Nat.reduceMul, Nat.reduceLT, Nat.reduceLeDiff]); rw [f46c16_eq]; (try simp (disch := first | exact Nat.le_of_ble_eq_true rfl | omega) only [AXR, AXB, J.dst, reduceIte, Nat.reduceEqDiff, Nat.reduceAdd, Nat.reduceMul, Nat.reduceLT, Nat.reduceLeDiff, f46r0, f46r1, f46r2, f46r3, f46r4, f46r5, f46r6, f46r7, f46r8, f46r9, f46r10, f46r11, f46r12, f46r13, f46r14, B8.cel, eCV, l3, l5, l7, l9, l10, l11])
      have hlk := O8.locked
      rw [vers_pos c8 O8.vn, hlk]
      refine ⟨fun hl => hkeep (by simp [leftC, hl]), fun hl => ?_⟩
      by_cases hv : c8.vers = []
      · rw [decide_eq_false (by simp [hv])]
        exact hskip (by simp [leftC, hl, hv])
      · rw [decide_eq_true hv]
        exact hkeep (by simp [leftC, hv])
    have B17 : Blk h7 b1 39 (eStamp below) := B1.ext (e2.trans e7)
    (try simp (disch := first | exact Nat.le_of_ble_eq_true rfl | omega) only [AXR, AXB, J.dst, reduceIte, Nat.reduceEqDiff, Nat.reduceAdd, Nat.reduceMul, Nat.reduceLT, Nat.reduceLeDiff]); rw [f46c9_eq]; (try simp (disch := first | exact Nat.le_of_ble_eq_true rfl | omega) only [AXR, AXB, J.dst, reduceIte, Nat.reduceEqDiff, Nat.reduceAdd, Nat.reduceMul, Nat.reduceLT, Nat.reduceLeDiff, f46r0, f46r1, f46r2, f46r3, f46r4, f46r5, f46r6, f46r7, f46r8, f46r9, f46r10, f46r11, f46r12, f46r13, f46r14, B7.cel, B7.rd, B17.rd, eCV, eStamp, O7.vn])
    refine last_ok x.vers below _ (SlF.of_own O7.vers O7.vn) (by unfold maxLen; omega) ?_
    intro h8 e8
    try simp (disch := first | exact Nat.le_of_ble_eq_true rfl | omega) only [AXR, AXB, J.dst, reduceIte, Nat.reduceEqDiff, Nat.reduceAdd, Nat.reduceMul, Nat.reduceLT, Nat.reduceLeDiff]
    have e78 := e7.trans e8
    have hlv := lastV_le x.vers below
    have B8 := B7.ext e8
    have O8 := O7.ext e8
    (try simp (disch := first | exact Nat.le_of_ble_eq_true rfl | omega) only [AXR, AXB, J.dst, reduceIte, Nat.reduceEqDiff, Nat.reduceAdd, Nat.reduceMul, Nat.reduceLT, Nat.reduceLeDiff]); rw [f46c10_eq]; (try simp (disch := first | exact Nat.le_of_ble_eq_true rfl | omega) only [AXR, AXB, J.dst, reduceIte, Nat.reduceEqDiff, Nat.reduceAdd, Nat.reduceMul, Nat.reduceLT, Nat.reduceLeDiff, f46r0, f46r1, f46r2, f46r3, f46r4, f46r5, f46r6, f46r7, f46r8, f46r9, f46r10, f46r11, f46r12, f46r13, f46r14]); rw [f46c11_eq]; (try simp (disch := first | exact Nat.le_of_ble_eq_true rfl | omega) only [AXR, AXB, J.dst, reduceIte, Nat.reduceEqDiff, Nat.reduceAdd, Nat.reduceMul, Nat.reduceLT, Nat.reduceLeDiff, f46r0, f46r1, f46r2, f46r3, f46r4, f46r5, f46r6, f46r7, f46r8, f46r9, f46r10, f46r11, f46r12, f46r13, f46r14])
    refine ⟨fun h2 => ?_, fun h2 => ?_⟩
    · have hpos : 0 ≤ lastV x.vers below := of_decide_eq_true h2
      obtain ⟨i, hi⟩ : ∃ i : Nat, lastV x.vers below = i := ⟨(lastV x.vers below).toNat, by omega⟩
      rw [hi] at hlv
      obtain ⟨u, hu⟩ := get_ex (show i < x.vers.length by omega)
      obtain ⟨b', o', ha, _, hrow'⟩ := (SlF.of_own O8.vers O8.vn).elem eVer_len hu
      have hcut : cutV x.vers below = if u.drop then i + 1 else i := by
        unfold cutV
        rw [hi, if_neg (by omega), Int.toNat_natCast, getD_of hu]
      have sli : ∀ (l : Nat) (τ : Env), l = cutV x.vers below → wC Try.prog f46c15 (X.then (fun σ h => wC Try.prog f46c16 (X.inBlock 1 (X.then (fun σ h => wC Try.prog f46c19 Q' σ h) Q')) σ h) (X.inBlock 1 (X.then (fun σ h => wC Try.prog f46c19 Q' σ h) Q')))
          ((3, ptr b1 0) :: (5, .slice a' m c') :: (7, ptr b4 0) :: (8, vi l) :: (9, .slice (some ⟨b, o, none⟩) cs.length c) :: (10, vi cs.length) :: (11, vi k) :: τ) h8 := by
        intro l τ hl
        have hll := cutV_le x.vers below
        rw [← hl] at hll
        have hroom := O8.vers.room
        have hvn := O8.vn
        (try simp (disch := first | exact Nat.le_of_ble_eq_true rfl | omega) only [AXR, AXB, J.dst, reduceIte, Nat.reduceEqDiff, Nat.reduceAdd, Nat.reduceMul, Nat.reduceLT, Nat.reduceLeDiff]); rw [f46c15_eq]; (try simp (disch := first | exact Nat.le_of_ble_eq_true rfl | omega) only [AXR, AXB, J.dst, reduceIte, Nat.reduceEqDiff, Nat.reduceAdd, Nat.reduceMul, Nat.reduceLT, Nat.reduceLeDiff, f46r0, f46r1, f46r2, f46r3, f46r4, f46r5, f46r6, f46r7, f46r8, f46r9, f46r10, f46r11, f46r12, f46r13, f46r14, B8.cel, eCV])
        refine slc_lo' (l := l) (by omega) hroom.1 ?_
        intro a9 ha9
        try simp (disch := first | exact Nat.le_of_ble_eq_true rfl | omega) only [AXR, AXB, J.dst, reduceIte, Nat.reduceEqDiff, Nat.reduceAdd, Nat.reduceMul, Nat.reduceLT, Nat.reduceLeDiff]
        refine wL_stN rfl rfl rfl B8 (by rw [eCV_len]; exact Nat.le_of_ble_eq_true rfl) (one_sl _ _ _) ?_
        rintro h9 u9 (B9 : Blk _ _ _ (eCV { x' with va := a9, vn := x'.vn - l, vc := x'.vc - l }))
        try simp (disch := first | exact Nat.le_of_ble_eq_true rfl | omega) only [AXR, AXB, J.dst, reduceIte, Nat.reduceEqDiff, Nat.reduceAdd, Nat.reduceMul, Nat.reduceLT, Nat.reduceLeDiff]
        refine app h9 _ { x' with va := a9, vn := x'.vn - l, vc := x'.vc - l } (trimC below x) (u9.ext e78 (by omega)) B9 ?_ rfl rfl rfl rfl rfl rfl rfl
        refine ⟨O8.key, O8.locked, O8.lock, ?_, Nat.sub_le_sub_right hroom.1 l, ?_⟩
        · show x'.vn - l = (x.vers.drop _).length
          rw [List.length_drop, ← hl, hvn]
        · show SlF _ _ _ _ (x.vers.drop _)
          rw [← hl]
          refine (SlF.of_drop O8.vers hvn ha9).to fun b hb => ⟨⟨hb.1, by rw [u9.size]; exact hb.2.1⟩, u9.ne b (by omega)⟩
      (try simp (disch := first | exact Nat.le_of_ble_eq_true rfl | omega) only [AXR, AXB, J.dst, reduceIte, Nat.reduceEqDiff, Nat.reduceAdd, Nat.reduceMul, Nat.reduceLT, Nat.reduceLeDiff]); rw [f46c12_eq]; (try simp (disch := first | exact Nat.le_of_ble_eq_true rfl | omega) only [AXR, AXB, J.dst, reduceIte, Nat.reduceEqDiff, Nat.reduceAdd, Nat.reduceMul, Nat.reduceLT, Nat.reduceLeDiff, f46r0, f46r1, f46r2, f46r3, f46r4, f46r5, f46r6, f46r7, f46r8, f46r9, f46r10, f46r11, f46r12, f46r13, f46r14, B8.cel, eCV, ha, hi, O8.vn, row_ver hrow'])
      refine ⟨by omega, by omega, ?_⟩
      (try simp (disch := first | exact Nat.le_of_ble_eq_true rfl | omega) only [AXR, AXB, J.dst, reduceIte, Nat.reduceEqDiff, Nat.reduceAdd, Nat.reduceMul, Nat.reduceLT, Nat.reduceLeDiff]); rw [f46c13_eq]; (try simp (disch := first | exact Nat.le_of_ble_eq_true rfl | omega) only [AXR, AXB, J.dst, reduceIte, Nat.reduceEqDiff, Nat.reduceAdd, Nat.reduceMul, Nat.reduceLT, Nat.reduceLeDiff, f46r0, f46r1, f46r2, f46r3, f46r4, f46r5, f46r6, f46r7, f46r8, f46r9, f46r10, f46r11, f46r12, f46r13, f46r14])
      refine ⟨fun hd => ?_, fun hd => ?_⟩
      · (try simp (disch := first | exact Nat.le_of_ble_eq_true rfl | omega) only [AXR, AXB, J.dst, reduceIte, Nat.reduceEqDiff, Nat.reduceAdd, Nat.reduceMul, Nat.reduceLT, Nat.reduceLeDiff]); rw [f46c14_eq]; (try simp (disch := first | exact Nat.le_of_ble_eq_true rfl | omega) only [AXR, AXB, J.dst, reduceIte, Nat.reduceEqDiff, Nat.reduceAdd, Nat.reduceMul, Nat.reduceLT, Nat.reduceLeDiff, f46r0, f46r1, f46r2, f46r3, f46r4, f46r5, f46r6, f46r7, f46r8, f46r9, f46r10, f46r11, f46r12, f46r13, f46r14])
        rw [i64_wrap (by omega) (by omega)]
        exact sli (i + 1) [] (by rw [hcut, hd]; rfl)
      · exact sli i _ (by rw [hcut, hd]; rfl)
    · have hneg : lastV x.vers below < 0 := by have := of_decide_eq_false h2; omega
      have hcut : cutV x.vers below = 0 := by unfold cutV; rw [if_pos hneg]
      try simp (disch := first | exact Nat.le_of_ble_eq_true rfl | omega) only [AXR, AXB, J.dst, reduceIte, Nat.reduceEqDiff, Nat.reduceAdd, Nat.reduceMul, Nat.reduceLT, Nat.reduceLeDiff]
      refine app h8 _ x' x e78 B8 (O8.cr.imp fun b hb => ⟨hb.1, hb.2.1⟩) ?_ rfl rfl rfl rfl rfl rfl
      unfold trimC
      rw [hcut]; rfl
  · have hkl : k = cs.length := by have := of_decide_eq_false h2; omega
    subst hkl
    refine hex _ _ ?_
    (try simp (disch := first | exact Nat.le_of_ble_eq_true rfl | omega) only [AXR, AXB, J.dst, reduceIte, Nat.reduceEqDiff, Nat.reduceAdd, Nat.reduceMul, Nat.reduceLT, Nat.reduceLeDiff]); rw [f46c20_eq]; (try simp (disch := first | exact Nat.le_of_ble_eq_true rfl | omega) only [AXR, AXB, J.dst, reduceIte, Nat.reduceEqDiff, Nat.reduceAdd, Nat.reduceMul, Nat.reduceLT, Nat.reduceLeDiff, f46r0, f46r1, f46r2, f46r3, f46r4, f46r5, f46r6, f46r7, f46r8, f46r9, f46r10, f46r11, f46r12, f46r13, f46r14])
    rw [List.take_length] at O
    exact hR _ _ _ _ (O.mono e1.size) eh
end Go.Proofs.Ytefghfgmkndikaa
