/-
  Walks: an operation by the program and the document; whether operations are light; Mine.
-/
import Derived.Test.YtefghfgmkndikaaWG
set_option linter.unusedSimpArgs false
set_option linter.unusedVariables false
namespace Go.AX
open Go
structure Op8 where
  kind : Int
  w : Wri
  l : Lck
  yes : Bool
def eOp8 (o : Op8) : List Value := vi o.kind :: (eWri o.w ++ eLck o.l ++ [.bool o.yes])
theorem eOp8_len (o : Op8) : (eOp8 o).length = 14 := rfl
theorem raw_rem {P : Program} {o : Oper} {σ : Env} {h : Heap} {K : Value → Heap → Prop} {t yt : TypeId} {x y : Operand} {k : IntKind} {a b : Int} (ho : o.op = .binOp .rem t x y yt)
    (hx : evO σ x = some (.int k a)) (hy : evO σ y = some (.int k b)) (h0 : b ≠ 0) (hK : K (.int k (a.tmod b)) h) : RawW P o σ h K := by
  refine ⟨?_, ?_, ?_⟩
  · rw [ho]; intro u hu
    simp only [Op.operands, List.mem_toArray, List.mem_cons, List.not_mem_nil, or_false] at hu
    rcases hu with rfl | rfl
    · rw [hx]; rfl
    · rw [hy]; rfl
  · rw [ho]; intro cs b hh; cases hh
  · intro w hw
    refine ⟨.value (.int k (a.tmod b)), _, w, ?_, rfl, Same.refl w, by rw [hw]; exact hK⟩
    simp [execOp, ho, hx, hy, eqGuard, binOp, Op.intDiv, h0]
/-- The sort of an operation. -/
def sortI (k : Int) : Int := (k.tmod 3 + 3).tmod 3
def doL (cs : List Cell) (o : Op8) : List Cell := if sortI o.kind = 0 then lockL cs o.w o.l else if sortI o.kind = 1 then settleL cs o.l.by_ o.yes else trimL cs o.l.at_
def rdoL (cs : List Cell) (o : Op8) : List Cell := if sortI o.kind = 0 then rlockL cs o.w o.l else if sortI o.kind = 1 then rsettleL cs o.l.by_ o.yes else rtrimL cs o.l.at_
end Go.AX
namespace Go.Proofs.Ytefghfgmkndikaa
open Go Go.AX

theorem number_ok (k : Int) (h : Heap) {R : Value → Heap → Prop} (hR : R (vi (sortI k)) h) : CallsH Try.prog 78 [vi k] h R := by
  refine f78ok (by simp) ?_
  (try simp (disch := first | exact Nat.le_of_ble_eq_true rfl | omega) only [AXR, AXB, J.dst, reduceIte, Nat.reduceEqDiff, Nat.reduceAdd, Nat.reduceMul, Nat.reduceLT, Nat.reduceLeDiff]); rw [f78c0_eq]; (try simp (disch := first | exact Nat.le_of_ble_eq_true rfl | omega) only [AXR, AXB, J.dst, reduceIte, Nat.reduceEqDiff, Nat.reduceAdd, Nat.reduceMul, Nat.reduceLT, Nat.reduceLeDiff, f78r0, f78r1]); rw [f78c1_eq]; (try simp (disch := first | exact Nat.le_of_ble_eq_true rfl | omega) only [AXR, AXB, J.dst, reduceIte, Nat.reduceEqDiff, Nat.reduceAdd, Nat.reduceMul, Nat.reduceLT, Nat.reduceLeDiff, f78r0, f78r1])
  rw [wL_raw]
  refine raw_rem rfl rfl rfl (by decide) ?_
  refine ⟨trivial, ?_⟩
  simp (disch := first | exact Nat.le_of_ble_eq_true rfl | omega) only [AXR, AXB, J.dst, reduceIte, Nat.reduceEqDiff, Nat.reduceAdd, Nat.reduceMul, Nat.reduceLT, Nat.reduceLeDiff]
  have hm1 := Int.tmod_lt_of_pos k (show (0 : Int) < 3 by decide)
  have hm2 : -3 < k.tmod 3 := Int.lt_tmod_of_pos k (by decide)
  rw [i64_wrap (by omega) (by omega), wL_raw]
  refine raw_rem rfl rfl rfl (by decide) ?_
  refine ⟨trivial, ?_⟩
  simp (disch := first | exact Nat.le_of_ble_eq_true rfl | omega) only [AXR, AXB, J.dst, reduceIte, Nat.reduceEqDiff, Nat.reduceAdd, Nat.reduceMul, Nat.reduceLT, Nat.reduceLeDiff]
  exact hR

theorem do_ok {B : Nat → Prop} {a : Option Addr} {c : Nat} (cs : List Cell) (o : Op8) (h : Heap) (S : SlC B h a cs) (hs : Sorted cs) (hn : cs.length < big) (F : ∀ c ∈ cs, c.vers.length < big) {R : Value → Heap → Prop}
    (hR : ∀ ax nx cx ay ny cy h', OwnC h.size h' ax nx cx (doL cs o) → OwnC h.size h' ay ny cy (rdoL cs o) → Ext h h' → R (.tuple #[.slice ax nx cx, .slice ay ny cy]) h') :
    CallsH Try.prog 37 [.slice a cs.length c, .agg (eOp8 o).toArray] h R := by
  have F' : ∀ c ∈ cs, c.vers.length ≤ big := fun c hc => Nat.le_of_lt (F c hc)
  refine f37ok (by simp) ?_
  (try simp (disch := first | exact Nat.le_of_ble_eq_true rfl | omega) only [AXR, AXB, J.dst, reduceIte, Nat.reduceEqDiff, Nat.reduceAdd, Nat.reduceMul, Nat.reduceLT, Nat.reduceLeDiff]); rw [f37c0_eq]; (try simp (disch := first | exact Nat.le_of_ble_eq_true rfl | omega) only [AXR, AXB, J.dst, reduceIte, Nat.reduceEqDiff, Nat.reduceAdd, Nat.reduceMul, Nat.reduceLT, Nat.reduceLeDiff, f37r0, f37r1, f37r2, f37r3, f37r4, f37r5, f37r6])
  refine wL_boxN rfl ?_; rintro b1 h1 e1 s1 hb1 (B1 : Blk _ _ _ (eOp8 o))
  have hs1 := e1.size
  (try simp (disch := first | exact Nat.le_of_ble_eq_true rfl | omega) only [AXR, AXB, J.dst, reduceIte, Nat.reduceEqDiff, Nat.reduceAdd, Nat.reduceMul, Nat.reduceLT, Nat.reduceLeDiff]); rw [f37c1_eq]; (try simp (disch := first | exact Nat.le_of_ble_eq_true rfl | omega) only [AXR, AXB, J.dst, reduceIte, Nat.reduceEqDiff, Nat.reduceAdd, Nat.reduceMul, Nat.reduceLT, Nat.reduceLeDiff, f37r0, f37r1, f37r2, f37r3, f37r4, f37r5, f37r6, B1.cel, eOp8])
  refine number_ok _ _ ?_
  try simp (disch := first | exact Nat.le_of_ble_eq_true rfl | omega) only [AXR, AXB, J.dst, reduceIte, Nat.reduceEqDiff, Nat.reduceAdd, Nat.reduceMul, Nat.reduceLT, Nat.reduceLeDiff]
  rw [f37c2_eq]
  (try simp (disch := first | exact Nat.le_of_ble_eq_true rfl | omega) only [AXR, AXB, J.dst, reduceIte, Nat.reduceEqDiff, Nat.reduceAdd, Nat.reduceMul, Nat.reduceLT, Nat.reduceLeDiff]); rw [f37c3_eq]; (try simp (disch := first | exact Nat.le_of_ble_eq_true rfl | omega) only [AXR, AXB, J.dst, reduceIte, Nat.reduceEqDiff, Nat.reduceAdd, Nat.reduceMul, Nat.reduceLT, Nat.reduceLeDiff, f37r0, f37r1, f37r2, f37r3, f37r4, f37r5, f37r6]); rw [f37c4_eq]; (try simp (disch := first | exact Nat.le_of_ble_eq_true rfl | omega) only [AXR, AXB, J.dst, reduceIte, Nat.reduceEqDiff, Nat.reduceAdd, Nat.reduceMul, Nat.reduceLT, Nat.reduceLeDiff, f37r0, f37r1, f37r2, f37r3, f37r4, f37r5, f37r6])
  refine ⟨fun hh => ?_, fun hh => ?_⟩
  · have h0 : sortI o.kind = 0 := by simpa using hh
    rw [f37c5_eq]
    refine drw_lt ?_
    simp (disch := first | exact Nat.le_of_ble_eq_true rfl | omega) only [AXR, AXB, J.dst, reduceIte, Nat.reduceEqDiff, Nat.reduceAdd, Nat.reduceMul, Nat.reduceLT, Nat.reduceLeDiff, f37r3, B1.rd, eOp8, eWri, eLck, List.cons_append, List.nil_append]
    refine ⟨B1.lt, B1.lt, B1.lt, B1.lt, ?_⟩
    refine lock_ok cs o.w o.l _ (S.ext e1) hs hn F' ?_
    intro a2 n2 c2 h2 O2 e2
    refine ⟨kp_ext (Nat.le_refl _) e2, ?_⟩
    try simp (disch := first | exact Nat.le_of_ble_eq_true rfl | omega) only [AXR, AXB, J.dst, reduceIte, Nat.reduceEqDiff, Nat.reduceAdd, Nat.reduceMul, Nat.reduceLT, Nat.reduceLeDiff]
    refine rlock_ok cs o.w o.l _ (S.ext (e1.trans e2)) hn F' ?_
    intro a3 n3 c3 h3 O3 e3
    refine ⟨kp_ext e2.size e3, ?_⟩
    try simp (disch := first | exact Nat.le_of_ble_eq_true rfl | omega) only [AXR, AXB, J.dst, reduceIte, Nat.reduceEqDiff, Nat.reduceAdd, Nat.reduceMul, Nat.reduceLT, Nat.reduceLeDiff]
    have hs2 := e2.size
    refine hR _ _ _ _ _ _ _ ?_ ?_ (e1.trans (e2.trans e3))
    · unfold doL; rw [if_pos h0]; exact (O2.mono hs1).ext e3
    · unfold rdoL; rw [if_pos h0]; exact O3.mono (by omega)
  · have h0 : ¬ sortI o.kind = 0 := by simpa using hh
    (try simp (disch := first | exact Nat.le_of_ble_eq_true rfl | omega) only [AXR, AXB, J.dst, reduceIte, Nat.reduceEqDiff, Nat.reduceAdd, Nat.reduceMul, Nat.reduceLT, Nat.reduceLeDiff]); rw [f37c6_eq]; (try simp (disch := first | exact Nat.le_of_ble_eq_true rfl | omega) only [AXR, AXB, J.dst, reduceIte, Nat.reduceEqDiff, Nat.reduceAdd, Nat.reduceMul, Nat.reduceLT, Nat.reduceLeDiff, f37r0, f37r1, f37r2, f37r3, f37r4, f37r5, f37r6]); rw [f37c7_eq]; (try simp (disch := first | exact Nat.le_of_ble_eq_true rfl | omega) only [AXR, AXB, J.dst, reduceIte, Nat.reduceEqDiff, Nat.reduceAdd, Nat.reduceMul, Nat.reduceLT, Nat.reduceLeDiff, f37r0, f37r1, f37r2, f37r3, f37r4, f37r5, f37r6])
    refine ⟨fun hh => ?_, fun hh => ?_⟩
    · have h1' : sortI o.kind = 1 := by simpa using hh
      rw [f37c8_eq]
      refine drw_lt ?_
      simp (disch := first | exact Nat.le_of_ble_eq_true rfl | omega) only [AXR, AXB, J.dst, reduceIte, Nat.reduceEqDiff, Nat.reduceAdd, Nat.reduceMul, Nat.reduceLT, Nat.reduceLeDiff, f37r5, B1.rd, B1.cel, eOp8, eWri, eLck, List.cons_append, List.nil_append]
      refine ⟨B1.lt, B1.lt, B1.lt, B1.lt, ?_⟩
      refine settle_ok cs o.l.by_ o.yes _ (S.ext e1) (by omega) F ?_
      intro a2 n2 c2 h2 O2 e2
      refine ⟨kp_ext (Nat.le_refl _) e2, ?_⟩
      try simp (disch := first | exact Nat.le_of_ble_eq_true rfl | omega) only [AXR, AXB, J.dst, reduceIte, Nat.reduceEqDiff, Nat.reduceAdd, Nat.reduceMul, Nat.reduceLT, Nat.reduceLeDiff]
      refine rsettle_ok cs o.l.by_ o.yes _ (S.ext (e1.trans e2)) (by omega) F ?_
      intro a3 n3 c3 h3 O3 e3
      refine ⟨kp_ext e2.size e3, ?_⟩
      try simp (disch := first | exact Nat.le_of_ble_eq_true rfl | omega) only [AXR, AXB, J.dst, reduceIte, Nat.reduceEqDiff, Nat.reduceAdd, Nat.reduceMul, Nat.reduceLT, Nat.reduceLeDiff]
      have hs2 := e2.size
      refine hR _ _ _ _ _ _ _ ?_ ?_ (e1.trans (e2.trans e3))
      · unfold doL; rw [if_neg h0, if_pos h1']; exact (O2.mono hs1).ext e3
      · unfold rdoL; rw [if_neg h0, if_pos h1']; exact O3.mono (by omega)
    · have h1' : ¬ sortI o.kind = 1 := by simpa using hh
      try simp (disch := first | exact Nat.le_of_ble_eq_true rfl | omega) only [AXR, AXB, J.dst, reduceIte, Nat.reduceEqDiff, Nat.reduceAdd, Nat.reduceMul, Nat.reduceLT, Nat.reduceLeDiff]
      rw [f37c9_eq]
      refine drw_lt ?_
      simp (disch := first | exact Nat.le_of_ble_eq_true rfl | omega) only [AXR, AXB, J.dst, reduceIte, Nat.reduceEqDiff, Nat.reduceAdd, Nat.reduceMul, Nat.reduceLT, Nat.reduceLeDiff, f37r6, B1.rd, eOp8, eWri, eLck, List.cons_append, List.nil_append]
      refine ⟨B1.lt, B1.lt, ?_⟩
      refine trim_ok cs o.l.at_ _ (S.ext e1) (by omega) F ?_
      intro a2 n2 c2 h2 O2 e2
      refine ⟨kp_ext (Nat.le_refl _) e2, ?_⟩
      try simp (disch := first | exact Nat.le_of_ble_eq_true rfl | omega) only [AXR, AXB, J.dst, reduceIte, Nat.reduceEqDiff, Nat.reduceAdd, Nat.reduceMul, Nat.reduceLT, Nat.reduceLeDiff]
      refine rtrim_ok cs o.l.at_ _ (S.ext (e1.trans e2)) (by omega) F ?_
      intro a3 n3 c3 h3 O3 e3
      refine ⟨kp_ext e2.size e3, ?_⟩
      try simp (disch := first | exact Nat.le_of_ble_eq_true rfl | omega) only [AXR, AXB, J.dst, reduceIte, Nat.reduceEqDiff, Nat.reduceAdd, Nat.reduceMul, Nat.reduceLT, Nat.reduceLeDiff]
      have hs2 := e2.size
      refine hR _ _ _ _ _ _ _ ?_ ?_ (e1.trans (e2.trans e3))
      · unfold doL; rw [if_neg h0, if_neg h1']; exact (O2.mono hs1).ext e3
      · unfold rdoL; rw [if_neg h0, if_neg h1']; exact O3.mono (by omega)

/-- Whether any lock is an attempt's. -/
def mineL (cs : List Cell) (by_ : Try4) : Bool := cs.any fun c => c.locked && decide (c.lock.by_ = by_)

theorem mine1_ok (x : CV) (by_ : Try4) (b : Nat) (h : Heap) (B : Blk h b 37 (eTry by_)) {R : Value → Heap → Prop} (hR : ∀ h', Ext h h' → R (.bool (x.locked && decide (x.lock.by_ = by_))) h') :
    CallsH Try.prog 83 [.agg (eCV x).toArray, ptr b 0] h R := by
  refine f83ok (by simp) ?_
  (try simp (disch := first | exact Nat.le_of_ble_eq_true rfl | omega) only [AXR, AXB, J.dst, reduceIte, Nat.reduceEqDiff, Nat.reduceAdd, Nat.reduceMul, Nat.reduceLT, Nat.reduceLeDiff]); rw [f83c0_eq]; (try simp (disch := first | exact Nat.le_of_ble_eq_true rfl | omega) only [AXR, AXB, J.dst, reduceIte, Nat.reduceEqDiff, Nat.reduceAdd, Nat.reduceMul, Nat.reduceLT, Nat.reduceLeDiff, f83r0, f83r1])
  refine wL_boxN rfl ?_; rintro b1 h1 e1 s1 hb1 (B1 : Blk _ _ _ (eCV x))
  (try simp (disch := first | exact Nat.le_of_ble_eq_true rfl | omega) only [AXR, AXB, J.dst, reduceIte, Nat.reduceEqDiff, Nat.reduceAdd, Nat.reduceMul, Nat.reduceLT, Nat.reduceLeDiff]); rw [f83c1_eq]; (try simp (disch := first | exact Nat.le_of_ble_eq_true rfl | omega) only [AXR, AXB, J.dst, reduceIte, Nat.reduceEqDiff, Nat.reduceAdd, Nat.reduceMul, Nat.reduceLT, Nat.reduceLeDiff, f83r0, f83r1, B1.cel, B1.rd, (B.ext e1).rd, eCV, eTry, eqA_try])
  have hR := hR _ e1
  refine ⟨fun hh => ?_, fun hh => ?_⟩
  · rw [hh] at hR; simpa using hR
  · rw [hh] at hR; simpa using hR

theorem anyK (cs : List Cell) (f : Cell → Bool) (k : Nat) (hk : ∀ j c, j < k → cs[j]? = some c → f c = false) : (∀ c, cs[k]? = some c → f c = true → cs.any f = true) ∧ (k = cs.length → cs.any f = false) := by
  refine ⟨fun c hc he => List.any_eq_true.2 ⟨c, List.mem_of_getElem? hc, he⟩, fun he => ?_⟩
  rw [List.any_eq_false]
  intro x hx
  obtain ⟨j, hj, rfl⟩ := List.mem_iff_getElem.1 hx
  simpa using hk j _ (by omega) (List.getElem?_eq_getElem hj)

theorem index_ok {B : Nat → Prop} {a : Option Addr} {c : Nat} (cs : List Cell) (by_ : Try4) (b : Nat) (h : Heap) (S : SlC B h a cs) (hn : cs.length ≤ maxLen) (B0 : Blk h b 37 (eTry by_)) {R : Value → Heap → Prop}
    (hR : ∀ i : Int, (0 ≤ i ↔ mineL cs by_ = true) → ∀ h', Ext h h' → R (vi i) h') : CallsH Try.prog 113 [.slice a cs.length c, .func (.func 83) #[] #[ptr b 0]] h R := by
  refine f113ok (by simp) ?_
  (try simp (disch := first | exact Nat.le_of_ble_eq_true rfl | omega) only [AXR, AXB, J.dst, reduceIte, Nat.reduceEqDiff, Nat.reduceAdd, Nat.reduceMul, Nat.reduceLT, Nat.reduceLeDiff]); rw [f113c0_eq]; (try simp (disch := first | exact Nat.le_of_ble_eq_true rfl | omega) only [AXR, AXB, J.dst, reduceIte, Nat.reduceEqDiff, Nat.reduceAdd, Nat.reduceMul, Nat.reduceLT, Nat.reduceLeDiff, f113r0, f113r1, f113r2, f113r3, f113r4, f113r5, f113r6, f113r7]); rw [f113c1_eq]; (try simp (disch := first | exact Nat.le_of_ble_eq_true rfl | omega) only [AXR, AXB, J.dst, reduceIte, Nat.reduceEqDiff, Nat.reduceAdd, Nat.reduceMul, Nat.reduceLT, Nat.reduceLeDiff, f113r0, f113r1, f113r2, f113r3, f113r4, f113r5, f113r6, f113r7])
  unfold maxLen at hn
  rw [f113c2_eq]
  refine loop_in (fun n σ h' => Ext h h' ∧ ∃ k : Nat, k + n = cs.length ∧ σ = [(0, .slice a cs.length c), (1, .func (.func 83) #[] #[ptr b 0]), (7, vi cs.length), (8, vi k)] ∧ ∀ j c, j < k → cs[j]? = some c → (c.locked && decide (c.lock.by_ = by_)) = false)
    cs.length ⟨Ext.refl _, 0, by omega, rfl, by intros; omega⟩ ?_
  rintro n σ h' ⟨e1, k, hk, rfl, hnk⟩ Q' hnx hex hrt _
  (try simp (disch := first | exact Nat.le_of_ble_eq_true rfl | omega) only [AXR, AXB, J.dst, reduceIte, Nat.reduceEqDiff, Nat.reduceAdd, Nat.reduceMul, Nat.reduceLT, Nat.reduceLeDiff]); rw [f113c3_eq]; (try simp (disch := first | exact Nat.le_of_ble_eq_true rfl | omega) only [AXR, AXB, J.dst, reduceIte, Nat.reduceEqDiff, Nat.reduceAdd, Nat.reduceMul, Nat.reduceLT, Nat.reduceLeDiff, f113r0, f113r1, f113r2, f113r3, f113r4, f113r5, f113r6, f113r7]); rw [f113c4_eq]; (try simp (disch := first | exact Nat.le_of_ble_eq_true rfl | omega) only [AXR, AXB, J.dst, reduceIte, Nat.reduceEqDiff, Nat.reduceAdd, Nat.reduceMul, Nat.reduceLT, Nat.reduceLeDiff, f113r0, f113r1, f113r2, f113r3, f113r4, f113r5, f113r6, f113r7])
  have hany := anyK cs (fun c => c.locked && decide (c.lock.by_ = by_)) k hnk
  refine ⟨fun h2 => ?_, fun h2 => ?_⟩
  · have hkl : k < cs.length := by have := of_decide_eq_true h2; omega
    obtain ⟨x, hx⟩ := get_ex hkl
    obtain ⟨b', o, v, rfl, _, hrow, hcr⟩ := (S.ext e1).elem hx
    rw [f113c5_eq]
    (try simp (disch := first | exact Nat.le_of_ble_eq_true rfl | omega) only [AXR, AXB, J.dst, reduceIte, Nat.reduceEqDiff, Nat.reduceAdd, Nat.reduceMul, Nat.reduceLT, Nat.reduceLeDiff]); rw [f113c6_eq]; (try simp (disch := first | exact Nat.le_of_ble_eq_true rfl | omega) only [AXR, AXB, J.dst, reduceIte, Nat.reduceEqDiff, Nat.reduceAdd, Nat.reduceMul, Nat.reduceLT, Nat.reduceLeDiff, f113r0, f113r1, f113r2, f113r3, f113r4, f113r5, f113r6, f113r7, row_cv hrow]); rw [f113c7_eq]; (try simp (disch := first | exact Nat.le_of_ble_eq_true rfl | omega) only [AXR, AXB, J.dst, reduceIte, Nat.reduceEqDiff, Nat.reduceAdd, Nat.reduceMul, Nat.reduceLT, Nat.reduceLeDiff, f113r0, f113r1, f113r2, f113r3, f113r4, f113r5, f113r6, f113r7, row_cv hrow])
    refine ⟨by omega, by omega, ?_⟩
    refine wL_cav _ _ _ _ _ _ _ rfl rfl f83cal ?_
    refine mine1_ok v by_ b _ (B0.ext e1) ?_
    intro h3 e3
    refine ⟨trivial, ?_⟩
    try simp (disch := first | exact Nat.le_of_ble_eq_true rfl | omega) only [AXR, AXB, J.dst, reduceIte, Nat.reduceEqDiff, Nat.reduceAdd, Nat.reduceMul, Nat.reduceLT, Nat.reduceLeDiff]
    rw [hcr.locked, hcr.lock]
    (try simp (disch := first | exact Nat.le_of_ble_eq_true rfl | omega) only [AXR, AXB, J.dst, reduceIte, Nat.reduceEqDiff, Nat.reduceAdd, Nat.reduceMul, Nat.reduceLT, Nat.reduceLeDiff]); rw [f113c8_eq]; (try simp (disch := first | exact Nat.le_of_ble_eq_true rfl | omega) only [AXR, AXB, J.dst, reduceIte, Nat.reduceEqDiff, Nat.reduceAdd, Nat.reduceMul, Nat.reduceLT, Nat.reduceLeDiff, f113r0, f113r1, f113r2, f113r3, f113r4, f113r5, f113r6, f113r7])
    refine ⟨fun h4 => ?_, fun h4 => ?_⟩
    · (try simp (disch := first | exact Nat.le_of_ble_eq_true rfl | omega) only [AXR, AXB, J.dst, reduceIte, Nat.reduceEqDiff, Nat.reduceAdd, Nat.reduceMul, Nat.reduceLT, Nat.reduceLeDiff]); rw [f113c9_eq]; (try simp (disch := first | exact Nat.le_of_ble_eq_true rfl | omega) only [AXR, AXB, J.dst, reduceIte, Nat.reduceEqDiff, Nat.reduceAdd, Nat.reduceMul, Nat.reduceLT, Nat.reduceLeDiff, f113r0, f113r1, f113r2, f113r3, f113r4, f113r5, f113r6, f113r7])
      refine hrt _ _ ?_
      try simp (disch := first | exact Nat.le_of_ble_eq_true rfl | omega) only [AXR, AXB, J.dst, reduceIte, Nat.reduceEqDiff, Nat.reduceAdd, Nat.reduceMul, Nat.reduceLT, Nat.reduceLeDiff]
      exact hR k ⟨fun _ => hany.1 x hx h4, fun _ => by omega⟩ _ (e1.trans e3)
    · (try simp (disch := first | exact Nat.le_of_ble_eq_true rfl | omega) only [AXR, AXB, J.dst, reduceIte, Nat.reduceEqDiff, Nat.reduceAdd, Nat.reduceMul, Nat.reduceLT, Nat.reduceLeDiff]); rw [f113c10_eq]; (try simp (disch := first | exact Nat.le_of_ble_eq_true rfl | omega) only [AXR, AXB, J.dst, reduceIte, Nat.reduceEqDiff, Nat.reduceAdd, Nat.reduceMul, Nat.reduceLT, Nat.reduceLeDiff, f113r0, f113r1, f113r2, f113r3, f113r4, f113r5, f113r6, f113r7])
      rw [i64_wrap (by omega) (by omega)]
      refine hnx (n - 1) _ _ (by omega) ⟨e1.trans e3, k + 1, by omega, rfl, ?_⟩
      intro j c' hj hc'
      rcases Nat.lt_or_ge j k with hlt | hge
      · exact hnk j c' hlt hc'
      · have : j = k := by omega
        subst this
        rw [hx] at hc'; cases hc'; exact h4
  · have hkl : k = cs.length := by have := of_decide_eq_false h2; omega
    refine hex _ _ ?_
    (try simp (disch := first | exact Nat.le_of_ble_eq_true rfl | omega) only [AXR, AXB, J.dst, reduceIte, Nat.reduceEqDiff, Nat.reduceAdd, Nat.reduceMul, Nat.reduceLT, Nat.reduceLeDiff]); rw [f113c11_eq]; (try simp (disch := first | exact Nat.le_of_ble_eq_true rfl | omega) only [AXR, AXB, J.dst, reduceIte, Nat.reduceEqDiff, Nat.reduceAdd, Nat.reduceMul, Nat.reduceLT, Nat.reduceLeDiff, f113r0, f113r1, f113r2, f113r3, f113r4, f113r5, f113r6, f113r7])
    exact hR (-1) ⟨fun h => by omega, fun h => by unfold mineL at h; rw [hany.2 hkl] at h; cases h⟩ _ e1

theorem mine_ok {B : Nat → Prop} {a : Option Addr} {c : Nat} (cs : List Cell) (by_ : Try4) (h : Heap) (S : SlC B h a cs) (hn : cs.length ≤ maxLen) {R : Value → Heap → Prop}
    (hR : ∀ h', Ext h h' → R (.bool (mineL cs by_)) h') : CallsH Try.prog 38 [.slice a cs.length c, .agg (eTry by_).toArray] h R := by
  refine f38ok (by simp) ?_
  (try simp (disch := first | exact Nat.le_of_ble_eq_true rfl | omega) only [AXR, AXB, J.dst, reduceIte, Nat.reduceEqDiff, Nat.reduceAdd, Nat.reduceMul, Nat.reduceLT, Nat.reduceLeDiff]); rw [f38c0_eq]; (try simp (disch := first | exact Nat.le_of_ble_eq_true rfl | omega) only [AXR, AXB, J.dst, reduceIte, Nat.reduceEqDiff, Nat.reduceAdd, Nat.reduceMul, Nat.reduceLT, Nat.reduceLeDiff, f38r0, f38r1])
  refine wL_boxN rfl ?_; rintro b1 h1 e1 s1 hb1 (B1 : Blk _ _ _ (eTry by_))
  (try simp (disch := first | exact Nat.le_of_ble_eq_true rfl | omega) only [AXR, AXB, J.dst, reduceIte, Nat.reduceEqDiff, Nat.reduceAdd, Nat.reduceMul, Nat.reduceLT, Nat.reduceLeDiff]); rw [f38c1_eq]; (try simp (disch := first | exact Nat.le_of_ble_eq_true rfl | omega) only [AXR, AXB, J.dst, reduceIte, Nat.reduceEqDiff, Nat.reduceAdd, Nat.reduceMul, Nat.reduceLT, Nat.reduceLeDiff, f38r0, f38r1])
  refine f82ok (by simp) ?_
  (try simp (disch := first | exact Nat.le_of_ble_eq_true rfl | omega) only [AXR, AXB, J.dst, reduceIte, Nat.reduceEqDiff, Nat.reduceAdd, Nat.reduceMul, Nat.reduceLT, Nat.reduceLeDiff]); rw [f82c0_eq]; (try simp (disch := first | exact Nat.le_of_ble_eq_true rfl | omega) only [AXR, AXB, J.dst, reduceIte, Nat.reduceEqDiff, Nat.reduceAdd, Nat.reduceMul, Nat.reduceLT, Nat.reduceLeDiff, f82r0, f82r1]); rw [f82c1_eq]; (try simp (disch := first | exact Nat.le_of_ble_eq_true rfl | omega) only [AXR, AXB, J.dst, reduceIte, Nat.reduceEqDiff, Nat.reduceAdd, Nat.reduceMul, Nat.reduceLT, Nat.reduceLeDiff, f82r0, f82r1])
  refine index_ok cs by_ b1 _ (S.ext e1) hn B1 ?_
  intro i hi h2 e2
  try simp (disch := first | exact Nat.le_of_ble_eq_true rfl | omega) only [AXR, AXB, J.dst, reduceIte, Nat.reduceEqDiff, Nat.reduceAdd, Nat.reduceMul, Nat.reduceLT, Nat.reduceLeDiff]
  have : decide (i ≥ 0) = mineL cs by_ := by
    rw [Bool.eq_iff_iff, decide_eq_true_eq]; exact hi
  rw [this]
  exact hR _ (e1.trans e2)
end Go.Proofs.Ytefghfgmkndikaa
