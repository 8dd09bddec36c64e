/-
  Walks: the reference's with.
-/
import Derived.Test.YtefghfgmkndikaaWC
set_option linter.unusedSimpArgs false
set_option linter.unusedVariables false
namespace Go.AX
open Go
def wStep (v : Ver) (r : List Ver × Bool) (u : Ver) : List Ver × Bool :=
  let r1 := if !r.2 && !Stamp.lt u.at_ v.at_ then (r.1 ++ [v], true) else r
  (if u.at_ = v.at_ then r1.1 else r1.1 ++ [u], r1.2)
def withV (vs : List Ver) (v : Ver) : List Ver := let r := vs.foldl (wStep v) ([], false); if r.2 then r.1 else r.1 ++ [v]
end Go.AX
namespace Go.Proofs.Ytefghfgmkndikaa
open Go Go.AX

/-- A version is appended. -/
theorem raw_pushV {o : Oper} {σ : Env} {h : Heap} {K : Value → Heap → Prop} {x y : Operand} (ho : o.op = .call ⟨.builtin .append, #[x, y], #[101, 101]⟩) {a : Option Addr} {n c lo b : Nat} {vs : List Ver} {v : Ver}
    (hx : evO σ x = some (.slice a n c)) (hy : evO σ y = some (sl b 0 1 1)) (O : Own lo h 108 4 a n c (vs.flatMap eVer)) (B : Blk h b 108 (eVer v)) (hn : n ≤ 10 * big) (hlo : lo ≤ h.size)
    (H : ∀ a' c' h', Own lo h' 108 4 a' (n + 1) c' ((vs ++ [v]).flatMap eVer) → Gr (ob a) h h' → (ob a' = ob a ∨ ∃ k, ob a' = some k ∧ h.size ≤ k) → K (.slice a' (n + 1) c') h') : RawW Try.prog o σ h K := by
  have hbig : big = 1000000 := rfl
  refine raw_append slT101 ho hx hy O (news := eVer v) (by rw [eVer_len]) (.inr ⟨b, 0, rfl, B.row⟩) (eVer_one v) (by unfold maxLen; omega) (by omega) hlo ?_
  intro a' c' h' O' G A
  refine H a' c' h' ?_ G A
  rw [List.flatMap_append]
  simpa using O'

theorem with_ok {B : Nat → Prop} {a : Option Addr} {c : Nat} (vs : List Ver) (v : Ver) (h : Heap) (S : SlF B h eVer a vs) (hn : vs.length ≤ big) {R : Value → Heap → Prop}
    (hR : ∀ a' n' c' h', Own h.size h' 108 4 a' n' c' ((withV vs v).flatMap eVer) → n' = (withV vs v).length → Ext h h' → R (.slice a' n' c') h') :
    CallsH Try.prog 112 [.slice a vs.length c, .agg (eVer v).toArray] h R := by
  have hbig : big = 1000000 := rfl
  refine f112ok (by simp) ?_
  (try simp (disch := first | exact Nat.le_of_ble_eq_true rfl | omega) only [AXR, AXB, J.dst, reduceIte, Nat.reduceEqDiff, Nat.reduceAdd, Nat.reduceMul, Nat.reduceLT, Nat.reduceLeDiff]); rw [f112c0_eq]; (try simp (disch := first | exact Nat.le_of_ble_eq_true rfl | omega) only [AXR, AXB, J.dst, reduceIte, Nat.reduceEqDiff, Nat.reduceAdd, Nat.reduceMul, Nat.reduceLT, Nat.reduceLeDiff, f112r0, f112r1, f112r2, f112r3, f112r4, f112r5, f112r6, f112r7, f112r8, f112r9, f112r10, f112r11, f112r12])
  refine wL_boxN rfl ?_; rintro b1 h1 e1 s1 hb1 (B1 : Blk _ _ _ (eVer v))
  (try simp (disch := first | exact Nat.le_of_ble_eq_true rfl | omega) only [AXR, AXB, J.dst, reduceIte, Nat.reduceEqDiff, Nat.reduceAdd, Nat.reduceMul, Nat.reduceLT, Nat.reduceLeDiff]); rw [f112c1_eq]; (try simp (disch := first | exact Nat.le_of_ble_eq_true rfl | omega) only [AXR, AXB, J.dst, reduceIte, Nat.reduceEqDiff, Nat.reduceAdd, Nat.reduceMul, Nat.reduceLT, Nat.reduceLeDiff, f112r0, f112r1, f112r2, f112r3, f112r4, f112r5, f112r6, f112r7, f112r8, f112r9, f112r10, f112r11, f112r12]); rw [f112c2_eq]; (try simp (disch := first | exact Nat.le_of_ble_eq_true rfl | omega) only [AXR, AXB, J.dst, reduceIte, Nat.reduceEqDiff, Nat.reduceAdd, Nat.reduceMul, Nat.reduceLT, Nat.reduceLeDiff, f112r0, f112r1, f112r2, f112r3, f112r4, f112r5, f112r6, f112r7, f112r8, f112r9, f112r10, f112r11, f112r12]); rw [f112c3_eq]; (try simp (disch := first | exact Nat.le_of_ble_eq_true rfl | omega) only [AXR, AXB, J.dst, reduceIte, Nat.reduceEqDiff, Nat.reduceAdd, Nat.reduceMul, Nat.reduceLT, Nat.reduceLeDiff, f112r0, f112r1, f112r2, f112r3, f112r4, f112r5, f112r6, f112r7, f112r8, f112r9, f112r10, f112r11, f112r12])
  rw [f112c4_eq]
  refine loop_in (fun n σ h' => Ext h1 h' ∧ ∃ (k m c' : Nat) (a' : Option Addr), k + n = vs.length ∧ m ≤ 2 * k ∧ m = ((vs.take k).foldl (wStep v) ([], false)).1.length ∧
      Own h1.size h' 108 4 a' m c' (((vs.take k).foldl (wStep v) ([], false)).1.flatMap eVer) ∧
      σ = [(0, .slice a vs.length c), (3, ptr b1 0), (5, .slice a' m c'), (6, .bool ((vs.take k).foldl (wStep v) ([], false)).2), (7, vi k)])
    vs.length ⟨Ext.refl _, 0, 0, 0, none, by omega, by omega, rfl, Own.nil _ _ _ _, rfl⟩ ?_
  rintro n σ h' ⟨e2, k, m, c', a', hk, hm2, hm, O, rfl⟩ Q' hnx hex hrt _
  have eh := e1.trans e2
  have hs2 := e2.size
  have hs1 := B1.lt
  generalize hr : (vs.take k).foldl (wStep v) ([], false) = r at hm O
  (try simp (disch := first | exact Nat.le_of_ble_eq_true rfl | omega) only [AXR, AXB, J.dst, reduceIte, Nat.reduceEqDiff, Nat.reduceAdd, Nat.reduceMul, Nat.reduceLT, Nat.reduceLeDiff]); rw [f112c5_eq]; (try simp (disch := first | exact Nat.le_of_ble_eq_true rfl | omega) only [AXR, AXB, J.dst, reduceIte, Nat.reduceEqDiff, Nat.reduceAdd, Nat.reduceMul, Nat.reduceLT, Nat.reduceLeDiff, f112r0, f112r1, f112r2, f112r3, f112r4, f112r5, f112r6, f112r7, f112r8, f112r9, f112r10, f112r11, f112r12]); rw [f112c6_eq]; (try simp (disch := first | exact Nat.le_of_ble_eq_true rfl | omega) only [AXR, AXB, J.dst, reduceIte, Nat.reduceEqDiff, Nat.reduceAdd, Nat.reduceMul, Nat.reduceLT, Nat.reduceLeDiff, f112r0, f112r1, f112r2, f112r3, f112r4, f112r5, f112r6, f112r7, f112r8, f112r9, f112r10, f112r11, f112r12])
  refine ⟨fun h2 => ?_, fun h2 => ?_⟩
  · have hkl : k < vs.length := by have := of_decide_eq_true h2; omega
    obtain ⟨u, hu⟩ := get_ex hkl
    obtain ⟨b, o, rfl, _, hrow0⟩ := S.elem eVer_len hu
    have hbl := hrow0.lt (by rw [eVer_len]; omega)
    have hrow := hrow0.ext eh
    have hnext : (vs.take (k + 1)).foldl (wStep v) ([], false) = wStep v r u := by
      rw [List.take_add_one, hu, List.foldl_append, hr]; rfl
    have hw : IntKind.i64.wrap ((k : Int) + 1) = ((k + 1 : Nat) : Int) := i64_wrap (by omega) (by omega)
    have hO := O.ob
    rw [f112c7_eq]
    try simp (disch := first | exact Nat.le_of_ble_eq_true rfl | omega) only [AXR, AXB, J.dst, reduceIte, Nat.reduceEqDiff, Nat.reduceAdd, Nat.reduceMul, Nat.reduceLT, Nat.reduceLeDiff]
    -- the last step
    have fin : ∀ (h8 : Heap) (τ : Env) (a8 : Option Addr) (m8 c8 : Nat), Ext h1 h8 → m8 ≤ 2 * (k + 1) → m8 = (wStep v r u).1.length → Own h1.size h8 108 4 a8 m8 c8 ((wStep v r u).1.flatMap eVer) →
        AX.look τ 0 = some (.slice (some ⟨b, o, none⟩) vs.length c) → AX.look τ 3 = some (ptr b1 0) → AX.look τ 5 = some (.slice a8 m8 c8) → AX.look τ 6 = some (.bool (wStep v r u).2) → AX.look τ 7 = some (vi k) →
        wC Try.prog f112c14 Q' τ h8 := by
      intro h8 τ a8 m8 c8 e8 hm8 hml O8 l0 l3 l5 l6 l7
      (try simp (disch := first | exact Nat.le_of_ble_eq_true rfl | omega) only [AXR, AXB, J.dst, reduceIte, Nat.reduceEqDiff, Nat.reduceAdd, Nat.reduceMul, Nat.reduceLT, Nat.reduceLeDiff]); rw [f112c14_eq]; (try simp (disch := first | exact Nat.le_of_ble_eq_true rfl | omega) only [AXR, AXB, J.dst, reduceIte, Nat.reduceEqDiff, Nat.reduceAdd, Nat.reduceMul, Nat.reduceLT, Nat.reduceLeDiff, f112r0, f112r1, f112r2, f112r3, f112r4, f112r5, f112r6, f112r7, f112r8, f112r9, f112r10, f112r11, f112r12, l0, l3, l5, l6, l7, hw])
      exact hnx (n - 1) _ _ (by omega) ⟨e8, k + 1, m8, c8, a8, by omega, hm8, by rw [hnext]; exact hml, by rw [hnext]; exact O8, by rw [hnext]⟩
    -- the element itself
    have mid : ∀ (h8 : Heap) (τ : Env) (a8 : Option Addr) (m8 c8 : Nat) (r1 : List Ver × Bool), Ext h1 h8 → Row h8 b (o + k * 4) (eVer u) → m8 ≤ 2 * k + 1 → m8 = r1.1.length → Own h1.size h8 108 4 a8 m8 c8 (r1.1.flatMap eVer) →
        wStep v r u = (if u.at_ = v.at_ then r1.1 else r1.1 ++ [u], r1.2) →
        AX.look τ 0 = some (.slice (some ⟨b, o, none⟩) vs.length c) → AX.look τ 3 = some (ptr b1 0) → AX.look τ 5 = some (.slice a8 m8 c8) → AX.look τ 6 = some (.bool r1.2) → AX.look τ 7 = some (vi k) →
        wC Try.prog f112c11 (X.inBlock 1 (X.then (fun σ h => wC Try.prog f112c14 Q' σ h) Q')) τ h8 := by
      intro h8 τ a8 m8 c8 r1 e8 hrow8 hm8 hml O8 hst l0 l3 l5 l6 l7
      have B8 := B1.ext e8
      have hs8 := e8.size
      rw [f112c11_eq]
      refine drw_lt ?_
      simp (disch := first | exact Nat.le_of_ble_eq_true rfl | omega) only [AXR, AXB, J.dst, reduceIte, Nat.reduceEqDiff, Nat.reduceAdd, Nat.reduceMul, Nat.reduceLT, Nat.reduceLeDiff, f112r7, l0, l3, l5, l6, l7, row_ver hrow8, B8.rd, eVer, eStamp, eqA_stampN]
      refine ⟨by omega, by omega, hrow8.lt (by rw [eVer_len]; omega), B8.lt, ?_⟩
      by_cases he : u.at_ = v.at_
      · rw [decide_eq_true he, Bool.not_true]
        rw [if_pos he] at hst
        (try simp (disch := first | exact Nat.le_of_ble_eq_true rfl | omega) only [AXR, AXB, J.dst, reduceIte, Nat.reduceEqDiff, Nat.reduceAdd, Nat.reduceMul, Nat.reduceLT, Nat.reduceLeDiff]); rw [f112c12_eq]; (try simp (disch := first | exact Nat.le_of_ble_eq_true rfl | omega) only [AXR, AXB, J.dst, reduceIte, Nat.reduceEqDiff, Nat.reduceAdd, Nat.reduceMul, Nat.reduceLT, Nat.reduceLeDiff, f112r0, f112r1, f112r2, f112r3, f112r4, f112r5, f112r6, f112r7, f112r8, f112r9, f112r10, f112r11, f112r12, br_false])
        exact fin h8 _ a8 m8 c8 e8 (by omega) (by rw [hst]; exact hml) (by rw [hst]; exact O8) rfl rfl rfl (by rw [hst]; rfl) rfl
      · rw [decide_eq_false he, Bool.not_false]
        rw [if_neg he] at hst
        (try simp (disch := first | exact Nat.le_of_ble_eq_true rfl | omega) only [AXR, AXB, J.dst, reduceIte, Nat.reduceEqDiff, Nat.reduceAdd, Nat.reduceMul, Nat.reduceLT, Nat.reduceLeDiff]); rw [f112c12_eq]; (try simp (disch := first | exact Nat.le_of_ble_eq_true rfl | omega) only [AXR, AXB, J.dst, reduceIte, Nat.reduceEqDiff, Nat.reduceAdd, Nat.reduceMul, Nat.reduceLT, Nat.reduceLeDiff, f112r0, f112r1, f112r2, f112r3, f112r4, f112r5, f112r6, f112r7, f112r8, f112r9, f112r10, f112r11, f112r12, br_true])
        (try simp (disch := first | exact Nat.le_of_ble_eq_true rfl | omega) only [AXR, AXB, J.dst, reduceIte, Nat.reduceEqDiff, Nat.reduceAdd, Nat.reduceMul, Nat.reduceLT, Nat.reduceLeDiff]); rw [f112c13_eq]; (try simp (disch := first | exact Nat.le_of_ble_eq_true rfl | omega) only [AXR, AXB, J.dst, reduceIte, Nat.reduceEqDiff, Nat.reduceAdd, Nat.reduceMul, Nat.reduceLT, Nat.reduceLeDiff, f112r0, f112r1, f112r2, f112r3, f112r4, f112r5, f112r6, f112r7, f112r8, f112r9, f112r10, f112r11, f112r12, row_ver hrow8, eVer])
        refine ⟨by omega, by omega, ?_⟩
        refine wL_bslN rfl ?_; rintro b9 h9 e9 s9 hb9 (B9 : Blk _ _ _ (eVer u))
        try simp (disch := first | exact Nat.le_of_ble_eq_true rfl | omega) only [AXR, AXB, J.dst, reduceIte, Nat.reduceEqDiff, Nat.reduceAdd, Nat.reduceMul, Nat.reduceLT, Nat.reduceLeDiff]
        rw [wL_raw]
        refine raw_pushV rfl rfl rfl (O8.ext e9) B9 (by omega) (e8.trans e9).size ?_
        intro a10 c10 h10 O10 G10 A10
        refine ⟨trivial, ?_⟩
        try simp (disch := first | exact Nat.le_of_ble_eq_true rfl | omega) only [AXR, AXB, J.dst, reduceIte, Nat.reduceEqDiff, Nat.reduceAdd, Nat.reduceMul, Nat.reduceLT, Nat.reduceLeDiff]
        exact fin h10 _ a10 (m8 + 1) c10 (G10.ext (e8.trans e9) (fun j hj => (O8.ob j hj).1)) (by omega) (by rw [hst]; simp [hml]) (by rw [hst]; exact O10) rfl rfl rfl (by rw [hst]; rfl) rfl
    have B2 := B1.ext e2
    have hc9 : ∀ (h8 : Heap) (t : Bool), Ext h' h8 → t = (!r.2 && !Stamp.lt u.at_ v.at_) →
        wC Try.prog f112c9 (X.inBlock 1 (X.then (fun σ h => wC Try.prog f112c14 Q' σ h) Q')) [(0, .slice (some ⟨b, o, none⟩) vs.length c), (3, ptr b1 0), (5, .slice a' m c'), (6, .bool r.2), (7, vi k), (26, .bool t)] h8 := by
      intro h8 t e8 ht
      cases t with
      | false =>
        (try simp (disch := first | exact Nat.le_of_ble_eq_true rfl | omega) only [AXR, AXB, J.dst, reduceIte, Nat.reduceEqDiff, Nat.reduceAdd, Nat.reduceMul, Nat.reduceLT, Nat.reduceLeDiff]); rw [f112c9_eq]; (try simp (disch := first | exact Nat.le_of_ble_eq_true rfl | omega) only [AXR, AXB, J.dst, reduceIte, Nat.reduceEqDiff, Nat.reduceAdd, Nat.reduceMul, Nat.reduceLT, Nat.reduceLeDiff, f112r0, f112r1, f112r2, f112r3, f112r4, f112r5, f112r6, f112r7, f112r8, f112r9, f112r10, f112r11, f112r12, br_false])
        exact mid h8 _ a' m c' r (e2.trans e8) (hrow.ext e8) (by omega) hm (O.ext e8) (by unfold wStep; rw [← ht]; rfl) rfl rfl rfl rfl rfl
      | true =>
        (try simp (disch := first | exact Nat.le_of_ble_eq_true rfl | omega) only [AXR, AXB, J.dst, reduceIte, Nat.reduceEqDiff, Nat.reduceAdd, Nat.reduceMul, Nat.reduceLT, Nat.reduceLeDiff]); rw [f112c9_eq]; (try simp (disch := first | exact Nat.le_of_ble_eq_true rfl | omega) only [AXR, AXB, J.dst, reduceIte, Nat.reduceEqDiff, Nat.reduceAdd, Nat.reduceMul, Nat.reduceLT, Nat.reduceLeDiff, f112r0, f112r1, f112r2, f112r3, f112r4, f112r5, f112r6, f112r7, f112r8, f112r9, f112r10, f112r11, f112r12, br_true])
        (try simp (disch := first | exact Nat.le_of_ble_eq_true rfl | omega) only [AXR, AXB, J.dst, reduceIte, Nat.reduceEqDiff, Nat.reduceAdd, Nat.reduceMul, Nat.reduceLT, Nat.reduceLeDiff]); rw [f112c10_eq]; (try simp (disch := first | exact Nat.le_of_ble_eq_true rfl | omega) only [AXR, AXB, J.dst, reduceIte, Nat.reduceEqDiff, Nat.reduceAdd, Nat.reduceMul, Nat.reduceLT, Nat.reduceLeDiff, f112r0, f112r1, f112r2, f112r3, f112r4, f112r5, f112r6, f112r7, f112r8, f112r9, f112r10, f112r11, f112r12, (B2.ext e8).rd, eVer])
        refine wL_bslN rfl ?_; rintro b9 h9 e9 s9 hb9 (B9 : Blk _ _ _ (eVer v))
        try simp (disch := first | exact Nat.le_of_ble_eq_true rfl | omega) only [AXR, AXB, J.dst, reduceIte, Nat.reduceEqDiff, Nat.reduceAdd, Nat.reduceMul, Nat.reduceLT, Nat.reduceLeDiff]
        rw [wL_raw]
        have e89 := e8.trans e9
        refine raw_pushV rfl rfl rfl (O.ext e89) B9 (by omega) (e2.trans e89).size ?_
        intro a10 c10 h10 O10 G10 A10
        refine ⟨trivial, ?_⟩
        try simp (disch := first | exact Nat.le_of_ble_eq_true rfl | omega) only [AXR, AXB, J.dst, reduceIte, Nat.reduceEqDiff, Nat.reduceAdd, Nat.reduceMul, Nat.reduceLT, Nat.reduceLeDiff]
        have hxs : ∀ j, ob a' = some j → h1.size ≤ j := fun j hj => (hO j hj).1
        have hrow10 : Row h10 b (o + k * 4) (eVer u) := by
          refine G10.row (hrow.ext e89) (fun e => ?_)
          have := hxs b e.symm
          have := e1.size
          omega
        exact mid h10 _ a10 (m + 1) c10 (r.1 ++ [v], true) (G10.ext (e2.trans e89) hxs) hrow10 (by omega) (by simp [hm]) O10 (by unfold wStep; rw [← ht]; rfl) rfl rfl rfl rfl rfl
    rw [f112c8_eq]
    refine drw_lt ?_
    simp (disch := first | exact Nat.le_of_ble_eq_true rfl | omega) only [AXR, AXB, J.dst, reduceIte, Nat.reduceEqDiff, Nat.reduceAdd, Nat.reduceMul, Nat.reduceLT, Nat.reduceLeDiff, f112r5, row_ver hrow, B2.rd, eVer, eStamp]
    refine ⟨fun hh => ?_, fun hh => ?_⟩
    · have hf : r.2 = false := by simpa using hh
      refine ⟨by omega, by omega, hrow.lt (by rw [eVer_len]; omega), B2.lt, ?_⟩
      refine rless_ok u.at_ v.at_ _ ?_
      intro h8 e8
      refine ⟨kp_ext (Nat.le_refl _) e8, ?_⟩
      try simp (disch := first | exact Nat.le_of_ble_eq_true rfl | omega) only [AXR, AXB, J.dst, reduceIte, Nat.reduceEqDiff, Nat.reduceAdd, Nat.reduceMul, Nat.reduceLT, Nat.reduceLeDiff]
      have := hc9 h8 (!Stamp.lt u.at_ v.at_) e8 (by rw [hf]; rfl)
      exact this
    · have hf : r.2 = true := by simpa using hh
      have := hc9 h' false (Ext.refl _) (by rw [hf]; rfl)
      exact this
  · have hkl : k = vs.length := by have := of_decide_eq_false h2; omega
    subst hkl
    refine hex _ _ ?_
    rw [List.take_length] at hr
    have hwv : withV vs v = if r.2 then r.1 else r.1 ++ [v] := by unfold withV; rw [hr]
    (try simp (disch := first | exact Nat.le_of_ble_eq_true rfl | omega) only [AXR, AXB, J.dst, reduceIte, Nat.reduceEqDiff, Nat.reduceAdd, Nat.reduceMul, Nat.reduceLT, Nat.reduceLeDiff]); rw [f112c15_eq]; (try simp (disch := first | exact Nat.le_of_ble_eq_true rfl | omega) only [AXR, AXB, J.dst, reduceIte, Nat.reduceEqDiff, Nat.reduceAdd, Nat.reduceMul, Nat.reduceLT, Nat.reduceLeDiff, f112r0, f112r1, f112r2, f112r3, f112r4, f112r5, f112r6, f112r7, f112r8, f112r9, f112r10, f112r11, f112r12, hr]); rw [f112c16_eq]; (try simp (disch := first | exact Nat.le_of_ble_eq_true rfl | omega) only [AXR, AXB, J.dst, reduceIte, Nat.reduceEqDiff, Nat.reduceAdd, Nat.reduceMul, Nat.reduceLT, Nat.reduceLeDiff, f112r0, f112r1, f112r2, f112r3, f112r4, f112r5, f112r6, f112r7, f112r8, f112r9, f112r10, f112r11, f112r12, hr])
    refine ⟨fun hh => ?_, fun hh => ?_⟩
    · have hf : r.2 = false := by simpa using hh
      (try simp (disch := first | exact Nat.le_of_ble_eq_true rfl | omega) only [AXR, AXB, J.dst, reduceIte, Nat.reduceEqDiff, Nat.reduceAdd, Nat.reduceMul, Nat.reduceLT, Nat.reduceLeDiff]); rw [f112c17_eq]; (try simp (disch := first | exact Nat.le_of_ble_eq_true rfl | omega) only [AXR, AXB, J.dst, reduceIte, Nat.reduceEqDiff, Nat.reduceAdd, Nat.reduceMul, Nat.reduceLT, Nat.reduceLeDiff, f112r0, f112r1, f112r2, f112r3, f112r4, f112r5, f112r6, f112r7, f112r8, f112r9, f112r10, f112r11, f112r12, (B1.ext e2).rd, eVer])
      refine wL_bslN rfl ?_; rintro b9 h9 e9 s9 hb9 (B9 : Blk _ _ _ (eVer v))
      try simp (disch := first | exact Nat.le_of_ble_eq_true rfl | omega) only [AXR, AXB, J.dst, reduceIte, Nat.reduceEqDiff, Nat.reduceAdd, Nat.reduceMul, Nat.reduceLT, Nat.reduceLeDiff]
      rw [wL_raw]
      refine raw_pushV rfl rfl rfl (O.ext e9) B9 (by omega) (e2.trans e9).size ?_
      intro a10 c10 h10 O10 G10 A10
      refine ⟨trivial, ?_⟩
      try simp (disch := first | exact Nat.le_of_ble_eq_true rfl | omega) only [AXR, AXB, J.dst, reduceIte, Nat.reduceEqDiff, Nat.reduceAdd, Nat.reduceMul, Nat.reduceLT, Nat.reduceLeDiff]
      (try simp (disch := first | exact Nat.le_of_ble_eq_true rfl | omega) only [AXR, AXB, J.dst, reduceIte, Nat.reduceEqDiff, Nat.reduceAdd, Nat.reduceMul, Nat.reduceLT, Nat.reduceLeDiff]); rw [f112c18_eq]; (try simp (disch := first | exact Nat.le_of_ble_eq_true rfl | omega) only [AXR, AXB, J.dst, reduceIte, Nat.reduceEqDiff, Nat.reduceAdd, Nat.reduceMul, Nat.reduceLT, Nat.reduceLeDiff, f112r0, f112r1, f112r2, f112r3, f112r4, f112r5, f112r6, f112r7, f112r8, f112r9, f112r10, f112r11, f112r12])
      have hp : withV vs v = r.1 ++ [v] := by rw [hwv, hf]; rfl
      refine hR _ _ _ _ ?_ ?_ (G10.ext (eh.trans e9) (fun j hj => by have := O.ob j hj; have := e1.size; omega))
      · rw [hp]; exact O10.mono e1.size
      · rw [hp]; simp [hm]
    · have hf : r.2 = true := by simpa using hh
      (try simp (disch := first | exact Nat.le_of_ble_eq_true rfl | omega) only [AXR, AXB, J.dst, reduceIte, Nat.reduceEqDiff, Nat.reduceAdd, Nat.reduceMul, Nat.reduceLT, Nat.reduceLeDiff]); rw [f112c18_eq]; (try simp (disch := first | exact Nat.le_of_ble_eq_true rfl | omega) only [AXR, AXB, J.dst, reduceIte, Nat.reduceEqDiff, Nat.reduceAdd, Nat.reduceMul, Nat.reduceLT, Nat.reduceLeDiff, f112r0, f112r1, f112r2, f112r3, f112r4, f112r5, f112r6, f112r7, f112r8, f112r9, f112r10, f112r11, f112r12])
      have hp : withV vs v = r.1 := by rw [hwv, hf]; rfl
      refine hR _ _ _ _ ?_ ?_ eh
      · rw [hp]; exact O.mono e1.size
      · rw [hp]; exact hm
end Go.Proofs.Ytefghfgmkndikaa
