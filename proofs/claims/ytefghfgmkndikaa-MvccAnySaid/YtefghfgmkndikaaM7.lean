/-
  Walks: the reference's with.
-/
import Derived.Test.YtefghfgmkndikaaM6
import Derived.Test.YtefghfgmkndikaaM2
set_option linter.unusedSimpArgs false
set_option linter.unusedVariables false
namespace Go.AX
open Go
def wStep (v : Ver) (r : List Ver × Bool) (u : Ver) : List Ver × Bool :=
  let r1 := if !r.2 && !Stamp.lt u.at_ v.at_ then (r.1 ++ [v], true) else r
  (if u.at_ = v.at_ then r1.1 else r1.1 ++ [u], r1.2)
def withV (vs : List Ver) (v : Ver) : List Ver := let r := vs.foldl (wStep v) ([], false); if r.2 then r.1 else r.1 ++ [v]
end Go.AX
namespace Go.Proofs.Ytefghfgmkndikaa
open Go Go.AX

/-- A version is appended. -/
theorem raw_pushV {o : Oper} {σ : Env} {h : Heap} {K : Value → Heap → Prop} {x y : Operand} (ho : o.op = .call ⟨.builtin .append, #[x, y], #[101, 101]⟩) {a : Option Addr} {n c lo b : Nat} {vs : List Ver} {v : Ver}
    (hx : evO σ x = some (.slice a n c)) (hy : evO σ y = some (sl b 0 1 1)) (O : Own lo h 108 4 a n c (vs.flatMap eVer)) (B : Blk h b 108 (eVer v)) (hn : n ≤ 10 * big) (hlo : lo ≤ h.size)
    (H : ∀ a' c' h', Own lo h' 108 4 a' (n + 1) c' ((vs ++ [v]).flatMap eVer) → Gr (ob a) h h' → (ob a' = ob a ∨ ∃ k, ob a' = some k ∧ h.size ≤ k) → K (.slice a' (n + 1) c') h') : RawW Try.prog o σ h K := by
  have hbig : big = 1000000 := rfl
  refine raw_append slT101 ho hx hy O (news := eVer v) (by rw [eVer_len]) (.inr ⟨b, 0, rfl, B.row⟩) (eVer_one v) (by unfold maxLen; omega) (by omega) hlo ?_
  intro a' c' h' O' G A
  refine H a' c' h' ?_ G A
  rw [List.flatMap_append]
  simpa using O'

theorem with_ok {B : Nat → Prop} {a : Option Addr} {c : Nat} (vs : List Ver) (v : Ver) (h : Heap) (S : SlF B h eVer a vs) (hn : vs.length ≤ big) {R : Value → Heap → Prop}
    (hR : ∀ a' n' c' h', Own h.size h' 108 4 a' n' c' ((withV vs v).flatMap eVer) → n' = (withV vs v).length → Ext h h' → R (.slice a' n' c') h') :
    CallsH Try.prog 112 [.slice a vs.length c, .agg (eVer v).toArray] h R := by
  have hbig : big = 1000000 := rfl
  refine f112ok (by simp) ?_
  (try simp (disch := first | exact Nat.le_of_ble_eq_true rfl | omega) only [AXR, AXB, J.dst, reduceIte, Nat.reduceEqDiff, Nat.reduceAdd, Nat.reduceMul, Nat.reduceLT, Nat.reduceLeDiff]); rw [f112c0_eq]; (try simp (disch := first | exact Nat.le_of_ble_eq_true rfl | omega) only [AXR, AXB, J.dst, reduceIte, Nat.reduceEqDiff, Nat.reduceAdd, Nat.reduceMul, Nat.reduceLT, Nat.reduceLeDiff, f112r0, f112r1, f112r2, f112r3, f112r4, f112r5, f112r6, f112r7, f112r8, f112r9, f112r10, f112r11, f112r12])
  refine wL_boxN rfl ?_; rintro b1 h1 e1 s1 hb1 (B1 : Blk _ _ _ (eVer v))
  (try simp (disch := first | exact Nat.le_of_ble_eq_true rfl | omega) only [AXR, AXB, J.dst, reduceIte, Nat.reduceEqDiff, Nat.reduceAdd, Nat.reduceMul, Nat.reduceLT, Nat.reduceLeDiff]); rw [f112c1_eq]; (try simp (disch := first | exact Nat.le_of_ble_eq_true rfl | omega) only [AXR, AXB, J.dst, reduceIte, Nat.reduceEqDiff, Nat.reduceAdd, Nat.reduceMul, Nat.reduceLT, Nat.reduceLeDiff, f112r0, f112r1, f112r2, f112r3, f112r4, f112r5, f112r6, f112r7, f112r8, f112r9, f112r10, f112r11, f112r12]); rw [f112c2_eq]; (try simp (disch := first | exact Nat.le_of_ble_eq_true rfl | omega) only [AXR, AXB, J.dst, reduceIte, Nat.reduceEqDiff, Nat.reduceAdd, Nat.reduceMul, Nat.reduceLT, Nat.reduceLeDiff, f112r0, f112r1, f112r2, f112r3, f112r4, f112r5, f112r6, f112r7, f112r8, f112r9, f112r10, f112r11, f112r12]); rw [f112c3_eq]; (try simp (disch := first | exact Nat.le_of_ble_eq_true rfl | omega) only [AXR, AXB, J.dst, reduceIte, Nat.reduceEqDiff, Nat.reduceAdd, Nat.reduceMul, Nat.reduceLT, Nat.reduceLeDiff, f112r0, f112r1, f112r2, f112r3, f112r4, f112r5, f112r6, f112r7, f112r8, f112r9, f112r10, f112r11, f112r12])
  rw [f112c4_eq]
  refine loop_in (fun n σ h' => Ext h1 h' ∧ ∃ (k m c' : Nat) (a' : Option Addr), k + n = vs.length ∧ m ≤ 2 * k ∧ m = ((vs.take k).foldl (wStep v) ([], false)).1.length ∧
      Own h1.size h' 108 4 a' m c' (((vs.take k).foldl (wStep v) ([], false)).1.flatMap eVer) ∧
      σ = [(0, .slice a vs.length c), (3, ptr b1 0), (5, .slice a' m c'), (6, .bool ((vs.take k).foldl (wStep v) ([], false)).2), (7, vi k)])
    vs.length ⟨Ext.refl _, 0, 0, 0, none, by omega, by omega, rfl, Own.nil _ _ _ _, rfl⟩ ?_
  rintro n σ h' ⟨e2, k, m, c', a', hk, hm2, hm, O, rfl⟩ Q' hnx hex hrt _
  have eh := e1.trans e2
  have hs2 := e2.size
  have hs1 := B1.lt
  generalize hr : (vs.take k).foldl (wStep v) ([], false) = r at hm O
  (try simp (disch := first | exact Nat.le_of_ble_eq_true rfl | omega) only [AXR, AXB, J.dst, reduceIte, Nat.reduceEqDiff, Nat.reduceAdd, Nat.reduceMul, Nat.reduceLT, Nat.reduceLeDiff]); rw [f112c5_eq]; (try simp (disch := first | exact Nat.le_of_ble_eq_true rfl | omega) only [AXR, AXB, J.dst, reduceIte, Nat.reduceEqDiff, Nat.reduceAdd, Nat.reduceMul, Nat.reduceLT, Nat.reduceLeDiff, f112r0, f112r1, f112r2, f112r3, f112r4, f112r5, f112r6, f112r7, f112r8, f112r9, f112r10, f112r11, f112r12]); rw [f112c6_eq]; (try simp (disch := first | exact Nat.le_of_ble_eq_true rfl | omega) only [AXR, AXB, J.dst, reduceIte, Nat.reduceEqDiff, Nat.reduceAdd, Nat.reduceMul, Nat.reduceLT, Nat.reduceLeDiff, f112r0, f112r1, f112r2, f112r3, f112r4, f112r5, f112r6, f112r7, f112r8, f112r9, f112r10, f112r11, f112r12])
  refine ⟨fun h2 => ?_, fun h2 => ?_⟩
  · have hkl : k < vs.length := by have := of_decide_eq_true h2; omega
    obtain ⟨u, hu⟩ := get_ex hkl
    obtain ⟨b, o, rfl, _, hrow0⟩ := S.elem eVer_len hu
    have hbl := hrow0.lt (by rw [eVer_len]; omega)
    have hrow := hrow0.ext eh
    have hnext : (vs.take (k + 1)).foldl (wStep v) ([], false) = wStep v r u := by
      rw [List.take_add_one, hu, List.foldl_append, hr]; rfl
    have hw : IntKind.i64.wrap ((k : Int) + 1) = ((k + 1 : Nat) : Int) := i64_wrap (by omega) (by omega)
    have hO := O.ob
    rw [f112c7_eq]
    try simp (disch := first | exact Nat.le_of_ble_eq_true rfl | omega) only [AXR, AXB, J.dst, reduceIte, Nat.reduceEqDiff, Nat.reduceAdd, Nat.reduceMul, Nat.reduceLT, Nat.reduceLeDiff]
    -- the last step
    have fin : ∀ (h8 : Heap) (τ : Env) (a8 : Option Addr) (m8 c8 : Nat), Ext h1 h8 → m8 ≤ 2 * (k + 1) → m8 = (wStep v r u).1.length → Own h1.size h8 108 4 a8 m8 c8 ((wStep v r u).1.flatMap eVer) →
        AX.look τ 0 = some (.slice (some ⟨b, o, none⟩) vs.length c) → AX.look τ 3 = some (ptr b1 0) → AX.look τ 5 = some (.slice a8 m8 c8) → AX.look τ 6 = some (.bool (wStep v r u).2) → AX.look τ 7 = some (vi k) →
        wC Try.prog f112c14 Q' τ h8 := by
      intro h8 τ a8 m8 c8 e8 hm8 hml O8 l0 l3 l5 l6 l7
      (try simp (disch := first | exact Nat.le_of_ble_eq_true rfl | omega) only [AXR, AXB, J.dst, reduceIte, Nat.reduceEqDiff, Nat.reduceAdd, Nat.reduceMul, Nat.reduceLT, Nat.reduceLeDiff]); rw [f112c14_eq]; (try simp (disch := first | exact Nat.le_of_ble_eq_true rfl | omega) only [AXR, AXB, J.dst, reduceIte, Nat.reduceEqDiff, Nat.reduceAdd, Nat.reduceMul, Nat.reduceLT, Nat.reduceLeDiff, f112r0, f112r1, f112r2, f112r3, f112r4, f112r5, f112r6, f112r7, f112r8, f112r9, f112r10, f112r11, f112r12, l0, l3, l5, l6, l7, hw])
      exact hnx (n - 1) _ _ (by omega) ⟨e8, k + 1, m8, c8, a8, by omega, hm8, by rw [hnext]; exact hml, by rw [hnext]; exact O8, by rw [hnext]⟩
    -- the element itself
    have mid : ∀ (h8 : Heap) (τ : Env) (a8 : Option Addr) (m8 c8 : Nat) (r1 : List Ver × Bool), Ext h1 h8 → Row h8 b (o + k * 4) (eVer u) → m8 ≤ 2 * k + 1 → m8 = r1.1.length → Own h1.size h8 108 4 a8 m8 c8 (r1.1.flatMap eVer) →
        wStep v r u = (if u.at_ = v.at_ then r1.1 else r1.1 ++ [u], r1.2) →
        AX.look τ 0 = some (.slice (some ⟨b, o, none⟩) vs.length c) → AX.look τ 3 = some (ptr b1 0) → AX.look τ 5 = some (.slice a8 m8 c8) → AX.look τ 6 = some (.bool r1.2) → AX.look τ 7 = some (vi k) →
        wC Try.prog f112c11 (X.inBlock 1 (X.then (fun σ h => wC Try.prog f112c14 Q' σ h) Q')) τ h8 := by
      intro h8 τ a8 m8 c8 r1 e8 hrow8 hm8 hml O8 hst l0 l3 l5 l6 l7
      have B8 := B1.ext e8
      have hs8 := e8.size
      rw [f112c11_eq]
      refine drw_lt ?_
      simp (disch := first | exact Nat.le_of_ble_eq_true rfl | omega) only [AXR, AXB, J.dst, reduceIte, Nat.reduceEqDiff, Nat.reduceAdd, Nat.reduceMul, Nat.reduceLT, Nat.reduceLeDiff, f112r7, l0, l3, l5, l6, l7, row_ver hrow8, B8.rd, eVer, eStamp, eqA_stampN]
      refine ⟨by omega, by omega, hrow8.lt (by rw [eVer_len]; omega), B8.lt, ?_⟩
      by_cases he : u.at_ = v.at_
      · rw [decide_eq_true he, Bool.not_true]
        rw [if_pos he] at hst
        (try simp (disch := first | exact Nat.le_of_ble_eq_true rfl | omega) only [AXR, AXB, J.dst, reduceIte, Nat.reduceEqDiff, Nat.reduceAdd, Nat.reduceMul, Nat.reduceLT, Nat.reduceLeDiff]); rw [f112c12_eq]; (try simp (disch := first | exact Nat.le_of_ble_eq_true rfl | omega) only [AXR, AXB, J.dst, reduceIte, Nat.reduceEqDiff, Nat.reduceAdd, Nat.reduceMul, Nat.reduceLT, Nat.reduceLeDiff, f112r0, f112r1, f112r2, f112r3, f112r4, f112r5, f112r6, f112r7, f112r8, f112r9, f112r10, f112r11, f112r12, br_false])
        exact fin h8 _ a8 m8 c8 e8 (by omega) (by rw [hst]; exact hml) (by rw [hst]; exact O8) rfl rfl rfl (by rw [hst]; rfl) rfl
      · rw [decide_eq_false he, Bool.not_false]
        rw [if_neg he] at hst
        (try simp (disch := first | exact Nat.le_of_ble_eq_true rfl | omega) only [AXR, AXB, J.dst, reduceIte, Nat.reduceEqDiff, Nat.reduceAdd, Nat.reduceMul, Nat.reduceLT, Nat.reduceLeDiff]); rw [f112c12_eq]; (try simp (disch := first | exact Nat.le_of_ble_eq_true rfl | omega) only [AXR, AXB, J.dst, reduceIte, Nat.reduceEqDiff, Nat.reduceAdd, Nat.reduceMul, Nat.reduceLT, Nat.reduceLeDiff, f112r0, f112r1, f112r2, f112r3, f112r4, f112r5, f112r6, f112r7, f112r8, f112r9, f112r10, f112r11, f112r12, br_true])
        (try simp (disch := first | exact Nat.le_of_ble_eq_true rfl | omega) only [AXR, AXB, J.dst, reduceIte, Nat.reduceEqDiff, Nat.reduceAdd, Nat.reduceMul, Nat.reduceLT, Nat.reduceLeDiff]); rw [f112c13_eq]; (try simp (disch := first | exact Nat.le_of_ble_eq_true rfl | omega) only [AXR, AXB, J.dst, reduceIte, Nat.reduceEqDiff, Nat.reduceAdd, Nat.reduceMul, Nat.reduceLT, Nat.reduceLeDiff, f112r0, f112r1, f112r2, f112r3, f112r4, f112r5, f112r6, f112r7, f112r8, f112r9, f112r10, f112r11, f112r12, row_ver hrow8, eVer])
        refine ⟨by omega, by omega, ?_⟩
        refine wL_bslN rfl ?_; rintro b9 h9 e9 s9 hb9 (B9 : Blk _ _ _ (eVer u))
        try simp (disch := first | exact Nat.le_of_ble_eq_true rfl | omega) only [AXR, AXB, J.dst, reduceIte, Nat.reduceEqDiff, Nat.reduceAdd, Nat.reduceMul, Nat.reduceLT, Nat.reduceLeDiff]
        rw [wL_raw]
        refine raw_pushV rfl rfl rfl (O8.ext e9) B9 (by omega) (e8.trans e9).size ?_
        intro a10 c10 h10 O10 G10 A10
        refine ⟨trivial, ?_⟩
        try simp (disch := first | exact Nat.le_of_ble_eq_true rfl | omega) only [AXR, AXB, J.dst, reduceIte, Nat.reduceEqDiff, Nat.reduceAdd, Nat.reduceMul, Nat.reduceLT, Nat.reduceLeDiff]
        exact fin h10 _ a10 (m8 + 1) c10 (G10.ext (e8.trans e9) (fun j hj => (O8.ob j hj).1)) (by omega) (by rw [hst]; simp [hml]) (by rw [hst]; exact O10) rfl rfl rfl (by rw [hst]; rfl) rfl
    have B2 := B1.ext e2
    have hc9 : ∀ (h8 : Heap) (t : Bool), Ext h' h8 → t = (!r.2 && !Stamp.lt u.at_ v.at_) →
        wC Try.prog f112c9 (X.inBlock 1 (X.then (fun σ h => wC Try.prog f112c14 Q' σ h) Q')) [(0, .slice (some ⟨b, o, none⟩) vs.length c), (3, ptr b1 0), (5, .slice a' m c'), (6, .bool r.2), (7, vi k), (26, .bool t)] h8 := by
      intro h8 t e8 ht
      cases t with
      | false =>
        (try simp (disch := first | exact Nat.le_of_ble_eq_true rfl | omega) only [AXR, AXB, J.dst, reduceIte, Nat.reduceEqDiff, Nat.reduceAdd, Nat.reduceMul, Nat.reduceLT, Nat.reduceLeDiff]); rw [f112c9_eq]; (try simp (disch := first | exact Nat.le_of_ble_eq_true rfl | omega) only [AXR, AXB, J.dst, reduceIte, Nat.reduceEqDiff, Nat.reduceAdd, Nat.reduceMul, Nat.reduceLT, Nat.reduceLeDiff, f112r0, f112r1, f112r2, f112r3, f112r4, f112r5, f112r6, f112r7, f112r8, f112r9, f112r10, f112r11, f112r12, br_false])
        exact mid h8 _ a' m c' r (e2.trans e8) (hrow.ext e8) (by omega) hm (O.ext e8) (by unfold wStep; rw [← ht]; rfl) rfl rfl rfl rfl rfl
      | true =>
        (try simp (disch := first | exact Nat.le_of_ble_eq_true rfl | omega) only [AXR, AXB, J.dst, reduceIte, Nat.reduceEqDiff, Nat.reduceAdd, Nat.reduceMul, Nat.reduceLT, Nat.reduceLeDiff]); rw [f112c9_eq]; (try simp (disch := first | exact Nat.le_of_ble_eq_true rfl | omega) only [AXR, AXB, J.dst, reduceIte, Nat.reduceEqDiff, Nat.reduceAdd, Nat.reduceMul, Nat.reduceLT, Nat.reduceLeDiff, f112r0, f112r1, f112r2, f112r3, f112r4, f112r5, f112r6, f112r7, f112r8, f112r9, f112r10, f112r11, f112r12, br_true])
        (try simp (disch := first | exact Nat.le_of_ble_eq_true rfl | omega) only [AXR, AXB, J.dst, reduceIte, Nat.reduceEqDiff, Nat.reduceAdd, Nat.reduceMul, Nat.reduceLT, Nat.reduceLeDiff]); rw [f112c10_eq]; (try simp (disch := first | exact Nat.le_of_ble_eq_true rfl | omega) only [AXR, AXB, J.dst, reduceIte, Nat.reduceEqDiff, Nat.reduceAdd, Nat.reduceMul, Nat.reduceLT, Nat.reduceLeDiff, f112r0, f112r1, f112r2, f112r3, f112r4, f112r5, f112r6, f112r7, f112r8, f112r9, f112r10, f112r11, f112r12, (B2.ext e8).rd, eVer])
        refine wL_bslN rfl ?_; rintro b9 h9 e9 s9 hb9 (B9 : Blk _ _ _ (eVer v))
        try simp (disch := first | exact Nat.le_of_ble_eq_true rfl | omega) only [AXR, AXB, J.dst, reduceIte, Nat.reduceEqDiff, Nat.reduceAdd, Nat.reduceMul, Nat.reduceLT, Nat.reduceLeDiff]
        rw [wL_raw]
        have e89 := e8.trans e9
        refine raw_pushV rfl rfl rfl (O.ext e89) B9 (by omega) (e2.trans e89).size ?_
        intro a10 c10 h10 O10 G10 A10
        refine ⟨trivial, ?_⟩
        try simp (disch := first | exact Nat.le_of_ble_eq_true rfl | omega) only [AXR, AXB, J.dst, reduceIte, Nat.reduceEqDiff, Nat.reduceAdd, Nat.reduceMul, Nat.reduceLT, Nat.reduceLeDiff]
        have hxs : ∀ j, ob a' = some j → h1.size ≤ j := fun j hj => (hO j hj).1
        have hrow10 : Row h10 b (o + k * 4) (eVer u) := by
          refine G10.row (hrow.ext e89) (fun e => ?_)
          have := hxs b e.symm
          have := e1.size
          omega
        exact mid h10 _ a10 (m + 1) c10 (r.1 ++ [v], true) (G10.ext (e2.trans e89) hxs) hrow10 (by omega) (by simp [hm]) O10 (by unfold wStep; rw [← ht]; rfl) rfl rfl rfl rfl rfl
    rw [f112c8_eq]
    refine drw_lt ?_
    simp (disch := first | exact Nat.le_of_ble_eq_true rfl | omega) only [AXR, AXB, J.dst, reduceIte, Nat.reduceEqDiff, Nat.reduceAdd, Nat.reduceMul, Nat.reduceLT, Nat.reduceLeDiff, f112r5, row_ver hrow, B2.rd, eVer, eStamp]
    refine ⟨fun hh => ?_, fun hh => ?_⟩
    · have hf : r.2 = false := by simpa using hh
      refine ⟨by omega, by omega, hrow.lt (by rw [eVer_len]; omega), B2.lt, ?_⟩
      refine rless_ok u.at_ v.at_ _ ?_
      intro h8 e8
      refine ⟨kp_ext (Nat.le_refl _) e8, ?_⟩
      try simp (disch := first | exact Nat.le_of_ble_eq_true rfl | omega) only [AXR, AXB, J.dst, reduceIte, Nat.reduceEqDiff, Nat.reduceAdd, Nat.reduceMul, Nat.reduceLT, Nat.reduceLeDiff]
      have := hc9 h8 (!Stamp.lt u.at_ v.at_) e8 (by rw [hf]; rfl)
      exact this
    · have hf : r.2 = true := by simpa using hh
      have := hc9 h' false (Ext.refl _) (by rw [hf]; rfl)
      exact this
  · have hkl : k = vs.length := by have := of_decide_eq_false h2; omega
    subst hkl
    refine hex _ _ ?_
    rw [List.take_length] at hr
    have hwv : withV vs v = if r.2 then r.1 else r.1 ++ [v] := by unfold withV; rw [hr]
    (try simp (disch := first | exact Nat.le_of_ble_eq_true rfl | omega) only [AXR, AXB, J.dst, reduceIte, Nat.reduceEqDiff, Nat.reduceAdd, Nat.reduceMul, Nat.reduceLT, Nat.reduceLeDiff]); rw [f112c15_eq]; (try simp (disch := first | exact Nat.le_of_ble_eq_true rfl | omega) only [AXR, AXB, J.dst, reduceIte, Nat.reduceEqDiff, Nat.reduceAdd, Nat.reduceMul, Nat.reduceLT, Nat.reduceLeDiff, f112r0, f112r1, f112r2, f112r3, f112r4, f112r5, f112r6, f112r7, f112r8, f112r9, f112r10, f112r11, f112r12, hr]); rw [f112c16_eq]; (try simp (disch := first | exact Nat.le_of_ble_eq_true rfl | omega) only [AXR, AXB, J.dst, reduceIte, Nat.reduceEqDiff, Nat.reduceAdd, Nat.reduceMul, Nat.reduceLT, Nat.reduceLeDiff, f112r0, f112r1, f112r2, f112r3, f112r4, f112r5, f112r6, f112r7, f112r8, f112r9, f112r10, f112r11, f112r12, hr])
    refine ⟨fun hh => ?_, fun hh => ?_⟩
    · have hf : r.2 = false := by simpa using hh
      (try simp (disch := first | exact Nat.le_of_ble_eq_true rfl | omega) only [AXR, AXB, J.dst, reduceIte, Nat.reduceEqDiff, Nat.reduceAdd, Nat.reduceMul, Nat.reduceLT, Nat.reduceLeDiff]); rw [f112c17_eq]; (try simp (disch := first | exact Nat.le_of_ble_eq_true rfl | omega) only [AXR, AXB, J.dst, reduceIte, Nat.reduceEqDiff, Nat.reduceAdd, Nat.reduceMul, Nat.reduceLT, Nat.reduceLeDiff, f112r0, f112r1, f112r2, f112r3, f112r4, f112r5, f112r6, f112r7, f112r8, f112r9, f112r10, f112r11, f112r12, (B1.ext e2).rd, eVer])
      refine wL_bslN rfl ?_; rintro b9 h9 e9 s9 hb9 (B9 : Blk _ _ _ (eVer v))
      try simp (disch := first | exact Nat.le_of_ble_eq_true rfl | omega) only [AXR, AXB, J.dst, reduceIte, Nat.reduceEqDiff, Nat.reduceAdd, Nat.reduceMul, Nat.reduceLT, Nat.reduceLeDiff]
      rw [wL_raw]
      refine raw_pushV rfl rfl rfl (O.ext e9) B9 (by omega) (e2.trans e9).size ?_
      intro a10 c10 h10 O10 G10 A10
      refine ⟨trivial, ?_⟩
      try simp (disch := first | exact Nat.le_of_ble_eq_true rfl | omega) only [AXR, AXB, J.dst, reduceIte, Nat.reduceEqDiff, Nat.reduceAdd, Nat.reduceMul, Nat.reduceLT, Nat.reduceLeDiff]
      (try simp (disch := first | exact Nat.le_of_ble_eq_true rfl | omega) only [AXR, AXB, J.dst, reduceIte, Nat.reduceEqDiff, Nat.reduceAdd, Nat.reduceMul, Nat.reduceLT, Nat.reduceLeDiff]); rw [f112c18_eq]; (try simp (disch := first | exact Nat.le_of_ble_eq_true rfl | omega) only [AXR, AXB, J.dst, reduceIte, Nat.reduceEqDiff, Nat.reduceAdd, Nat.reduceMul, Nat.reduceLT, Nat.reduceLeDiff, f112r0, f112r1, f112r2, f112r3, f112r4, f112r5, f112r6, f112r7, f112r8, f112r9, f112r10, f112r11, f112r12])
      have hp : withV vs v = r.1 ++ [v] := by rw [hwv, hf]; rfl
      refine hR _ _ _ _ ?_ ?_ (G10.ext (eh.trans e9) (fun j hj => by have := O.ob j hj; have := e1.size; omega))
      · rw [hp]; exact O10.mono e1.size
      · rw [hp]; simp [hm]
    · have hf : r.2 = true := by simpa using hh
      (try simp (disch := first | exact Nat.le_of_ble_eq_true rfl | omega) only [AXR, AXB, J.dst, reduceIte, Nat.reduceEqDiff, Nat.reduceAdd, Nat.reduceMul, Nat.reduceLT, Nat.reduceLeDiff]); rw [f112c18_eq]; (try simp (disch := first | exact Nat.le_of_ble_eq_true rfl | omega) only [AXR, AXB, J.dst, reduceIte, Nat.reduceEqDiff, Nat.reduceAdd, Nat.reduceMul, Nat.reduceLT, Nat.reduceLeDiff, f112r0, f112r1, f112r2, f112r3, f112r4, f112r5, f112r6, f112r7, f112r8, f112r9, f112r10, f112r11, f112r12])
      have hp : withV vs v = r.1 := by rw [hwv, hf]; rfl
      refine hR _ _ _ _ ?_ ?_ eh
      · rw [hp]; exact O.mono e1.size
      · rw [hp]; exact hm
end Go.Proofs.Ytefghfgmkndikaa
/-
  Walks: the reference's Settle.
-/
namespace Go.AX
open Go
def rsettleC (by_ : Try4) (yes : Bool) (c : Cell) : Cell :=
  if c.locked && decide (c.lock.by_ = by_) then ⟨c.key, if yes then withV c.vers (verL c.lock) else c.vers, false, noLock⟩ else c
def rsettleL (cs : List Cell) (by_ : Try4) (yes : Bool) : List Cell := cs.filterMap fun c => leftC (rsettleC by_ yes c)
end Go.AX
namespace Go.Proofs.Ytefghfgmkndikaa
open Go Go.AX

theorem rsettle_ok {B : Nat → Prop} {a : Option Addr} {c : Nat} (cs : List Cell) (by_ : Try4) (yes : Bool) (h : Heap) (S : SlC B h a cs) (hn : cs.length ≤ big) (F : ∀ c ∈ cs, c.vers.length < big) {R : Value → Heap → Prop}
    (hR : ∀ a' n' c' h', OwnC h.size h' a' n' c' (rsettleL cs by_ yes) → Ext h h' → R (.slice a' n' c') h') : CallsH Try.prog 80 [.slice a cs.length c, .agg (eTry by_).toArray, .bool yes] h R := by
  have hbig : big = 1000000 := rfl
  refine f80ok (by simp) ?_
  (try simp (disch := first | exact Nat.le_of_ble_eq_true rfl | omega) only [AXR, AXB, J.dst, reduceIte, Nat.reduceEqDiff, Nat.reduceAdd, Nat.reduceMul, Nat.reduceLT, Nat.reduceLeDiff]); rw [f80c0_eq]; (try simp (disch := first | exact Nat.le_of_ble_eq_true rfl | omega) only [AXR, AXB, J.dst, reduceIte, Nat.reduceEqDiff, Nat.reduceAdd, Nat.reduceMul, Nat.reduceLT, Nat.reduceLeDiff, f80r0, f80r1, f80r2, f80r3, f80r4, f80r5, f80r6, f80r7, f80r8, f80r9, f80r10, f80r11, f80r12, f80r13])
  refine wL_boxN rfl ?_; rintro b1 h1 e1 s1 hb1 (B1 : Blk _ _ _ (eTry by_))
  (try simp (disch := first | exact Nat.le_of_ble_eq_true rfl | omega) only [AXR, AXB, J.dst, reduceIte, Nat.reduceEqDiff, Nat.reduceAdd, Nat.reduceMul, Nat.reduceLT, Nat.reduceLeDiff]); rw [f80c1_eq]; (try simp (disch := first | exact Nat.le_of_ble_eq_true rfl | omega) only [AXR, AXB, J.dst, reduceIte, Nat.reduceEqDiff, Nat.reduceAdd, Nat.reduceMul, Nat.reduceLT, Nat.reduceLeDiff, f80r0, f80r1, f80r2, f80r3, f80r4, f80r5, f80r6, f80r7, f80r8, f80r9, f80r10, f80r11, f80r12, f80r13]); rw [f80c2_eq]; (try simp (disch := first | exact Nat.le_of_ble_eq_true rfl | omega) only [AXR, AXB, J.dst, reduceIte, Nat.reduceEqDiff, Nat.reduceAdd, Nat.reduceMul, Nat.reduceLT, Nat.reduceLeDiff, f80r0, f80r1, f80r2, f80r3, f80r4, f80r5, f80r6, f80r7, f80r8, f80r9, f80r10, f80r11, f80r12, f80r13])
  refine copy_ok cs _ (S.ext e1) hn (fun c hc => Nat.le_of_lt (F c hc)) ?_
  intro al cl h2 L e2
  try simp (disch := first | exact Nat.le_of_ble_eq_true rfl | omega) only [AXR, AXB, J.dst, reduceIte, Nat.reduceEqDiff, Nat.reduceAdd, Nat.reduceMul, Nat.reduceLT, Nat.reduceLeDiff]
  (try simp (disch := first | exact Nat.le_of_ble_eq_true rfl | omega) only [AXR, AXB, J.dst, reduceIte, Nat.reduceEqDiff, Nat.reduceAdd, Nat.reduceMul, Nat.reduceLT, Nat.reduceLeDiff]); rw [f80c3_eq]; (try simp (disch := first | exact Nat.le_of_ble_eq_true rfl | omega) only [AXR, AXB, J.dst, reduceIte, Nat.reduceEqDiff, Nat.reduceAdd, Nat.reduceMul, Nat.reduceLT, Nat.reduceLeDiff, f80r0, f80r1, f80r2, f80r3, f80r4, f80r5, f80r6, f80r7, f80r8, f80r9, f80r10, f80r11, f80r12, f80r13])
  rw [f80c4_eq]
  have e12 := e1.trans e2
  refine loop_in (fun n σ h' => Ext h2 h' ∧ ∃ (k m c' : Nat) (a' : Option Addr), k + n = cs.length ∧ m ≤ k ∧ OwnC h1.size h' a' m c' ((cs.take k).filterMap fun c => leftC (rsettleC by_ yes c)) ∧ (∀ j, ob a' = some j → h2.size ≤ j) ∧
      σ = [(2, .bool yes), (4, ptr b1 0), (7, .slice a' m c'), (8, .slice al cs.length cl), (9, vi k)])
    cs.length ⟨Ext.refl _, 0, 0, 0, none, by omega, by omega, OwnC.nil _ _, by simp [ob], rfl⟩ ?_
  rintro n σ h' ⟨e3, k, m, c', a', hk, hm, O, hA, rfl⟩ Q' hnx hex hrt _
  have S2 := L.slc
  (try simp (disch := first | exact Nat.le_of_ble_eq_true rfl | omega) only [AXR, AXB, J.dst, reduceIte, Nat.reduceEqDiff, Nat.reduceAdd, Nat.reduceMul, Nat.reduceLT, Nat.reduceLeDiff]); rw [f80c5_eq]; (try simp (disch := first | exact Nat.le_of_ble_eq_true rfl | omega) only [AXR, AXB, J.dst, reduceIte, Nat.reduceEqDiff, Nat.reduceAdd, Nat.reduceMul, Nat.reduceLT, Nat.reduceLeDiff, f80r0, f80r1, f80r2, f80r3, f80r4, f80r5, f80r6, f80r7, f80r8, f80r9, f80r10, f80r11, f80r12, f80r13]); rw [f80c6_eq]; (try simp (disch := first | exact Nat.le_of_ble_eq_true rfl | omega) only [AXR, AXB, J.dst, reduceIte, Nat.reduceEqDiff, Nat.reduceAdd, Nat.reduceMul, Nat.reduceLT, Nat.reduceLeDiff, f80r0, f80r1, f80r2, f80r3, f80r4, f80r5, f80r6, f80r7, f80r8, f80r9, f80r10, f80r11, f80r12, f80r13])
  refine ⟨fun h2 => ?_, fun h2 => ?_⟩
  · have hkl : k < cs.length := by have := of_decide_eq_true h2; omega
    obtain ⟨x, hx⟩ := get_ex hkl
    obtain ⟨b, o, v, rfl, _, hrow, hcr⟩ := S2.elem hx
    have hxF := F x (List.mem_of_getElem? hx)
    rw [f80c7_eq]
    (try simp (disch := first | exact Nat.le_of_ble_eq_true rfl | omega) only [AXR, AXB, J.dst, reduceIte, Nat.reduceEqDiff, Nat.reduceAdd, Nat.reduceMul, Nat.reduceLT, Nat.reduceLeDiff]); rw [f80c8_eq]; (try simp (disch := first | exact Nat.le_of_ble_eq_true rfl | omega) only [AXR, AXB, J.dst, reduceIte, Nat.reduceEqDiff, Nat.reduceAdd, Nat.reduceMul, Nat.reduceLT, Nat.reduceLeDiff, f80r0, f80r1, f80r2, f80r3, f80r4, f80r5, f80r6, f80r7, f80r8, f80r9, f80r10, f80r11, f80r12, f80r13, row_cv (hrow.ext e3)])
    refine ⟨by omega, by omega, ?_⟩
    refine wL_newN ?_; rintro b4 h4 e4 s4 hb4 B4
    refine wL_stN rfl rfl rfl B4 (by decide) (eCV_one v) ?_; rintro h5 u5 (B5 : Blk _ _ _ (eCV v))
    have e5 := u5.ext e4 (by omega)
    try simp (disch := first | exact Nat.le_of_ble_eq_true rfl | omega) only [AXR, AXB, J.dst, reduceIte, Nat.reduceEqDiff, Nat.reduceAdd, Nat.reduceMul, Nat.reduceLT, Nat.reduceLeDiff]
    have hO := O.row
    have hs1 := B1.lt
    have hs2 := e2.size
    have hs3 := e3.size
    have hs5 := e5.size
    have e35 := e3.trans e5
    have hb45 := B5.lt
    -- what is left is appended
    have app : ∀ (h8 : Heap) (τ : Env) (v8 : CV) (c8 : Cell), Ext h' h8 → Blk h8 b4 103 (eCV v8) → CR (fun b => h1.size ≤ b ∧ b < h8.size ∧ some b ≠ ob a') h8 v8 c8 → c8 = rsettleC by_ yes x →
        AX.look τ 2 = some (.bool yes) → AX.look τ 4 = some (ptr b1 0) → AX.look τ 7 = some (.slice a' m c') → AX.look τ 10 = some (ptr b4 0) → AX.look τ 8 = some (.slice (some ⟨b, o, none⟩) cs.length cl) → AX.look τ 9 = some (vi k) →
        wC Try.prog f80c15 (X.inBlock 1 (X.then (fun σ h => wC Try.prog f80c18 Q' σ h) Q')) τ h8 := by
      intro h8 τ v8 c8 e8 B8 O8 hres l2 l4 l7 l10 l8 l9
      have hw : IntKind.i64.wrap ((k : Int) + 1) = ((k + 1 : Nat) : Int) := i64_wrap (by omega) (by omega)
      have hskip : leftC c8 = none → wC Try.prog f80c16 (X.inBlock 1 (X.then (fun σ h => wC Try.prog f80c18 Q' σ h) Q')) [(2, .bool yes), (4, ptr b1 0), (7, .slice a' m c'), (8, .slice (some ⟨b, o, none⟩) cs.length cl), (9, vi k), (10, ptr b4 0), (57, .bool false)] h8 := by
        intro hl
        (try simp (disch := first | exact Nat.le_of_ble_eq_true rfl | omega) only [AXR, AXB, J.dst, reduceIte, Nat.reduceEqDiff, Nat.reduceAdd, Nat.reduceMul, Nat.reduceLT, Nat.reduceLeDiff]); rw [f80c16_eq]; (try simp (disch := first | exact Nat.le_of_ble_eq_true rfl | omega) only [AXR, AXB, J.dst, reduceIte, Nat.reduceEqDiff, Nat.reduceAdd, Nat.reduceMul, Nat.reduceLT, Nat.reduceLeDiff, f80r0, f80r1, f80r2, f80r3, f80r4, f80r5, f80r6, f80r7, f80r8, f80r9, f80r10, f80r11, f80r12, f80r13, br_false])
        (try simp (disch := first | exact Nat.le_of_ble_eq_true rfl | omega) only [AXR, AXB, J.dst, reduceIte, Nat.reduceEqDiff, Nat.reduceAdd, Nat.reduceMul, Nat.reduceLT, Nat.reduceLeDiff]); rw [f80c18_eq]; (try simp (disch := first | exact Nat.le_of_ble_eq_true rfl | omega) only [AXR, AXB, J.dst, reduceIte, Nat.reduceEqDiff, Nat.reduceAdd, Nat.reduceMul, Nat.reduceLT, Nat.reduceLeDiff, f80r0, f80r1, f80r2, f80r3, f80r4, f80r5, f80r6, f80r7, f80r8, f80r9, f80r10, f80r11, f80r12, f80r13, hw])
        refine hnx (n - 1) _ _ (by omega) ⟨e3.trans e8, k + 1, m, c', a', by omega, by omega, ?_, hA, rfl⟩
        rw [List.take_add_one, hx, List.filterMap_append]
        simp only [Option.toList, List.filterMap_cons, List.filterMap_nil, ← hres, hl, List.append_nil]
        exact O.ext e8
      have hkeep : leftC c8 = some c8 → wC Try.prog f80c16 (X.inBlock 1 (X.then (fun σ h => wC Try.prog f80c18 Q' σ h) Q')) [(2, .bool yes), (4, ptr b1 0), (7, .slice a' m c'), (8, .slice (some ⟨b, o, none⟩) cs.length cl), (9, vi k), (10, ptr b4 0), (57, .bool true)] h8 := by
        intro hl
        (try simp (disch := first | exact Nat.le_of_ble_eq_true rfl | omega) only [AXR, AXB, J.dst, reduceIte, Nat.reduceEqDiff, Nat.reduceAdd, Nat.reduceMul, Nat.reduceLT, Nat.reduceLeDiff]); rw [f80c16_eq]; (try simp (disch := first | exact Nat.le_of_ble_eq_true rfl | omega) only [AXR, AXB, J.dst, reduceIte, Nat.reduceEqDiff, Nat.reduceAdd, Nat.reduceMul, Nat.reduceLT, Nat.reduceLeDiff, f80r0, f80r1, f80r2, f80r3, f80r4, f80r5, f80r6, f80r7, f80r8, f80r9, f80r10, f80r11, f80r12, f80r13, br_true])
        (try simp (disch := first | exact Nat.le_of_ble_eq_true rfl | omega) only [AXR, AXB, J.dst, reduceIte, Nat.reduceEqDiff, Nat.reduceAdd, Nat.reduceMul, Nat.reduceLT, Nat.reduceLeDiff]); rw [f80c17_eq]; (try simp (disch := first | exact Nat.le_of_ble_eq_true rfl | omega) only [AXR, AXB, J.dst, reduceIte, Nat.reduceEqDiff, Nat.reduceAdd, Nat.reduceMul, Nat.reduceLT, Nat.reduceLeDiff, f80r0, f80r1, f80r2, f80r3, f80r4, f80r5, f80r6, f80r7, f80r8, f80r9, f80r10, f80r11, f80r12, f80r13, B8.rd, eCV])
        refine wL_bslN rfl ?_; rintro b9 h9 e9 s9 hb9 (B9 : Blk _ _ _ (eCV v8))
        try simp (disch := first | exact Nat.le_of_ble_eq_true rfl | omega) only [AXR, AXB, J.dst, reduceIte, Nat.reduceEqDiff, Nat.reduceAdd, Nat.reduceMul, Nat.reduceLT, Nat.reduceLeDiff]
        rw [wL_raw]
        have e89 := e8.trans e9
        have hs89 := e89.size
        refine raw_push rfl rfl rfl (O.ext e89) B9 (O8.to fun b hb => ⟨⟨hb.1, ?_, hb.2.2⟩, e9.at_ b hb.2.1⟩) (by omega) (by omega) ?_
        · have := e9.size; omega
        intro a10 c10 h10 O10 G10 A10
        refine ⟨trivial, ?_⟩
        try simp (disch := first | exact Nat.le_of_ble_eq_true rfl | omega) only [AXR, AXB, J.dst, reduceIte, Nat.reduceEqDiff, Nat.reduceAdd, Nat.reduceMul, Nat.reduceLT, Nat.reduceLeDiff]
        (try simp (disch := first | exact Nat.le_of_ble_eq_true rfl | omega) only [AXR, AXB, J.dst, reduceIte, Nat.reduceEqDiff, Nat.reduceAdd, Nat.reduceMul, Nat.reduceLT, Nat.reduceLeDiff]); rw [f80c18_eq]; (try simp (disch := first | exact Nat.le_of_ble_eq_true rfl | omega) only [AXR, AXB, J.dst, reduceIte, Nat.reduceEqDiff, Nat.reduceAdd, Nat.reduceMul, Nat.reduceLT, Nat.reduceLeDiff, f80r0, f80r1, f80r2, f80r3, f80r4, f80r5, f80r6, f80r7, f80r8, f80r9, f80r10, f80r11, f80r12, f80r13, hw])
        refine hnx (n - 1) _ _ (by omega) ⟨G10.ext (e3.trans e89) hA, k + 1, m + 1, c10, a10, by omega, by omega, ?_, ?_, rfl⟩
        · rw [List.take_add_one, hx, List.filterMap_append]
          simp only [Option.toList, List.filterMap_cons, List.filterMap_nil, ← hres, hl]
          exact O10
        · intro j hj
          rcases A10 with e | ⟨q, e, hq⟩
          · exact hA j (e ▸ hj)
          · rw [e] at hj; cases hj; omega
      (try simp (disch := first | exact Nat.le_of_ble_eq_true rfl | omega) only [AXR, AXB, J.dst, reduceIte, Nat.reduceEqDiff, Nat.reduceAdd, Nat.reduceMul, Nat.reduceLT, Nat.reduceLeDiff]); rw [f80c15_eq]; (try simp (disch := first | exact Nat.le_of_ble_eq_true rfl | omega) only [AXR, AXB, J.dst, reduceIte, Nat.reduceEqDiff, Nat.reduceAdd, Nat.reduceMul, Nat.reduceLT, Nat.reduceLeDiff, f80r0, f80r1, f80r2, f80r3, f80r4, f80r5, f80r6, f80r7, f80r8, f80r9, f80r10, f80r11, f80r12, f80r13, B8.cel, eCV, l2, l4, l7, l10, l8, l9])
      have hlk := O8.locked
      rw [vers_pos c8 O8.vn, hlk]
      refine ⟨fun hl => hkeep (by simp [leftC, hl]), fun hl => ?_⟩
      by_cases hv : c8.vers = []
      · rw [decide_eq_false (by simp [hv])]
        exact hskip (by simp [leftC, hl, hv])
      · rw [decide_eq_true hv]
        exact hkeep (by simp [leftC, hv])
    -- the lock is taken away
    have clr : ∀ (h8 : Heap) (τ : Env) (v8 : CV) (c8 : Cell), Ext h' h8 → Blk h8 b4 103 (eCV v8) → CR (fun b => h1.size ≤ b ∧ b < h8.size ∧ some b ≠ ob a' ∧ b ≠ b4) h8 v8 c8 → (⟨c8.key, c8.vers, false, noLock⟩ : Cell) = rsettleC by_ yes x →
        AX.look τ 2 = some (.bool yes) → AX.look τ 4 = some (ptr b1 0) → AX.look τ 7 = some (.slice a' m c') → AX.look τ 10 = some (ptr b4 0) → AX.look τ 8 = some (.slice (some ⟨b, o, none⟩) cs.length cl) → AX.look τ 9 = some (vi k) →
        wC Try.prog f80c14 (X.then (fun σ h => wC Try.prog f80c15 (X.inBlock 1 (X.then (fun σ h => wC Try.prog f80c18 Q' σ h) Q')) σ h) (X.inBlock 1 (X.then (fun σ h => wC Try.prog f80c18 Q' σ h) Q'))) τ h8 := by
      intro h8 τ v8 c8 e8 B8 O8 hres l2 l4 l7 l10 l8 l9
      (try simp (disch := first | exact Nat.le_of_ble_eq_true rfl | omega) only [AXR, AXB, J.dst, reduceIte, Nat.reduceEqDiff, Nat.reduceAdd, Nat.reduceMul, Nat.reduceLT, Nat.reduceLeDiff]); rw [f80c14_eq]; (try simp (disch := first | exact Nat.le_of_ble_eq_true rfl | omega) only [AXR, AXB, J.dst, reduceIte, Nat.reduceEqDiff, Nat.reduceAdd, Nat.reduceMul, Nat.reduceLT, Nat.reduceLeDiff, f80r0, f80r1, f80r2, f80r3, f80r4, f80r5, f80r6, f80r7, f80r8, f80r9, f80r10, f80r11, f80r12, f80r13, l2, l4, l7, l10, l8, l9])
      refine wL_stN (by first | exact l10 | rfl) rfl rfl B8 (by rw [eCV_len]; exact Nat.le_of_ble_eq_true rfl) (one_b _) ?_
      rintro h9 u9 B9
      simp (disch := first | exact Nat.le_of_ble_eq_true rfl | omega) only [AXR, AXB, J.dst, reduceIte, Nat.reduceEqDiff, Nat.reduceAdd, Nat.reduceMul, Nat.reduceLT, Nat.reduceLeDiff, l2, l4, l7, l10, l8, l9]
      refine wL_stN rfl rfl rfl B9 (by rw [putL_length, eCV_len]; exact Nat.le_of_ble_eq_true rfl) (one_lck noLock) ?_
      rintro h10 u10 (B10 : Blk _ _ _ (eCV { v8 with locked := false, lock := noLock }))
      simp (disch := first | exact Nat.le_of_ble_eq_true rfl | omega) only [AXR, AXB, J.dst, reduceIte, Nat.reduceEqDiff, Nat.reduceAdd, Nat.reduceMul, Nat.reduceLT, Nat.reduceLeDiff, l2, l4, l7, l10, l8, l9]
      refine app h10 _ { v8 with locked := false, lock := noLock } ⟨c8.key, c8.vers, false, noLock⟩ (u10.ext (u9.ext e8 (by omega)) (by omega)) B10 ⟨O8.key, rfl, rfl, O8.vn, O8.cap, O8.vers.to fun b hb => ⟨⟨hb.1, ?_, hb.2.2.1⟩, ?_⟩⟩ hres rfl rfl rfl rfl rfl rfl
      · rw [u10.size, u9.size]; exact hb.2.1
      · exact (u10.ne b hb.2.2.2).trans (u9.ne b hb.2.2.2)
    have B17 : Blk h5 b1 37 (eTry by_) := B1.ext (e2.trans e35)
    have O5 : CR (fun b => h1.size ≤ b ∧ b < h5.size ∧ some b ≠ ob a' ∧ b ≠ b4) h5 v x := hcr.to fun b hb => ⟨⟨hb.1, by omega, fun e => by have := hA b e.symm; omega, by omega⟩, e35.at_ b hb.2⟩
    (try simp (disch := first | exact Nat.le_of_ble_eq_true rfl | omega) only [AXR, AXB, J.dst, reduceIte, Nat.reduceEqDiff, Nat.reduceAdd, Nat.reduceMul, Nat.reduceLT, Nat.reduceLeDiff]); rw [f80c9_eq]; (try simp (disch := first | exact Nat.le_of_ble_eq_true rfl | omega) only [AXR, AXB, J.dst, reduceIte, Nat.reduceEqDiff, Nat.reduceAdd, Nat.reduceMul, Nat.reduceLT, Nat.reduceLeDiff, f80r0, f80r1, f80r2, f80r3, f80r4, f80r5, f80r6, f80r7, f80r8, f80r9, f80r10, f80r11, f80r12, f80r13, B5.cel, B5.rd, B17.rd, eCV, eTry, eqA_try, hcr.locked, hcr.lock])
    have hno : (x.locked && decide (x.lock.by_ = by_)) = false → wC Try.prog f80c10 (X.inBlock 1 (X.then (fun σ h => wC Try.prog f80c18 Q' σ h) Q'))
      [(2, .bool yes), (4, ptr b1 0), (7, .slice a' m c'), (8, .slice (some ⟨b, o, none⟩) cs.length cl), (9, vi k), (10, ptr b4 0), (31, .bool false)] h5 := by
      intro hf
      (try simp (disch := first | exact Nat.le_of_ble_eq_true rfl | omega) only [AXR, AXB, J.dst, reduceIte, Nat.reduceEqDiff, Nat.reduceAdd, Nat.reduceMul, Nat.reduceLT, Nat.reduceLeDiff]); rw [f80c10_eq]; (try simp (disch := first | exact Nat.le_of_ble_eq_true rfl | omega) only [AXR, AXB, J.dst, reduceIte, Nat.reduceEqDiff, Nat.reduceAdd, Nat.reduceMul, Nat.reduceLT, Nat.reduceLeDiff, f80r0, f80r1, f80r2, f80r3, f80r4, f80r5, f80r6, f80r7, f80r8, f80r9, f80r10, f80r11, f80r12, f80r13, br_false])
      exact app h5 _ v x e5 B5 (O5.imp fun b hb => ⟨hb.1, hb.2.1, hb.2.2.1⟩) (by unfold rsettleC; rw [if_neg (by simp [hf])]) rfl rfl rfl rfl rfl rfl
    refine ⟨fun hl => ?_, fun hl => hno (by simp [hl])⟩
    by_cases hby : x.lock.by_ = by_
    · rw [decide_eq_true hby]
      have hset : rsettleC by_ yes x = ⟨x.key, if yes then withV x.vers (verL x.lock) else x.vers, false, noLock⟩ := by
        unfold rsettleC; rw [if_pos (by simp [hl, hby])]
      (try simp (disch := first | exact Nat.le_of_ble_eq_true rfl | omega) only [AXR, AXB, J.dst, reduceIte, Nat.reduceEqDiff, Nat.reduceAdd, Nat.reduceMul, Nat.reduceLT, Nat.reduceLeDiff]); rw [f80c10_eq]; (try simp (disch := first | exact Nat.le_of_ble_eq_true rfl | omega) only [AXR, AXB, J.dst, reduceIte, Nat.reduceEqDiff, Nat.reduceAdd, Nat.reduceMul, Nat.reduceLT, Nat.reduceLeDiff, f80r0, f80r1, f80r2, f80r3, f80r4, f80r5, f80r6, f80r7, f80r8, f80r9, f80r10, f80r11, f80r12, f80r13, br_true])
      (try simp (disch := first | exact Nat.le_of_ble_eq_true rfl | omega) only [AXR, AXB, J.dst, reduceIte, Nat.reduceEqDiff, Nat.reduceAdd, Nat.reduceMul, Nat.reduceLT, Nat.reduceLeDiff]); rw [f80c11_eq]; (try simp (disch := first | exact Nat.le_of_ble_eq_true rfl | omega) only [AXR, AXB, J.dst, reduceIte, Nat.reduceEqDiff, Nat.reduceAdd, Nat.reduceMul, Nat.reduceLT, Nat.reduceLeDiff, f80r0, f80r1, f80r2, f80r3, f80r4, f80r5, f80r6, f80r7, f80r8, f80r9, f80r10, f80r11, f80r12, f80r13]); rw [f80c12_eq]; (try simp (disch := first | exact Nat.le_of_ble_eq_true rfl | omega) only [AXR, AXB, J.dst, reduceIte, Nat.reduceEqDiff, Nat.reduceAdd, Nat.reduceMul, Nat.reduceLT, Nat.reduceLeDiff, f80r0, f80r1, f80r2, f80r3, f80r4, f80r5, f80r6, f80r7, f80r8, f80r9, f80r10, f80r11, f80r12, f80r13])
      refine ⟨fun hy => ?_, fun hy => ?_⟩
      · (try simp (disch := first | exact Nat.le_of_ble_eq_true rfl | omega) only [AXR, AXB, J.dst, reduceIte, Nat.reduceEqDiff, Nat.reduceAdd, Nat.reduceMul, Nat.reduceLT, Nat.reduceLeDiff]); rw [f80c13_eq]; (try simp (disch := first | exact Nat.le_of_ble_eq_true rfl | omega) only [AXR, AXB, J.dst, reduceIte, Nat.reduceEqDiff, Nat.reduceAdd, Nat.reduceMul, Nat.reduceLT, Nat.reduceLeDiff, f80r0, f80r1, f80r2, f80r3, f80r4, f80r5, f80r6, f80r7, f80r8, f80r9, f80r10, f80r11, f80r12, f80r13, B5.cel, B5.rd, eCV, hcr.lock, hcr.vn])
        refine with_ok x.vers (verL x.lock) _ O5.vers (by omega) ?_
        intro a8 n8 c8 h8 O8 hn8 e8
        try simp (disch := first | exact Nat.le_of_ble_eq_true rfl | omega) only [AXR, AXB, J.dst, reduceIte, Nat.reduceEqDiff, Nat.reduceAdd, Nat.reduceMul, Nat.reduceLT, Nat.reduceLeDiff]
        have B8 := B5.ext e8
        have hO8 := O8.ob
        refine wL_stN rfl rfl rfl B8 (by rw [eCV_len]; exact Nat.le_of_ble_eq_true rfl) (one_sl _ _ _) ?_
        rintro h9 u9 (B9 : Blk _ _ _ (eCV { v with va := a8, vn := n8, vc := c8 }))
        try simp (disch := first | exact Nat.le_of_ble_eq_true rfl | omega) only [AXR, AXB, J.dst, reduceIte, Nat.reduceEqDiff, Nat.reduceAdd, Nat.reduceMul, Nat.reduceLT, Nat.reduceLeDiff]
        have O9 := O8.gr u9.gr (fun j hj => by have := hO8 j hj; intro e; cases e; omega)
        refine clr h9 _ { v with va := a8, vn := n8, vc := c8 } ⟨x.key, withV x.vers (verL x.lock), x.locked, x.lock⟩ (u9.ext (e5.trans e8) (by omega)) B9 ⟨hcr.key, hcr.locked, hcr.lock, hn8, O9.room.1, (SlF.of_own O9 hn8).imp fun b hb => ⟨?_, hb.2.1, ?_, ?_⟩⟩ (by rw [hset, hy]; rfl) rfl rfl rfl rfl rfl rfl
        · omega
        · intro e; have := hO b e.symm; omega
        · omega
      · try simp (disch := first | exact Nat.le_of_ble_eq_true rfl | omega) only [AXR, AXB, J.dst, reduceIte, Nat.reduceEqDiff, Nat.reduceAdd, Nat.reduceMul, Nat.reduceLT, Nat.reduceLeDiff]
        exact clr h5 _ v x e5 B5 O5 (by rw [hset, hy]; rfl) rfl rfl rfl rfl rfl rfl
    · rw [decide_eq_false hby]
      exact hno (by simp [hby])
  · have hkl : k = cs.length := by have := of_decide_eq_false h2; omega
    subst hkl
    refine hex _ _ ?_
    (try simp (disch := first | exact Nat.le_of_ble_eq_true rfl | omega) only [AXR, AXB, J.dst, reduceIte, Nat.reduceEqDiff, Nat.reduceAdd, Nat.reduceMul, Nat.reduceLT, Nat.reduceLeDiff]); rw [f80c19_eq]; (try simp (disch := first | exact Nat.le_of_ble_eq_true rfl | omega) only [AXR, AXB, J.dst, reduceIte, Nat.reduceEqDiff, Nat.reduceAdd, Nat.reduceMul, Nat.reduceLT, Nat.reduceLeDiff, f80r0, f80r1, f80r2, f80r3, f80r4, f80r5, f80r6, f80r7, f80r8, f80r9, f80r10, f80r11, f80r12, f80r13])
    rw [List.take_length] at O
    exact hR _ _ _ _ (O.mono e1.size) (e12.trans e3)
end Go.Proofs.Ytefghfgmkndikaa
/-
  Walks: the reference's Trim.
-/
namespace Go.AX
open Go
def preV (vs : List Ver) (below : Stamp) : Nat := (vs.takeWhile fun v => !Stamp.lt below v.at_).length
def rcutV (vs : List Ver) (below : Stamp) : Nat :=
  if 0 < preV vs below ∧ (vs.getD (preV vs below - 1) default).drop = false then preV vs below - 1 else preV vs below
def rtrimC (below : Stamp) (c : Cell) : Cell := { c with vers := c.vers.drop (rcutV c.vers below) }
def rtrimL (cs : List Cell) (below : Stamp) : List Cell := cs.filterMap fun c => leftC (rtrimC below c)
theorem preV_eq (t : Stamp) : ∀ (vs : List Ver) (i : Nat), i ≤ vs.length → (∀ p v, p < i → vs[p]? = some v → Stamp.lt t v.at_ = false) → (∀ v, vs[i]? = some v → Stamp.lt t v.at_ = true) → preV vs t = i
  | [], i, h, _, _ => by have : i = 0 := by simpa using h
                         subst this; rfl
  | c :: cs, 0, _, _, h => by
    have := h c rfl
    simp [preV, List.takeWhile, this]
  | c :: cs, i + 1, hl, h, h' => by
    have h0 := h 0 c (by omega) rfl
    have := preV_eq t cs i (by simpa using hl) (fun p d hp hd => h (p + 1) d (by omega) (by simpa using hd)) (fun d hd => h' d (by simpa using hd))
    unfold preV at this ⊢
    simp [List.takeWhile, h0, this]
theorem preV_le (vs : List Ver) (t : Stamp) : preV vs t ≤ vs.length := by unfold preV; exact List.Sublist.length_le (List.takeWhile_sublist _)
theorem rcutV_le (vs : List Ver) (t : Stamp) : rcutV vs t ≤ vs.length := by
  have := preV_le vs t
  unfold rcutV; split <;> omega
/-- A part of a slice, from a place on. -/
theorem SlF.drop {B : Nat → Prop} {h : Heap} {a a' : Option Addr} {vs : List Ver} (S : SlF B h eVer a vs) {l c : Nat} (hc : vs.length ≤ c) (ha : l < c → a' = a.map (·.add (l * 4))) : SlF B h eVer a' (vs.drop l) := by
  intro hne
  have hlt : l < vs.length := by
    rcases Nat.lt_or_ge l vs.length with h | h
    · exact h
    · exact absurd (List.drop_of_length_le h) hne
  obtain ⟨b, o, rfl, hb, hrow⟩ := S (by rintro rfl; simp at hlt)
  refine ⟨b, o + l * 4, by rw [ha (by omega), Option.map_some, add_mk], hb, ?_⟩
  have := hrow.sub (l * 4) ((vs.flatMap eVer).length - l * 4)
  rw [List.take_of_length_le (by rw [List.length_drop]; omega), flatMap_drop eVer_len] at this
  exact this
end Go.AX
namespace Go.Proofs.Ytefghfgmkndikaa
open Go Go.AX

theorem rtrim_ok {B : Nat → Prop} {a : Option Addr} {c : Nat} (cs : List Cell) (below : Stamp) (h : Heap) (S : SlC B h a cs) (hn : cs.length ≤ big) (F : ∀ c ∈ cs, c.vers.length < big) {R : Value → Heap → Prop}
    (hR : ∀ a' n' c' h', OwnC h.size h' a' n' c' (rtrimL cs below) → Ext h h' → R (.slice a' n' c') h') : CallsH Try.prog 81 [.slice a cs.length c, .agg (eStamp below).toArray] h R := by
  have hbig : big = 1000000 := rfl
  refine f81ok (by simp) ?_
  (try simp (disch := first | exact Nat.le_of_ble_eq_true rfl | omega) only [AXR, AXB, J.dst, reduceIte, Nat.reduceEqDiff, Nat.reduceAdd, Nat.reduceMul, Nat.reduceLT, Nat.reduceLeDiff]); rw [f81c0_eq]; (try simp (disch := first | exact Nat.le_of_ble_eq_true rfl | omega) only [AXR, AXB, J.dst, reduceIte, Nat.reduceEqDiff, Nat.reduceAdd, Nat.reduceMul, Nat.reduceLT, Nat.reduceLeDiff, f81r0, f81r1, f81r2, f81r3, f81r4, f81r5, f81r6, f81r7, f81r8, f81r9, f81r10, f81r11, f81r12, f81r13, f81r14, f81r15])
  refine wL_boxN rfl ?_; rintro b1 h1 e1 s1 hb1 (B1 : Blk _ _ _ (eStamp below))
  (try simp (disch := first | exact Nat.le_of_ble_eq_true rfl | omega) only [AXR, AXB, J.dst, reduceIte, Nat.reduceEqDiff, Nat.reduceAdd, Nat.reduceMul, Nat.reduceLT, Nat.reduceLeDiff]); rw [f81c1_eq]; (try simp (disch := first | exact Nat.le_of_ble_eq_true rfl | omega) only [AXR, AXB, J.dst, reduceIte, Nat.reduceEqDiff, Nat.reduceAdd, Nat.reduceMul, Nat.reduceLT, Nat.reduceLeDiff, f81r0, f81r1, f81r2, f81r3, f81r4, f81r5, f81r6, f81r7, f81r8, f81r9, f81r10, f81r11, f81r12, f81r13, f81r14, f81r15]); rw [f81c2_eq]; (try simp (disch := first | exact Nat.le_of_ble_eq_true rfl | omega) only [AXR, AXB, J.dst, reduceIte, Nat.reduceEqDiff, Nat.reduceAdd, Nat.reduceMul, Nat.reduceLT, Nat.reduceLeDiff, f81r0, f81r1, f81r2, f81r3, f81r4, f81r5, f81r6, f81r7, f81r8, f81r9, f81r10, f81r11, f81r12, f81r13, f81r14, f81r15])
  refine copy_ok cs _ (S.ext e1) hn (fun c hc => Nat.le_of_lt (F c hc)) ?_
  intro al cl h2 L e2
  try simp (disch := first | exact Nat.le_of_ble_eq_true rfl | omega) only [AXR, AXB, J.dst, reduceIte, Nat.reduceEqDiff, Nat.reduceAdd, Nat.reduceMul, Nat.reduceLT, Nat.reduceLeDiff]
  (try simp (disch := first | exact Nat.le_of_ble_eq_true rfl | omega) only [AXR, AXB, J.dst, reduceIte, Nat.reduceEqDiff, Nat.reduceAdd, Nat.reduceMul, Nat.reduceLT, Nat.reduceLeDiff]); rw [f81c3_eq]; (try simp (disch := first | exact Nat.le_of_ble_eq_true rfl | omega) only [AXR, AXB, J.dst, reduceIte, Nat.reduceEqDiff, Nat.reduceAdd, Nat.reduceMul, Nat.reduceLT, Nat.reduceLeDiff, f81r0, f81r1, f81r2, f81r3, f81r4, f81r5, f81r6, f81r7, f81r8, f81r9, f81r10, f81r11, f81r12, f81r13, f81r14, f81r15])
  rw [f81c4_eq]
  have e12 := e1.trans e2
  refine loop_in (fun n σ h' => Ext h2 h' ∧ ∃ (k m c' : Nat) (a' : Option Addr), k + n = cs.length ∧ m ≤ k ∧ OwnC h1.size h' a' m c' ((cs.take k).filterMap fun c => leftC (rtrimC below c)) ∧ (∀ j, ob a' = some j → h2.size ≤ j) ∧
      σ = [(3, ptr b1 0), (5, .slice a' m c'), (6, .slice al cs.length cl), (7, vi k)])
    cs.length ⟨Ext.refl _, 0, 0, 0, none, by omega, by omega, OwnC.nil _ _, by simp [ob], rfl⟩ ?_
  rintro n σ h' ⟨e3, k, m, c', a', hk, hm, O, hA, rfl⟩ Q' hnx hex hrt _
  obtain ⟨vsl, L1, L2, L3⟩ := L
  have S2 : SlC (fun b => h1.size ≤ b ∧ b < h2.size) h2 al cs := OwnC.slc ⟨vsl, L1, L2, L3⟩
  (try simp (disch := first | exact Nat.le_of_ble_eq_true rfl | omega) only [AXR, AXB, J.dst, reduceIte, Nat.reduceEqDiff, Nat.reduceAdd, Nat.reduceMul, Nat.reduceLT, Nat.reduceLeDiff]); rw [f81c5_eq]; (try simp (disch := first | exact Nat.le_of_ble_eq_true rfl | omega) only [AXR, AXB, J.dst, reduceIte, Nat.reduceEqDiff, Nat.reduceAdd, Nat.reduceMul, Nat.reduceLT, Nat.reduceLeDiff, f81r0, f81r1, f81r2, f81r3, f81r4, f81r5, f81r6, f81r7, f81r8, f81r9, f81r10, f81r11, f81r12, f81r13, f81r14, f81r15]); rw [f81c6_eq]; (try simp (disch := first | exact Nat.le_of_ble_eq_true rfl | omega) only [AXR, AXB, J.dst, reduceIte, Nat.reduceEqDiff, Nat.reduceAdd, Nat.reduceMul, Nat.reduceLT, Nat.reduceLeDiff, f81r0, f81r1, f81r2, f81r3, f81r4, f81r5, f81r6, f81r7, f81r8, f81r9, f81r10, f81r11, f81r12, f81r13, f81r14, f81r15])
  refine ⟨fun h2 => ?_, fun h2 => ?_⟩
  · have hkl : k < cs.length := by have := of_decide_eq_true h2; omega
    obtain ⟨x, hx⟩ := get_ex hkl
    obtain ⟨b, o, v, rfl, _, hrow, hcr⟩ := S2.elem hx
    have hxF := F x (List.mem_of_getElem? hx)
    rw [f81c7_eq]
    (try simp (disch := first | exact Nat.le_of_ble_eq_true rfl | omega) only [AXR, AXB, J.dst, reduceIte, Nat.reduceEqDiff, Nat.reduceAdd, Nat.reduceMul, Nat.reduceLT, Nat.reduceLeDiff]); rw [f81c8_eq]; (try simp (disch := first | exact Nat.le_of_ble_eq_true rfl | omega) only [AXR, AXB, J.dst, reduceIte, Nat.reduceEqDiff, Nat.reduceAdd, Nat.reduceMul, Nat.reduceLT, Nat.reduceLeDiff, f81r0, f81r1, f81r2, f81r3, f81r4, f81r5, f81r6, f81r7, f81r8, f81r9, f81r10, f81r11, f81r12, f81r13, f81r14, f81r15, row_cv (hrow.ext e3)])
    refine ⟨by omega, by omega, ?_⟩
    refine wL_newN ?_; rintro b4 h4 e4 s4 hb4 B4
    refine wL_stN rfl rfl rfl B4 (by decide) (eCV_one v) ?_; rintro h5 u5 (B5 : Blk _ _ _ (eCV v))
    have e5 := u5.ext e4 (by omega)
    try simp (disch := first | exact Nat.le_of_ble_eq_true rfl | omega) only [AXR, AXB, J.dst, reduceIte, Nat.reduceEqDiff, Nat.reduceAdd, Nat.reduceMul, Nat.reduceLT, Nat.reduceLeDiff]
    have hO := O.row
    have hs1 := B1.lt
    have hs2 := e2.size
    have hs3 := e3.size
    have hs5 := e5.size
    have e35 := e3.trans e5
    have hb45 := B5.lt
    -- what is left is appended
    have app : ∀ (h8 : Heap) (τ : Env) (v8 : CV) (c8 : Cell), Ext h' h8 → Blk h8 b4 103 (eCV v8) → CR (fun b => h1.size ≤ b ∧ b < h8.size ∧ some b ≠ ob a') h8 v8 c8 → c8 = rtrimC below x →
        AX.look τ 3 = some (ptr b1 0) → AX.look τ 5 = some (.slice a' m c') → AX.look τ 8 = some (ptr b4 0) → AX.look τ 6 = some (.slice (some ⟨b, o, none⟩) cs.length cl) → AX.look τ 7 = some (vi k) →
        wC Try.prog f81c19 (X.inBlock 1 (X.then (fun σ h => wC Try.prog f81c22 Q' σ h) Q')) τ h8 := by
      intro h8 τ v8 c8 e8 B8 O8 hres l3 l5 l8 l6 l7
      have hw : IntKind.i64.wrap ((k : Int) + 1) = ((k + 1 : Nat) : Int) := i64_wrap (by omega) (by omega)
      have hskip : leftC c8 = none → wC Try.prog f81c20 (X.inBlock 1 (X.then (fun σ h => wC Try.prog f81c22 Q' σ h) Q')) [(3, ptr b1 0), (5, .slice a' m c'), (6, .slice (some ⟨b, o, none⟩) cs.length cl), (7, vi k), (8, ptr b4 0), (66, .bool false)] h8 := by
        intro hl
        (try simp (disch := first | exact Nat.le_of_ble_eq_true rfl | omega) only [AXR, AXB, J.dst, reduceIte, Nat.reduceEqDiff, Nat.reduceAdd, Nat.reduceMul, Nat.reduceLT, Nat.reduceLeDiff]); rw [f81c20_eq]; (try simp (disch := first | exact Nat.le_of_ble_eq_true rfl | omega) only [AXR, AXB, J.dst, reduceIte, Nat.reduceEqDiff, Nat.reduceAdd, Nat.reduceMul, Nat.reduceLT, Nat.reduceLeDiff, f81r0, f81r1, f81r2, f81r3, f81r4, f81r5, f81r6, f81r7, f81r8, f81r9, f81r10, f81r11, f81r12, f81r13, f81r14, f81r15, br_false])
        (try simp (disch := first | exact Nat.le_of_ble_eq_true rfl | omega) only [AXR, AXB, J.dst, reduceIte, Nat.reduceEqDiff, Nat.reduceAdd, Nat.reduceMul, Nat.reduceLT, Nat.reduceLeDiff]); rw [f81c22_eq]; (try simp (disch := first | exact Nat.le_of_ble_eq_true rfl | omega) only [AXR, AXB, J.dst, reduceIte, Nat.reduceEqDiff, Nat.reduceAdd, Nat.reduceMul, Nat.reduceLT, Nat.reduceLeDiff, f81r0, f81r1, f81r2, f81r3, f81r4, f81r5, f81r6, f81r7, f81r8, f81r9, f81r10, f81r11, f81r12, f81r13, f81r14, f81r15, hw])
        refine hnx (n - 1) _ _ (by omega) ⟨e3.trans e8, k + 1, m, c', a', by omega, by omega, ?_, hA, rfl⟩
        rw [List.take_add_one, hx, List.filterMap_append]
        simp only [Option.toList, List.filterMap_cons, List.filterMap_nil, ← hres, hl, List.append_nil]
        exact O.ext e8
      have hkeep : leftC c8 = some c8 → wC Try.prog f81c20 (X.inBlock 1 (X.then (fun σ h => wC Try.prog f81c22 Q' σ h) Q')) [(3, ptr b1 0), (5, .slice a' m c'), (6, .slice (some ⟨b, o, none⟩) cs.length cl), (7, vi k), (8, ptr b4 0), (66, .bool true)] h8 := by
        intro hl
        (try simp (disch := first | exact Nat.le_of_ble_eq_true rfl | omega) only [AXR, AXB, J.dst, reduceIte, Nat.reduceEqDiff, Nat.reduceAdd, Nat.reduceMul, Nat.reduceLT, Nat.reduceLeDiff]); rw [f81c20_eq]; (try simp (disch := first | exact Nat.le_of_ble_eq_true rfl | omega) only [AXR, AXB, J.dst, reduceIte, Nat.reduceEqDiff, Nat.reduceAdd, Nat.reduceMul, Nat.reduceLT, Nat.reduceLeDiff, f81r0, f81r1, f81r2, f81r3, f81r4, f81r5, f81r6, f81r7, f81r8, f81r9, f81r10, f81r11, f81r12, f81r13, f81r14, f81r15, br_true])
        (try simp (disch := first | exact Nat.le_of_ble_eq_true rfl | omega) only [AXR, AXB, J.dst, reduceIte, Nat.reduceEqDiff, Nat.reduceAdd, Nat.reduceMul, Nat.reduceLT, Nat.reduceLeDiff]); rw [f81c21_eq]; (try simp (disch := first | exact Nat.le_of_ble_eq_true rfl | omega) only [AXR, AXB, J.dst, reduceIte, Nat.reduceEqDiff, Nat.reduceAdd, Nat.reduceMul, Nat.reduceLT, Nat.reduceLeDiff, f81r0, f81r1, f81r2, f81r3, f81r4, f81r5, f81r6, f81r7, f81r8, f81r9, f81r10, f81r11, f81r12, f81r13, f81r14, f81r15, B8.rd, eCV])
        refine wL_bslN rfl ?_; rintro b9 h9 e9 s9 hb9 (B9 : Blk _ _ _ (eCV v8))
        try simp (disch := first | exact Nat.le_of_ble_eq_true rfl | omega) only [AXR, AXB, J.dst, reduceIte, Nat.reduceEqDiff, Nat.reduceAdd, Nat.reduceMul, Nat.reduceLT, Nat.reduceLeDiff]
        rw [wL_raw]
        have e89 := e8.trans e9
        have hs89 := e89.size
        refine raw_push rfl rfl rfl (O.ext e89) B9 (O8.to fun b hb => ⟨⟨hb.1, ?_, hb.2.2⟩, e9.at_ b hb.2.1⟩) (by omega) (by omega) ?_
        · have := e9.size; omega
        intro a10 c10 h10 O10 G10 A10
        refine ⟨trivial, ?_⟩
        try simp (disch := first | exact Nat.le_of_ble_eq_true rfl | omega) only [AXR, AXB, J.dst, reduceIte, Nat.reduceEqDiff, Nat.reduceAdd, Nat.reduceMul, Nat.reduceLT, Nat.reduceLeDiff]
        (try simp (disch := first | exact Nat.le_of_ble_eq_true rfl | omega) only [AXR, AXB, J.dst, reduceIte, Nat.reduceEqDiff, Nat.reduceAdd, Nat.reduceMul, Nat.reduceLT, Nat.reduceLeDiff]); rw [f81c22_eq]; (try simp (disch := first | exact Nat.le_of_ble_eq_true rfl | omega) only [AXR, AXB, J.dst, reduceIte, Nat.reduceEqDiff, Nat.reduceAdd, Nat.reduceMul, Nat.reduceLT, Nat.reduceLeDiff, f81r0, f81r1, f81r2, f81r3, f81r4, f81r5, f81r6, f81r7, f81r8, f81r9, f81r10, f81r11, f81r12, f81r13, f81r14, f81r15, hw])
        refine hnx (n - 1) _ _ (by omega) ⟨G10.ext (e3.trans e89) hA, k + 1, m + 1, c10, a10, by omega, by omega, ?_, ?_, rfl⟩
        · rw [List.take_add_one, hx, List.filterMap_append]
          simp only [Option.toList, List.filterMap_cons, List.filterMap_nil, ← hres, hl]
          exact O10
        · intro j hj
          rcases A10 with e | ⟨q, e, hq⟩
          · exact hA j (e ▸ hj)
          · rw [e] at hj; cases hj; omega
      (try simp (disch := first | exact Nat.le_of_ble_eq_true rfl | omega) only [AXR, AXB, J.dst, reduceIte, Nat.reduceEqDiff, Nat.reduceAdd, Nat.reduceMul, Nat.reduceLT, Nat.reduceLeDiff]); rw [f81c19_eq]; (try simp (disch := first | exact Nat.le_of_ble_eq_true rfl | omega) only [AXR, AXB, J.dst, reduceIte, Nat.reduceEqDiff, Nat.reduceAdd, Nat.reduceMul, Nat.reduceLT, Nat.reduceLeDiff, f81r0, f81r1, f81r2, f81r3, f81r4, f81r5, f81r6, f81r7, f81r8, f81r9, f81r10, f81r11, f81r12, f81r13, f81r14, f81r15, B8.cel, eCV, l3, l5, l8, l6, l7])
      have hlk := O8.locked
      rw [vers_pos c8 O8.vn, hlk]
      refine ⟨fun hl => hkeep (by simp [leftC, hl]), fun hl => ?_⟩
      by_cases hv : c8.vers = []
      · rw [decide_eq_false (by simp [hv])]
        exact hskip (by simp [leftC, hl, hv])
      · rw [decide_eq_true hv]
        exact hkeep (by simp [leftC, hv])
    have O5 : CR (fun b => h1.size ≤ b ∧ b < h5.size ∧ some b ≠ ob a' ∧ b ≠ b4) h5 v x := hcr.to fun b hb => ⟨⟨hb.1, by omega, fun e => by have := hA b e.symm; omega, by omega⟩, e35.at_ b hb.2⟩
    have hcap := hcr.cap
    -- the slicing
    have sli : ∀ (h8 : Heap) (l : Nat) (τ : Env), Ext h5 h8 → l = rcutV x.vers below →
        AX.look τ 3 = some (ptr b1 0) → AX.look τ 5 = some (.slice a' m c') → AX.look τ 8 = some (ptr b4 0) → AX.look τ 6 = some (.slice (some ⟨b, o, none⟩) cs.length cl) → AX.look τ 7 = some (vi k) → AX.look τ 9 = some (vi l) →
        wC Try.prog f81c18 (X.inBlock 1 (X.then (fun σ h => wC Try.prog f81c22 Q' σ h) Q')) τ h8 := by
      intro h8 l τ e8 hl l3 l5 l8 l6 l7 l9
      have hll := rcutV_le x.vers below
      rw [← hl] at hll
      have B8 := B5.ext e8
      have hvn := hcr.vn
      (try simp (disch := first | exact Nat.le_of_ble_eq_true rfl | omega) only [AXR, AXB, J.dst, reduceIte, Nat.reduceEqDiff, Nat.reduceAdd, Nat.reduceMul, Nat.reduceLT, Nat.reduceLeDiff]); rw [f81c18_eq]; (try simp (disch := first | exact Nat.le_of_ble_eq_true rfl | omega) only [AXR, AXB, J.dst, reduceIte, Nat.reduceEqDiff, Nat.reduceAdd, Nat.reduceMul, Nat.reduceLT, Nat.reduceLeDiff, f81r0, f81r1, f81r2, f81r3, f81r4, f81r5, f81r6, f81r7, f81r8, f81r9, f81r10, f81r11, f81r12, f81r13, f81r14, f81r15, B8.cel, eCV, l3, l5, l8, l6, l7, l9])
      refine slc_lo' (l := l) (by omega) hcap ?_
      intro a9 ha9
      try simp (disch := first | exact Nat.le_of_ble_eq_true rfl | omega) only [AXR, AXB, J.dst, reduceIte, Nat.reduceEqDiff, Nat.reduceAdd, Nat.reduceMul, Nat.reduceLT, Nat.reduceLeDiff, l3, l5, l8, l6, l7, l9]
      refine wL_stN rfl rfl rfl B8 (by rw [eCV_len]; exact Nat.le_of_ble_eq_true rfl) (one_sl _ _ _) ?_
      rintro h9 u9 (B9 : Blk _ _ _ (eCV { v with va := a9, vn := v.vn - l, vc := v.vc - l }))
      simp (disch := first | exact Nat.le_of_ble_eq_true rfl | omega) only [AXR, AXB, J.dst, reduceIte, Nat.reduceEqDiff, Nat.reduceAdd, Nat.reduceMul, Nat.reduceLT, Nat.reduceLeDiff, l3, l5, l8, l6, l7, l9]
      refine app h9 _ { v with va := a9, vn := v.vn - l, vc := v.vc - l } (rtrimC below x) (u9.ext (e5.trans e8) (by omega)) B9 ?_ rfl rfl rfl rfl rfl rfl
      refine ⟨hcr.key, hcr.locked, hcr.lock, ?_, Nat.sub_le_sub_right hcap l, ?_⟩
      · show v.vn - l = (x.vers.drop _).length
        rw [List.length_drop, ← hl, hvn]
      · show SlF _ _ _ _ (x.vers.drop _)
        rw [← hl]
        refine (O5.vers.drop (c := v.vc) (by rw [← hvn]; exact hcap) ha9).to fun b hb => ⟨⟨hb.1, by rw [u9.size]; have := e8.size; omega, hb.2.2.1⟩, (u9.ne b hb.2.2.2).trans (e8.at_ b hb.2.1)⟩
    have B17 : Blk h5 b1 39 (eStamp below) := B1.ext (e2.trans e35)
    have hvn := hcr.vn
    have hpl := preV_le x.vers below
    -- behind the loop
    have stop : ∀ (h8 : Heap) (τ : Env), Ext h5 h8 →
        AX.look τ 3 = some (ptr b1 0) → AX.look τ 5 = some (.slice a' m c') → AX.look τ 8 = some (ptr b4 0) → AX.look τ 6 = some (.slice (some ⟨b, o, none⟩) cs.length cl) → AX.look τ 7 = some (vi k) → AX.look τ 9 = some (vi (preV x.vers below)) →
        wC Try.prog f81c15 (X.inBlock 1 (X.then (fun σ h => wC Try.prog f81c22 Q' σ h) Q')) τ h8 := by
      intro h8 τ e8 l3 l5 l8 l6 l7 l9
      have B8 := B5.ext e8
      (try simp (disch := first | exact Nat.le_of_ble_eq_true rfl | omega) only [AXR, AXB, J.dst, reduceIte, Nat.reduceEqDiff, Nat.reduceAdd, Nat.reduceMul, Nat.reduceLT, Nat.reduceLeDiff]); rw [f81c15_eq]; (try simp (disch := first | exact Nat.le_of_ble_eq_true rfl | omega) only [AXR, AXB, J.dst, reduceIte, Nat.reduceEqDiff, Nat.reduceAdd, Nat.reduceMul, Nat.reduceLT, Nat.reduceLeDiff, f81r0, f81r1, f81r2, f81r3, f81r4, f81r5, f81r6, f81r7, f81r8, f81r9, f81r10, f81r11, f81r12, f81r13, f81r14, f81r15, B8.cel, eCV, l3, l5, l8, l6, l7, l9, hvn])
      generalize hp : preV x.vers below = p at *
      refine ⟨fun hh => ?_, fun hh => ?_⟩
      · have hpos : 0 < p := by have := of_decide_eq_true hh; omega
        have hw : IntKind.i64.wrap ((p : Int) - 1) = ((p - 1 : Nat) : Int) := by rw [i64_wrap (by omega) (by omega)]; omega
        obtain ⟨u, hu⟩ := get_ex (show p - 1 < x.vers.length by omega)
        obtain ⟨b', o', ha, _, hrow'⟩ := (O5.ext e8).vers.elem eVer_len hu
        simp (disch := first | exact Nat.le_of_ble_eq_true rfl | omega) only [AXR, AXB, J.dst, reduceIte, Nat.reduceEqDiff, Nat.reduceAdd, Nat.reduceMul, Nat.reduceLT, Nat.reduceLeDiff, hw, ha, row_ver hrow']
        refine ⟨by omega, by omega, ?_⟩
        cases hd : u.drop with
        | false =>
          (try simp (disch := first | exact Nat.le_of_ble_eq_true rfl | omega) only [AXR, AXB, J.dst, reduceIte, Nat.reduceEqDiff, Nat.reduceAdd, Nat.reduceMul, Nat.reduceLT, Nat.reduceLeDiff]); rw [f81c16_eq]; (try simp (disch := first | exact Nat.le_of_ble_eq_true rfl | omega) only [AXR, AXB, J.dst, reduceIte, Nat.reduceEqDiff, Nat.reduceAdd, Nat.reduceMul, Nat.reduceLT, Nat.reduceLeDiff, f81r0, f81r1, f81r2, f81r3, f81r4, f81r5, f81r6, f81r7, f81r8, f81r9, f81r10, f81r11, f81r12, f81r13, f81r14, f81r15, Bool.not_false, br_true])
          (try simp (disch := first | exact Nat.le_of_ble_eq_true rfl | omega) only [AXR, AXB, J.dst, reduceIte, Nat.reduceEqDiff, Nat.reduceAdd, Nat.reduceMul, Nat.reduceLT, Nat.reduceLeDiff]); rw [f81c17_eq]; (try simp (disch := first | exact Nat.le_of_ble_eq_true rfl | omega) only [AXR, AXB, J.dst, reduceIte, Nat.reduceEqDiff, Nat.reduceAdd, Nat.reduceMul, Nat.reduceLT, Nat.reduceLeDiff, f81r0, f81r1, f81r2, f81r3, f81r4, f81r5, f81r6, f81r7, f81r8, f81r9, f81r10, f81r11, f81r12, f81r13, f81r14, f81r15, hw])
          refine sli h8 (p - 1) _ e8 ?_ rfl rfl rfl rfl rfl rfl
          unfold rcutV
          rw [hp, if_pos ⟨hpos, by rw [getD_of hu]; exact hd⟩]
        | true =>
          (try simp (disch := first | exact Nat.le_of_ble_eq_true rfl | omega) only [AXR, AXB, J.dst, reduceIte, Nat.reduceEqDiff, Nat.reduceAdd, Nat.reduceMul, Nat.reduceLT, Nat.reduceLeDiff]); rw [f81c16_eq]; (try simp (disch := first | exact Nat.le_of_ble_eq_true rfl | omega) only [AXR, AXB, J.dst, reduceIte, Nat.reduceEqDiff, Nat.reduceAdd, Nat.reduceMul, Nat.reduceLT, Nat.reduceLeDiff, f81r0, f81r1, f81r2, f81r3, f81r4, f81r5, f81r6, f81r7, f81r8, f81r9, f81r10, f81r11, f81r12, f81r13, f81r14, f81r15, Bool.not_true, br_false])
          refine sli h8 p _ e8 ?_ rfl rfl rfl rfl rfl rfl
          unfold rcutV
          rw [hp, if_neg (fun h => by have := h.2; rw [getD_of hu, hd] at this; cases this)]
      · have hz : p = 0 := by have := of_decide_eq_false hh; omega
        (try simp (disch := first | exact Nat.le_of_ble_eq_true rfl | omega) only [AXR, AXB, J.dst, reduceIte, Nat.reduceEqDiff, Nat.reduceAdd, Nat.reduceMul, Nat.reduceLT, Nat.reduceLeDiff]); rw [f81c16_eq]; (try simp (disch := first | exact Nat.le_of_ble_eq_true rfl | omega) only [AXR, AXB, J.dst, reduceIte, Nat.reduceEqDiff, Nat.reduceAdd, Nat.reduceMul, Nat.reduceLT, Nat.reduceLeDiff, f81r0, f81r1, f81r2, f81r3, f81r4, f81r5, f81r6, f81r7, f81r8, f81r9, f81r10, f81r11, f81r12, f81r13, f81r14, f81r15, br_false])
        refine sli h8 p _ e8 ?_ rfl rfl rfl rfl rfl rfl
        unfold rcutV
        rw [hp, if_neg (fun h => by have := h.1; omega)]
    (try simp (disch := first | exact Nat.le_of_ble_eq_true rfl | omega) only [AXR, AXB, J.dst, reduceIte, Nat.reduceEqDiff, Nat.reduceAdd, Nat.reduceMul, Nat.reduceLT, Nat.reduceLeDiff]); rw [f81c9_eq]; (try simp (disch := first | exact Nat.le_of_ble_eq_true rfl | omega) only [AXR, AXB, J.dst, reduceIte, Nat.reduceEqDiff, Nat.reduceAdd, Nat.reduceMul, Nat.reduceLT, Nat.reduceLeDiff, f81r0, f81r1, f81r2, f81r3, f81r4, f81r5, f81r6, f81r7, f81r8, f81r9, f81r10, f81r11, f81r12, f81r13, f81r14, f81r15])
    rw [f81c10_eq]
    refine loop_in (fun n2 σ h'' => Ext h5 h'' ∧ ∃ j : Nat, j + n2 = x.vers.length ∧ σ = [(3, ptr b1 0), (5, .slice a' m c'), (6, .slice (some ⟨b, o, none⟩) cs.length cl), (7, vi k), (8, ptr b4 0), (9, vi j)] ∧ ∀ p u, p < j → x.vers[p]? = some u → Stamp.lt below u.at_ = false)
      x.vers.length ⟨Ext.refl _, 0, by omega, rfl, by intros; omega⟩ ?_
    rintro n2 σ h8 ⟨e8, j, hj, rfl, hnk⟩ Q2 hnx2 hex2 hrt2 hnr2
    have B8 := B5.ext e8
    have B18 := B17.ext e8
    rw [f81c11_eq]
    refine drw_lt ?_
    simp only [f81r7, wL_mov, wL_fad, wL_ld1, wL_len, wL_bin, wL_sc, evO_tmp, look_cons, Nat.reduceEqDiff, reduceIte, bd_some, asP_ptr, ldOk_some, ldHeap_some, B8.cel, eCV, List.getElem?_cons_succ, List.getElem?_cons_zero, Nat.zero_add, lenV_sl, hvn, binV_lss, asB_bool, br_eqT]
    refine ⟨B8.lt, fun hh => ?_, fun hh => ?_⟩
    · have hjl : j < x.vers.length := by have := of_decide_eq_true hh; omega
      obtain ⟨u, hu⟩ := get_ex hjl
      obtain ⟨b', o', ha, _, hrow'⟩ := (O5.ext e8).vers.elem eVer_len hu
      rw [ha]
      simp (disch := first | exact Nat.le_of_ble_eq_true rfl | omega) only [AXR, AXB, J.dst, reduceIte, Nat.reduceEqDiff, Nat.reduceAdd, Nat.reduceMul, Nat.reduceLT, Nat.reduceLeDiff, ha, B8.cel, B18.rd, row_ver hrow', eCV, eStamp, hvn]
      refine ⟨B18.lt, B8.lt, by omega, by omega, hrow'.lt (by rw [eVer_len]; omega), ?_⟩
      refine rless_ok below u.at_ _ ?_
      intro h9 e9
      refine ⟨kp_ext (Nat.le_refl _) e9, ?_⟩
      try simp (disch := first | exact Nat.le_of_ble_eq_true rfl | omega) only [AXR, AXB, J.dst, reduceIte, Nat.reduceEqDiff, Nat.reduceAdd, Nat.reduceMul, Nat.reduceLT, Nat.reduceLeDiff]
      (try simp (disch := first | exact Nat.le_of_ble_eq_true rfl | omega) only [AXR, AXB, J.dst, reduceIte, Nat.reduceEqDiff, Nat.reduceAdd, Nat.reduceMul, Nat.reduceLT, Nat.reduceLeDiff]); rw [f81c12_eq]; (try simp (disch := first | exact Nat.le_of_ble_eq_true rfl | omega) only [AXR, AXB, J.dst, reduceIte, Nat.reduceEqDiff, Nat.reduceAdd, Nat.reduceMul, Nat.reduceLT, Nat.reduceLeDiff, f81r0, f81r1, f81r2, f81r3, f81r4, f81r5, f81r6, f81r7, f81r8, f81r9, f81r10, f81r11, f81r12, f81r13, f81r14, f81r15])
      refine ⟨fun h4 => ?_, fun h4 => ?_⟩
      · have h4' : Stamp.lt below u.at_ = false := by simpa using h4
        rw [f81c13_eq]
        (try simp (disch := first | exact Nat.le_of_ble_eq_true rfl | omega) only [AXR, AXB, J.dst, reduceIte, Nat.reduceEqDiff, Nat.reduceAdd, Nat.reduceMul, Nat.reduceLT, Nat.reduceLeDiff]); rw [f81c14_eq]; (try simp (disch := first | exact Nat.le_of_ble_eq_true rfl | omega) only [AXR, AXB, J.dst, reduceIte, Nat.reduceEqDiff, Nat.reduceAdd, Nat.reduceMul, Nat.reduceLT, Nat.reduceLeDiff, f81r0, f81r1, f81r2, f81r3, f81r4, f81r5, f81r6, f81r7, f81r8, f81r9, f81r10, f81r11, f81r12, f81r13, f81r14, f81r15])
        rw [i64_wrap (by omega) (by omega)]
        refine hnx2 (n2 - 1) _ _ (by omega) ⟨e8.trans e9, j + 1, by omega, rfl, ?_⟩
        intro p u' hp hu'
        rcases Nat.lt_or_ge p j with hlt | hge
        · exact hnk p u' hlt hu'
        · have : p = j := by omega
          subst this
          rw [hu] at hu'; cases hu'; exact h4'
      · have h4' : Stamp.lt below u.at_ = true := by simpa using h4
        have hpe := preV_eq below x.vers j (by omega) hnk (fun u' hu' => by rw [hu] at hu'; cases hu'; exact h4')
        refine hex2 _ _ ?_
        exact stop h9 _ (e8.trans e9) rfl rfl rfl rfl rfl (by rw [hpe]; rfl)
    · have hjl : j = x.vers.length := by have := of_decide_eq_false hh; omega
      have hpe := preV_eq below x.vers j (by omega) hnk (fun u' hu' => by rw [hjl, List.getElem?_eq_none (Nat.le_refl _)] at hu'; cases hu')
      try simp (disch := first | exact Nat.le_of_ble_eq_true rfl | omega) only [AXR, AXB, J.dst, reduceIte, Nat.reduceEqDiff, Nat.reduceAdd, Nat.reduceMul, Nat.reduceLT, Nat.reduceLeDiff]
      (try simp (disch := first | exact Nat.le_of_ble_eq_true rfl | omega) only [AXR, AXB, J.dst, reduceIte, Nat.reduceEqDiff, Nat.reduceAdd, Nat.reduceMul, Nat.reduceLT, Nat.reduceLeDiff]); rw [f81c12_eq]; (try simp (disch := first | exact Nat.le_of_ble_eq_true rfl | omega) only [AXR, AXB, J.dst, reduceIte, Nat.reduceEqDiff, Nat.reduceAdd, Nat.reduceMul, Nat.reduceLT, Nat.reduceLeDiff, f81r0, f81r1, f81r2, f81r3, f81r4, f81r5, f81r6, f81r7, f81r8, f81r9, f81r10, f81r11, f81r12, f81r13, f81r14, f81r15, br_false])
      refine hex2 _ _ ?_
      exact stop h8 _ e8 rfl rfl rfl rfl rfl (by rw [hpe]; rfl)
  · have hkl : k = cs.length := by have := of_decide_eq_false h2; omega
    subst hkl
    refine hex _ _ ?_
    (try simp (disch := first | exact Nat.le_of_ble_eq_true rfl | omega) only [AXR, AXB, J.dst, reduceIte, Nat.reduceEqDiff, Nat.reduceAdd, Nat.reduceMul, Nat.reduceLT, Nat.reduceLeDiff]); rw [f81c23_eq]; (try simp (disch := first | exact Nat.le_of_ble_eq_true rfl | omega) only [AXR, AXB, J.dst, reduceIte, Nat.reduceEqDiff, Nat.reduceAdd, Nat.reduceMul, Nat.reduceLT, Nat.reduceLeDiff, f81r0, f81r1, f81r2, f81r3, f81r4, f81r5, f81r6, f81r7, f81r8, f81r9, f81r10, f81r11, f81r12, f81r13, f81r14, f81r15])
    rw [List.take_length] at O
    exact hR _ _ _ _ (O.mono e1.size) (e12.trans e3)
end Go.Proofs.Ytefghfgmkndikaa
/-
  Walks: the reference's Lock.
-/
namespace Go.AX
open Go
/-- Where the reference lays a lock. -/
def rlockL (cs : List Cell) (w : Wri) (l : Lck) : List Cell :=
  if findK cs w.key < 0 then cs.take (lbK cs w.key) ++ [⟨w.key, [], true, lkW w l⟩] ++ cs.drop (lbK cs w.key)
  else cs.set (findK cs w.key).toNat { cs.getD (findK cs w.key).toNat default with locked := true, lock := lkW w l }
theorem wT_one (P : Program) (m : Option Md) (is : List I) (r : L) (C : Env → Heap → Prop) (σ : Env) (h : Heap) : wT P m (.one is r) C σ h = wL P m is 0 (fun σ h => wT P m r C σ h) σ h := rfl
theorem wT_alt (P : Program) (m : Option Md) (a b : L) (C : Env → Heap → Prop) (σ : Env) (h : Heap) : wT P m (.alt a b) C σ h = (wT P m a C σ h ∧ wT P m b C σ h) := rfl
theorem wT_nil (P : Program) (m : Option Md) (C : Env → Heap → Prop) (σ : Env) (h : Heap) : wT P m .nil C σ h = C σ h := rfl
theorem slc_hi' {sz n c u : Nat} {a : Option Addr} {K : Value → Prop} (h2 : u ≤ c) (H : ∀ a', (∀ b o, a = some ⟨b, o, none⟩ → a' = some ⟨b, o, none⟩) → K (.slice a' u c)) : slcV sz (.slice a n c) none (some (vi u)) none K := by
  simp only [slcV, asI_int, bd_some, Int.toNat_natCast]
  refine ⟨by omega, by omega, by omega, by omega, H _ ?_⟩
  rintro b o rfl
  split
  · rfl
  · simp [add_mk]
theorem kp_gr {h0 h h' : Heap} {row : Option Nat} (G : Gr row h h') (hs : h0.size ≤ h.size) (hr : ∀ k, row = some k → h0.size ≤ k) : kpOk (some ⟨(· < h0.size), h0⟩) h h' :=
  fun b hb => G.at_ b (Nat.lt_of_lt_of_le hb hs) (fun e => by have := hr b e.symm; have : b < h0.size := hb; omega)
end Go.AX
namespace Go.Proofs.Ytefghfgmkndikaa
open Go Go.AX

theorem rlock_ok {B : Nat → Prop} {a : Option Addr} {c : Nat} (cs : List Cell) (w : Wri) (l : Lck) (h : Heap) (S : SlC B h a cs) (hn : cs.length < big) (F : ∀ c ∈ cs, c.vers.length ≤ big) {R : Value → Heap → Prop}
    (hR : ∀ a' n' c' h', OwnC h.size h' a' n' c' (rlockL cs w l) → Ext h h' → R (.slice a' n' c') h') : CallsH Try.prog 79 [.slice a cs.length c, .agg (eWri w).toArray, .agg (eLck l).toArray] h R := by
  have hbig : big = 1000000 := rfl
  refine f79ok (by simp) ?_
  (try simp (disch := first | exact Nat.le_of_ble_eq_true rfl | omega) only [AXR, AXB, J.dst, reduceIte, Nat.reduceEqDiff, Nat.reduceAdd, Nat.reduceMul, Nat.reduceLT, Nat.reduceLeDiff]); rw [f79c0_eq]; (try simp (disch := first | exact Nat.le_of_ble_eq_true rfl | omega) only [AXR, AXB, J.dst, reduceIte, Nat.reduceEqDiff, Nat.reduceAdd, Nat.reduceMul, Nat.reduceLT, Nat.reduceLeDiff, f79r0, f79r1, f79r2, f79r3, f79r4, f79r5, f79r6, f79r7, f79r8, f79r9, f79r10, f79r11, f79r12])
  refine wL_boxN rfl ?_; rintro b1 h1 e1 s1 hb1 (B1 : Blk _ _ _ (eWri w))
  refine wL_boxN rfl ?_; rintro b2 h2 e2 s2 hb2 (B2 : Blk _ _ _ (eLck l))
  have hl1 := B1.lt
  replace B1 := B1.ext e2
  have hne : b1 ≠ b2 := by omega
  have e12 := e1.trans e2
  (try simp (disch := first | exact Nat.le_of_ble_eq_true rfl | omega) only [AXR, AXB, J.dst, reduceIte, Nat.reduceEqDiff, Nat.reduceAdd, Nat.reduceMul, Nat.reduceLT, Nat.reduceLeDiff]); rw [f79c1_eq]; (try simp (disch := first | exact Nat.le_of_ble_eq_true rfl | omega) only [AXR, AXB, J.dst, reduceIte, Nat.reduceEqDiff, Nat.reduceAdd, Nat.reduceMul, Nat.reduceLT, Nat.reduceLeDiff, f79r0, f79r1, f79r2, f79r3, f79r4, f79r5, f79r6, f79r7, f79r8, f79r9, f79r10, f79r11, f79r12])
  refine copy_ok cs _ (S.ext e12) (by omega) F ?_
  intro al cl h3 L e3
  try simp (disch := first | exact Nat.le_of_ble_eq_true rfl | omega) only [AXR, AXB, J.dst, reduceIte, Nat.reduceEqDiff, Nat.reduceAdd, Nat.reduceMul, Nat.reduceLT, Nat.reduceLeDiff]
  have hl2 := B2.lt
  have hz3 := e3.size
  replace B1 := B1.ext e3
  replace B2 := B2.ext e3
  have hLo := L.row
  (try simp (disch := first | exact Nat.le_of_ble_eq_true rfl | omega) only [AXR, AXB, J.dst, reduceIte, Nat.reduceEqDiff, Nat.reduceAdd, Nat.reduceMul, Nat.reduceLT, Nat.reduceLeDiff]); rw [f79c2_eq]; (try simp (disch := first | exact Nat.le_of_ble_eq_true rfl | omega) only [AXR, AXB, J.dst, reduceIte, Nat.reduceEqDiff, Nat.reduceAdd, Nat.reduceMul, Nat.reduceLT, Nat.reduceLeDiff, f79r0, f79r1, f79r2, f79r3, f79r4, f79r5, f79r6, f79r7, f79r8, f79r9, f79r10, f79r11, f79r12])
  refine ⟨fun b => b < h3.size ∧ b ≠ b2, fun b hb => hb.1, ?_⟩
  simp (disch := first | exact Nat.le_of_ble_eq_true rfl | omega) only [AXR, AXB, J.dst, reduceIte, Nat.reduceEqDiff, Nat.reduceAdd, Nat.reduceMul, Nat.reduceLT, Nat.reduceLeDiff, f79r2, B1.cel, eWri]
  refine ⟨⟨by omega, hne⟩, ⟨by omega, hne⟩, ?_⟩
  refine wL_stD rfl rfl (fun h => h.2 rfl) rfl B2 (Nat.le_of_ble_eq_true rfl) (one_b _) ?_
  intro h4 u4 B4
  simp (disch := first | exact Nat.le_of_ble_eq_true rfl | omega) only [AXR, AXB, J.dst, reduceIte, Nat.reduceEqDiff, Nat.reduceAdd, Nat.reduceMul, Nat.reduceLT, Nat.reduceLeDiff]
  refine wL_stD rfl rfl (fun h => h.2 rfl) rfl B4 (Nat.le_of_ble_eq_true rfl) (one_s _) ?_
  rintro h5 u5 (B5 : Blk _ _ _ (eLck { l with drop := w.drop, data := w.data }))
  have B15 := u5.blk (u4.blk B1 hne) hne
  have e35 : Ext h h5 := u5.ext (u4.ext (e12.trans e3) (by omega)) (by omega)
  have U35 : ∀ j, h2.size ≤ j → h5[j]? = h3[j]? := fun j hj => (u5.ne j (by omega)).trans (u4.ne j (by omega))
  have hs35 : h5.size = h3.size := u5.size.trans u4.size
  obtain ⟨vs, L1, L2, L3⟩ := L
  -- the copy, where it is after the stores
  have hcopy : OwnC h2.size h5 al cs.length cl cs := by
    refine ⟨vs, ?_, L2, L3.imp fun _ _ r => r.to fun b hb => ⟨⟨hb.1, by rw [hs35]; exact hb.2.1, hb.2.2⟩, U35 b hb.1⟩⟩
    refine ⟨L1.1, L1.2.imp id ?_⟩
    rintro ⟨g, cur, rfl, h1', h2', h3'⟩
    exact ⟨g, cur, rfl, h1', by rw [U35 g h1']; exact h2', h3'⟩
  have rest : ∀ (h6 : Heap) (τ : Env), Ext h h6 → h2.size ≤ h6.size → OwnC h2.size h6 al cs.length cl cs → Blk h6 b1 70 (eWri w) → Blk h6 b2 72 (eLck (lkW w l)) →
      AX.look τ 4 = some (ptr b1 0) → AX.look τ 5 = some (ptr b2 0) → AX.look τ 7 = some (.slice al cs.length cl) → wC Try.prog f79c6 (endW [Rs.tmp 6] R) τ h6 := by
    intro h6 τ e6 hz26 O6 B1 B2 l4 l5 l7
    have hlb := lbK_le cs w.key
    have hg12 := B2.lt
    -- the last part
    have fin : ∀ (h8 : Heap) (i : Nat) (τ : Env) (a8 : Option Addr) (n8 c8 : Nat) (ds : List Cell) (x : Cell), Ext h h8 → OwnC h2.size h8 a8 n8 c8 ds → ds[i]? = some x → Blk h8 b2 72 (eLck (lkW w l)) →
        ds.set i { x with locked := true, lock := lkW w l } = rlockL cs w l → AX.look τ 5 = some (ptr b2 0) → AX.look τ 7 = some (.slice a8 n8 c8) → AX.look τ 8 = some (vi i) → wC Try.prog f79c16 (endW [Rs.tmp 6] R) τ h8 := by
      intro h8 i τ a8 n8 c8 ds x e8 O8 hx B8 hres l5 l7 l8
      obtain ⟨vs, h1', h2', h3'⟩ := O8
      have hxl := (List.getElem?_eq_some_iff.1 hx).1
      obtain ⟨v, hv, hcr⟩ := h3'.get hx
      obtain ⟨hr1, hr2⟩ := h1'.room
      obtain ⟨g, cur, rfl, hg, G, hcl, hct⟩ := h1'.blk (by omega)
      have hgb : g ≠ b2 := by omega
      have hle : i * 12 + 12 ≤ c8 * 12 := by omega
      rw [f79c16_eq]
      refine ⟨fun b => b < h8.size ∧ b ≠ g, fun b hb => hb.1, ?_⟩
      simp (disch := first | exact Nat.le_of_ble_eq_true rfl | omega) only [AXR, AXB, J.dst, reduceIte, Nat.reduceEqDiff, Nat.reduceAdd, Nat.reduceMul, Nat.reduceLT, Nat.reduceLeDiff, f79r11, B8.rd, eLck, l5, l7, l8]
      refine ⟨⟨B8.lt, fun e => hgb e.symm⟩, by omega, by omega, ?_⟩
      refine wL_stD rfl rfl (fun h => h.2 rfl) rfl G (by rw [hcl]; omega) (one_b _) ?_
      intro h9 u9 B9
      simp (disch := first | exact Nat.le_of_ble_eq_true rfl | omega) only [AXR, AXB, J.dst, reduceIte, Nat.reduceEqDiff, Nat.reduceAdd, Nat.reduceMul, Nat.reduceLT, Nat.reduceLeDiff, l5, l7, l8]
      refine ⟨by omega, by omega, ?_⟩
      refine wL_stD rfl rfl (fun h => h.2 rfl) rfl B9 (by rw [putL_length, hcl]; omega) (one_lck (lkW w l)) ?_
      intro h10 u10 B10
      try simp (disch := first | exact Nat.le_of_ble_eq_true rfl | omega) only [AXR, AXB, J.dst, reduceIte, Nat.reduceEqDiff, Nat.reduceAdd, Nat.reduceMul, Nat.reduceLT, Nat.reduceLeDiff, l5, l7, l8]
      (try simp (disch := first | exact Nat.le_of_ble_eq_true rfl | omega) only [AXR, AXB, J.dst, reduceIte, Nat.reduceEqDiff, Nat.reduceAdd, Nat.reduceMul, Nat.reduceLT, Nat.reduceLeDiff]); rw [f79c17_eq]; (try simp (disch := first | exact Nat.le_of_ble_eq_true rfl | omega) only [AXR, AXB, J.dst, reduceIte, Nat.reduceEqDiff, Nat.reduceAdd, Nat.reduceMul, Nat.reduceLT, Nat.reduceLeDiff, f79r0, f79r1, f79r2, f79r3, f79r4, f79r5, f79r6, f79r7, f79r8, f79r9, f79r10, f79r11, f79r12])
      have hu : Upd g h8 h10 := ⟨by rw [u10.size, u9.size], fun k hk => (u10.ne k hk).trans (u9.ne k hk)⟩
      have hs2 := e12.size
      have hgh : h.size ≤ g := by omega
      refine hR _ _ _ _ ⟨vs.set i { v with locked := true, lock := lkW w l }, ?_, ?_, ?_⟩ (hu.ext e8 hgh)
      · simp only [Nat.zero_add] at B9 B10
        have P1 := h1'.put (h' := h9) eCV_len (by rw [h2', h3'.length]) hv rfl G (off := 2) (vals := [.bool true]) (v' := { v with locked := true }) (by exact B9) rfl (by simp)
        have P2 := P1.put (h' := h10) eCV_len (by rw [List.length_set, h2', h3'.length]) (i := i) (v := { v with locked := true }) (by rw [List.getElem?_set_self (by rw [h3'.length]; exact hxl)]) rfl B9 (off := 3) (vals := eLck (lkW w l))
          (v' := { v with locked := true, lock := lkW w l }) (by exact B10) rfl (by simp [eLck])
        rw [List.set_set] at P2
        exact P2.mono hs2
      · rw [← hres, List.length_set]; exact h2'
      · rw [← hres]
        have hto : ∀ b, (h2.size ≤ b ∧ b < h8.size ∧ some b ≠ ob (some (⟨g, 0, none⟩ : Addr))) → (h.size ≤ b ∧ b < h10.size ∧ some b ≠ ob (some (⟨g, 0, none⟩ : Addr))) ∧ h10[b]? = h8[b]? := by
          rintro b ⟨b1, b2, b3⟩
          exact ⟨⟨by omega, by rw [hu.size]; exact b2, b3⟩, hu.ne b (fun e => b3 (by rw [e]; rfl))⟩
        have r := hcr.to hto
        exact (h3'.imp fun _ _ r => r.to hto).set ⟨r.key, rfl, rfl, r.vn, r.cap, r.vers⟩
    (try simp (disch := first | exact Nat.le_of_ble_eq_true rfl | omega) only [AXR, AXB, J.dst, reduceIte, Nat.reduceEqDiff, Nat.reduceAdd, Nat.reduceMul, Nat.reduceLT, Nat.reduceLeDiff]); rw [f79c6_eq]; (try simp (disch := first | exact Nat.le_of_ble_eq_true rfl | omega) only [AXR, AXB, J.dst, reduceIte, Nat.reduceEqDiff, Nat.reduceAdd, Nat.reduceMul, Nat.reduceLT, Nat.reduceLeDiff, f79r0, f79r1, f79r2, f79r3, f79r4, f79r5, f79r6, f79r7, f79r8, f79r9, f79r10, f79r11, f79r12, B1.cel, eWri, l4, l5, l7])
    refine rfind_ok cs w.key _ O6.slc (by unfold maxLen; omega) ?_
    try simp (disch := first | exact Nat.le_of_ble_eq_true rfl | omega) only [AXR, AXB, J.dst, reduceIte, Nat.reduceEqDiff, Nat.reduceAdd, Nat.reduceMul, Nat.reduceLT, Nat.reduceLeDiff]
    (try simp (disch := first | exact Nat.le_of_ble_eq_true rfl | omega) only [AXR, AXB, J.dst, reduceIte, Nat.reduceEqDiff, Nat.reduceAdd, Nat.reduceMul, Nat.reduceLT, Nat.reduceLeDiff]); rw [f79c7_eq]; (try simp (disch := first | exact Nat.le_of_ble_eq_true rfl | omega) only [AXR, AXB, J.dst, reduceIte, Nat.reduceEqDiff, Nat.reduceAdd, Nat.reduceMul, Nat.reduceLT, Nat.reduceLeDiff, f79r0, f79r1, f79r2, f79r3, f79r4, f79r5, f79r6, f79r7, f79r8, f79r9, f79r10, f79r11, f79r12]); rw [f79c8_eq]; (try simp (disch := first | exact Nat.le_of_ble_eq_true rfl | omega) only [AXR, AXB, J.dst, reduceIte, Nat.reduceEqDiff, Nat.reduceAdd, Nat.reduceMul, Nat.reduceLT, Nat.reduceLeDiff, f79r0, f79r1, f79r2, f79r3, f79r4, f79r5, f79r6, f79r7, f79r8, f79r9, f79r10, f79r11, f79r12])
    refine ⟨fun hh => ?_, fun hh => ?_⟩
    · have hneg := of_decide_eq_true hh
      (try simp (disch := first | exact Nat.le_of_ble_eq_true rfl | omega) only [AXR, AXB, J.dst, reduceIte, Nat.reduceEqDiff, Nat.reduceAdd, Nat.reduceMul, Nat.reduceLT, Nat.reduceLeDiff]); rw [f79c9_eq]; (try simp (disch := first | exact Nat.le_of_ble_eq_true rfl | omega) only [AXR, AXB, J.dst, reduceIte, Nat.reduceEqDiff, Nat.reduceAdd, Nat.reduceMul, Nat.reduceLT, Nat.reduceLeDiff, f79r0, f79r1, f79r2, f79r3, f79r4, f79r5, f79r6, f79r7, f79r8, f79r9, f79r10, f79r11, f79r12])
      rw [f79c10_eq]
      have ins : ∀ τ, AX.look τ 4 = some (ptr b1 0) → AX.look τ 5 = some (ptr b2 0) → AX.look τ 7 = some (.slice al cs.length cl) → AX.look τ 8 = some (vi (lbK cs w.key)) →
          wC Try.prog f79c15 (X.then (fun σ h => wC Try.prog f79c16 (endW [Rs.tmp 6] R) σ h) (endW [Rs.tmp 6] R)) τ h6 := by
        intro τ l4 l5 l7 l8
        generalize hi : lbK cs w.key = i at *
        rw [f79c15_eq]
        refine drt_lt ?_
        obtain ⟨vs, C1, C2, C3⟩ := O6
        obtain ⟨hr1, hr2⟩ := C1.room
        obtain ⟨new, hnew⟩ : ∃ new : CV, new = ⟨w.key, none, 0, 0, false, noLock⟩ := ⟨_, rfl⟩
        simp only [f79r10, wT_one, wL_mov, evO_tmp, look_cons, Nat.reduceEqDiff, reduceIte, l7, l8, bd_some, wL_slc, evOo_none, evOo_some, Option.map_some]
        refine slc_hi' (u := i) (by omega) ?_
        intro a45 h45
        simp only [wL_fad, wL_ld1, wL_bld, wL_mov, evO_tmp, look_cons, Nat.reduceEqDiff, reduceIte, l4, l7, l8, bd_some, asP_ptr, ldOk_some, ldHeap_some, B1.cel, eWri, Nat.zero_add, List.getElem?_cons_zero, fillL_cons, fillL_nil, Option.bind_some, cells_string, List.size_toArray, List.length_cons, List.length_nil, Nat.reduceAdd, Nat.reduceLeDiff, and_self, putL_cons, putL_nil, List.set_cons_zero, wL_slc, evOo_none, evOo_some, Option.map_some]
        refine ⟨B1.lt, ?_⟩
        refine slc_lo' (l := i) hlb hr1 ?_
        intro a54 h54
        have t3 : ∀ (o51 o55 : Oper) (h8 : Heap) (b50 : Nat) (a46 : Option Addr) (c46 : Nat) (τ : Env), o51.op = .call ⟨.builtin .append, #[.tmp 46, .tmp 50], #[74, 74]⟩ → o55.op = .call ⟨.builtin .append, #[.tmp 51, .tmp 54], #[74, 74]⟩ → Ext h6 h8 → Blk h8 b50 103 (eCV new) → Own h6.size h8 103 12 a46 i c46 ((vs.take i).flatMap eCV) →
            AX.look τ 46 = some (.slice a46 i c46) → AX.look τ 50 = some (sl b50 0 1 1) → AX.look τ 54 = some (.slice a54 (cs.length - i) (cl - i)) → AX.look τ 5 = some (ptr b2 0) → AX.look τ 8 = some (vi i) →
            wL Try.prog (some ⟨(· < h6.size), h6⟩) [.op (.raw (some 51) o51), .op (.raw (some 55) o55), .op (.mov 7 (.tmp 55)), .kp [5, 7, 8]] 0 (fun σ h => wC Try.prog f79c16 (endW [Rs.tmp 6] R) σ h) τ h8 := by
          intro o51 o55 h8 b50 a46 c46 τ ho51 ho55 e8 B50 O46 l46 l50 l54 l5 l8
          rw [wL_raw]
          refine raw_append slT74 ho51 (by exact l46) (by exact l50) O46 (news := eCV new) (by rw [eCV_len]) (.inr ⟨b50, 0, rfl, B50.row⟩) (eCV_one new) (by unfold maxLen; omega) (by omega) e8.size ?_
          intro a51 c51 h9 O51 G9 A9
          have e9 : Ext h6 h9 := G9.ext e8 (fun k hk => (O46.ob k hk).1)
          refine ⟨kp_gr G9 e8.size (fun k hk => (O46.ob k hk).1), ?_⟩
          rw [putE_some, wL_raw]
          refine raw_append slT74 ho55 rfl (by exact l54) O51 (news := (vs.drop i).flatMap eCV) (by rw [flatMap_length eCV_len, List.length_drop, ← C3.length]) ?_ (one_flatMap eCV_one _) (by unfold maxLen; omega) (by omega) e9.size ?_
          · rcases Nat.lt_or_ge i cs.length with hil | hil
            · obtain ⟨g, rfl, hg, hrow⟩ := C1.row (by omega)
              refine .inr ⟨g, i * 12, ?_, ?_⟩
              · rw [h54 (by omega), Option.map_some, add_mk, Nat.zero_add]
              · have := (hrow.ext e9).sub (i * 12) ((vs.flatMap eCV).length - i * 12)
                rw [List.take_of_length_le (by rw [List.length_drop]; omega), flatMap_drop eCV_len, Nat.zero_add] at this
                exact this
            · exact .inl (by omega)
          intro a55 c55 h10 O55 G10 A10
          have e10 : Ext h6 h10 := G10.ext e9 (fun k hk => (O51.ob k hk).1)
          refine ⟨kp_gr G10 e9.size (fun k hk => (O51.ob k hk).1), ?_⟩
          simp (disch := first | exact Nat.le_of_ble_eq_true rfl | omega) only [AXR, AXB, J.dst, reduceIte, Nat.reduceEqDiff, Nat.reduceAdd, Nat.reduceMul, Nat.reduceLT, Nat.reduceLeDiff, l5, l8]
          have hO55 := O55.ob
          refine fin h10 i _ a55 _ c55 (cs.take i ++ [⟨w.key, [], false, noLock⟩] ++ cs.drop i) ⟨w.key, [], false, noLock⟩ (e6.trans e10) ⟨vs.take i ++ [new] ++ vs.drop i, ?_, ?_, ?_⟩ ?_ (B2.ext e10) ?_ rfl rfl rfl
          · rw [List.flatMap_append, List.flatMap_append]
            simpa using O55.mono hz26
          · simp; omega
          · have h3' := C3.imp fun _ _ r => r.to (B' := fun b => h2.size ≤ b ∧ b < h10.size ∧ some b ≠ ob a55) (h' := h10) fun b hb => ⟨⟨hb.1, by have := e10.size; omega, fun e => by have := (hO55 b e.symm).1; omega⟩, e10.at_ b hb.2.1⟩
            exact ((h3'.take _).append (.cons (by rw [hnew]; exact ⟨rfl, rfl, rfl, rfl, Nat.le_refl _, SlF.nil⟩) .nil)).append (h3'.drop _)
          · rw [List.append_assoc, List.getElem?_append_right (by simp; omega)]
            simp [Nat.min_eq_left hlb]
          · unfold rlockL
            rw [if_pos hneg, hi]
            rw [List.append_assoc, List.set_append_right _ _ (by simp; omega)]
            simp [Nat.min_eq_left hlb]
        have r45 : ∀ h8, Ext h6 h8 → i = 0 ∨ ∃ b q, a45 = some ⟨b, q, none⟩ ∧ Row h8 b q ((vs.take i).flatMap eCV) := by
          intro h8 e8
          rcases Nat.eq_zero_or_pos i with hz | hp
          · exact .inl hz
          · obtain ⟨g, rfl, hg, hrow⟩ := C1.row (by omega)
            refine .inr ⟨g, 0, h45 _ _ rfl, ?_⟩
            have := (hrow.ext e8).sub 0 (i * 12)
            rw [List.drop_zero, flatMap_take eCV_len] at this
            exact this
        have hl45 : ((vs.take i).flatMap eCV).length = i * 12 := by rw [flatMap_length eCV_len, List.length_take, C3.length, Nat.min_eq_left hlb]
        rw [wL_nil, wT_alt]
        refine ⟨?_, ?_⟩
        · rw [wT_one]
          refine wL_bslD rfl (Nat.le_refl _) ?_; intro b42 h42 e42 s42 hb42 B42
          have hg42 : h6.size ≤ b42 := by omega
          rw [wL_nil, wT_alt]
          refine ⟨?_, ?_⟩
          · rw [wT_one]
            rw [wL_raw]
            refine raw_append slT74 rfl rfl rfl (Own.of_blk (lo := h6.size) (n := 0) (c := 0) (xs := []) hg42 B42 (by simp) (Nat.le_refl _) (Nat.zero_le _) (by simp)) hl45 (r45 _ e42) (one_flatMap eCV_one _) (by unfold maxLen; omega) (by omega) e42.size ?_
            intro a46 c46 h46 O46 G46 A46
            rw [Nat.zero_add] at O46
            have e46 : Ext h6 h46 := G46.ext e42 (fun k hk => by cases hk; exact hg42)
            refine ⟨kp_gr G46 e42.size (fun k hk => by cases hk; exact hg42), ?_⟩
            refine wL_bslD rfl e46.size ?_; rintro b50 h50 e50 s50 hb50 (B50 : Blk _ _ _ (eCV ⟨w.key, none, 0, 0, false, noLock⟩))
            rw [← hnew] at B50
            exact t3 _ _ h50 b50 a46 c46 _ rfl rfl (e46.trans e50) B50 (by simpa using O46.ext e50) (by simp only [Nat.zero_add]; rfl) rfl rfl (by exact l5) (by exact l8)
          · rw [wT_one]
            refine wL_bslD rfl e42.size ?_; rintro b50 h50 e50 s50 hb50 (B50 : Blk _ _ _ (eCV ⟨w.key, none, 0, 0, false, noLock⟩))
            rw [← hnew] at B50
            have B42' := B42.ext e50
            have e450 := e42.trans e50
            rw [wL_raw]
            refine raw_append slT74 rfl rfl rfl (Own.of_blk (lo := h6.size) (n := 0) (c := 0) (xs := []) hg42 B42' (by simp) (Nat.le_refl _) (Nat.zero_le _) (by simp)) hl45 (r45 _ e450) (one_flatMap eCV_one _) (by unfold maxLen; omega) (by omega) e450.size ?_
            intro a46 c46 h46 O46 G46 A46
            rw [Nat.zero_add] at O46
            have e46 : Ext h6 h46 := G46.ext e450 (fun k hk => by cases hk; exact hg42)
            refine ⟨kp_gr G46 e450.size (fun k hk => by cases hk; exact hg42), ?_⟩
            exact t3 _ _ h46 b50 a46 c46 _ rfl rfl e46 (G46.blk B50 (fun e => absurd (show b50 = b42 by cases e; rfl) (by omega))) (by simpa using O46) (by simp only [Nat.zero_add]; rfl) rfl rfl (by exact l5) (by exact l8)
        · rw [wT_one]
          refine wL_bslD rfl (Nat.le_refl _) ?_; rintro b50 h50 e50 s50 hb50 (B50 : Blk _ _ _ (eCV ⟨w.key, none, 0, 0, false, noLock⟩))
          rw [← hnew] at B50
          refine wL_bslD rfl e50.size ?_; intro b42 h42 e42 s42 hb42 B42
          have hg42 : h6.size ≤ b42 := by have := e50.size; omega
          have e450 := e50.trans e42
          have hl50 := B50.lt
          rw [wL_raw]
          refine raw_append slT74 rfl rfl rfl (Own.of_blk (lo := h6.size) (n := 0) (c := 0) (xs := []) hg42 B42 (by simp) (Nat.le_refl _) (Nat.zero_le _) (by simp)) hl45 (r45 _ e450) (one_flatMap eCV_one _) (by unfold maxLen; omega) (by omega) e450.size ?_
          intro a46 c46 h46 O46 G46 A46
          rw [Nat.zero_add] at O46
          have e46 : Ext h6 h46 := G46.ext e450 (fun k hk => by cases hk; exact hg42)
          refine ⟨kp_gr G46 e450.size (fun k hk => by cases hk; exact hg42), ?_⟩
          exact t3 _ _ h46 b50 a46 c46 _ rfl rfl e46 (G46.blk (B50.ext e42) (fun e => absurd (show b50 = b42 by cases e; rfl) (by omega))) (by simpa using O46) (by simp only [Nat.zero_add]; rfl) rfl rfl (by exact l5) (by exact l8)
      refine loop_in (fun n σ h' => h' = h6 ∧ ∃ j : Nat, j + n = cs.length ∧ σ = [(4, ptr b1 0), (5, ptr b2 0), (7, .slice al cs.length cl), (8, vi j)] ∧ ∀ p c, p < j → cs[p]? = some c → klt c.key w.key = true)
        cs.length ⟨rfl, 0, by omega, rfl, by intros; omega⟩ ?_
      rintro n σ h' ⟨rfl, j, hj, rfl, hnk⟩ Q' hnx hex hrt _
      rw [f79c11_eq]
      refine drw_lt ?_
      simp only [f79r8, wL_mov, wL_len, wL_bin, wL_sc, evO_tmp, look_cons, Nat.reduceEqDiff, reduceIte, bd_some, lenV_sl, binV_lss, asB_bool, br_eqT]
      refine ⟨fun hh => ?_, fun hh => ?_⟩
      · have hjl : j < cs.length := by have := of_decide_eq_true hh; omega
        obtain ⟨x, hx⟩ := get_ex hjl
        obtain ⟨b, o, v, rfl, _, hrow, hcr⟩ := O6.slc.elem hx
        simp (disch := first | exact Nat.le_of_ble_eq_true rfl | omega) only [AXR, AXB, J.dst, reduceIte, Nat.reduceEqDiff, Nat.reduceAdd, Nat.reduceMul, Nat.reduceLT, Nat.reduceLeDiff, row_cv hrow, B1.cel, eWri, hcr.key]
        refine ⟨by omega, by omega, hrow.lt (by rw [eCV_len]; omega), B1.lt, ?_⟩
        (try simp (disch := first | exact Nat.le_of_ble_eq_true rfl | omega) only [AXR, AXB, J.dst, reduceIte, Nat.reduceEqDiff, Nat.reduceAdd, Nat.reduceMul, Nat.reduceLT, Nat.reduceLeDiff]); rw [f79c12_eq]; (try simp (disch := first | exact Nat.le_of_ble_eq_true rfl | omega) only [AXR, AXB, J.dst, reduceIte, Nat.reduceEqDiff, Nat.reduceAdd, Nat.reduceMul, Nat.reduceLT, Nat.reduceLeDiff, f79r0, f79r1, f79r2, f79r3, f79r4, f79r5, f79r6, f79r7, f79r8, f79r9, f79r10, f79r11, f79r12])
        refine ⟨fun h4 => ?_, fun h4 => ?_⟩
        · rw [f79c13_eq]
          (try simp (disch := first | exact Nat.le_of_ble_eq_true rfl | omega) only [AXR, AXB, J.dst, reduceIte, Nat.reduceEqDiff, Nat.reduceAdd, Nat.reduceMul, Nat.reduceLT, Nat.reduceLeDiff]); rw [f79c14_eq]; (try simp (disch := first | exact Nat.le_of_ble_eq_true rfl | omega) only [AXR, AXB, J.dst, reduceIte, Nat.reduceEqDiff, Nat.reduceAdd, Nat.reduceMul, Nat.reduceLT, Nat.reduceLeDiff, f79r0, f79r1, f79r2, f79r3, f79r4, f79r5, f79r6, f79r7, f79r8, f79r9, f79r10, f79r11, f79r12])
          rw [i64_wrap (by omega) (by omega)]
          refine hnx (n - 1) _ _ (by omega) ⟨rfl, j + 1, by omega, rfl, ?_⟩
          intro p c' hp hc'
          rcases Nat.lt_or_ge p j with hlt | hge
          · exact hnk p c' hlt hc'
          · have : p = j := by omega
            subst this
            rw [hx] at hc'; cases hc'; exact h4
        · have := lbK_eq w.key cs j (by omega) hnk (fun c' hc' => by rw [hx] at hc'; cases hc'; exact h4)
          refine hex _ _ ?_
          exact ins _ rfl rfl rfl (by rw [this]; rfl)
      · have hjl : j = cs.length := by have := of_decide_eq_false hh; omega
        have := lbK_eq w.key cs j (by omega) hnk (fun c' hc' => by rw [hjl, List.getElem?_eq_none (Nat.le_refl _)] at hc'; cases hc')
        try simp (disch := first | exact Nat.le_of_ble_eq_true rfl | omega) only [AXR, AXB, J.dst, reduceIte, Nat.reduceEqDiff, Nat.reduceAdd, Nat.reduceMul, Nat.reduceLT, Nat.reduceLeDiff]
        (try simp (disch := first | exact Nat.le_of_ble_eq_true rfl | omega) only [AXR, AXB, J.dst, reduceIte, Nat.reduceEqDiff, Nat.reduceAdd, Nat.reduceMul, Nat.reduceLT, Nat.reduceLeDiff]); rw [f79c12_eq]; (try simp (disch := first | exact Nat.le_of_ble_eq_true rfl | omega) only [AXR, AXB, J.dst, reduceIte, Nat.reduceEqDiff, Nat.reduceAdd, Nat.reduceMul, Nat.reduceLT, Nat.reduceLeDiff, f79r0, f79r1, f79r2, f79r3, f79r4, f79r5, f79r6, f79r7, f79r8, f79r9, f79r10, f79r11, f79r12, br_false])
        refine hex _ _ ?_
        exact ins _ rfl rfl rfl (by rw [this]; rfl)
    · have hpos := of_decide_eq_false hh
      have hb := findK_lt cs w.key
      obtain ⟨i, hi⟩ : ∃ i : Nat, findK cs w.key = i := ⟨(findK cs w.key).toNat, by omega⟩
      obtain ⟨x, hx⟩ := get_ex (show i < cs.length by omega)
      refine fin h6 i _ al cs.length cl cs x e6 O6 hx B2 ?_ rfl rfl (by rw [hi]; rfl)
      unfold rlockL
      rw [if_neg hpos, hi, Int.toNat_natCast, getD_of hx]
  (try simp (disch := first | exact Nat.le_of_ble_eq_true rfl | omega) only [AXR, AXB, J.dst, reduceIte, Nat.reduceEqDiff, Nat.reduceAdd, Nat.reduceMul, Nat.reduceLT, Nat.reduceLeDiff]); rw [f79c3_eq]; (try simp (disch := first | exact Nat.le_of_ble_eq_true rfl | omega) only [AXR, AXB, J.dst, reduceIte, Nat.reduceEqDiff, Nat.reduceAdd, Nat.reduceMul, Nat.reduceLT, Nat.reduceLeDiff, f79r0, f79r1, f79r2, f79r3, f79r4, f79r5, f79r6, f79r7, f79r8, f79r9, f79r10, f79r11, f79r12, B15.cel, eWri]); rw [f79c4_eq]; (try simp (disch := first | exact Nat.le_of_ble_eq_true rfl | omega) only [AXR, AXB, J.dst, reduceIte, Nat.reduceEqDiff, Nat.reduceAdd, Nat.reduceMul, Nat.reduceLT, Nat.reduceLeDiff, f79r0, f79r1, f79r2, f79r3, f79r4, f79r5, f79r6, f79r7, f79r8, f79r9, f79r10, f79r11, f79r12, B15.cel, eWri])
  refine ⟨fun hd => ?_, fun hd => ?_⟩
  · (try simp (disch := first | exact Nat.le_of_ble_eq_true rfl | omega) only [AXR, AXB, J.dst, reduceIte, Nat.reduceEqDiff, Nat.reduceAdd, Nat.reduceMul, Nat.reduceLT, Nat.reduceLeDiff]); rw [f79c5_eq]; (try simp (disch := first | exact Nat.le_of_ble_eq_true rfl | omega) only [AXR, AXB, J.dst, reduceIte, Nat.reduceEqDiff, Nat.reduceAdd, Nat.reduceMul, Nat.reduceLT, Nat.reduceLeDiff, f79r0, f79r1, f79r2, f79r3, f79r4, f79r5, f79r6, f79r7, f79r8, f79r9, f79r10, f79r11, f79r12])
    refine wL_stN rfl rfl rfl B5 (Nat.le_of_ble_eq_true rfl) (one_s _) ?_
    rintro h6 u6 (B6 : Blk _ _ _ (eLck { l with drop := w.drop, data := noB }))
    try simp (disch := first | exact Nat.le_of_ble_eq_true rfl | omega) only [AXR, AXB, J.dst, reduceIte, Nat.reduceEqDiff, Nat.reduceAdd, Nat.reduceMul, Nat.reduceLT, Nat.reduceLeDiff]
    refine rest h6 _ (u6.ext e35 (by have := e12.size; omega)) (by rw [u6.size, hs35]; exact hz3) ?_ (u6.blk B15 hne) ?_ rfl rfl rfl
    · obtain ⟨vs, C1, C2, C3⟩ := hcopy
      refine ⟨vs, C1.gr u6.gr (fun k hk => by have := (C1.ob k hk).1; intro e; cases e; omega), C2, C3.imp fun _ _ r => r.to fun b hb => ⟨⟨hb.1, by rw [u6.size]; exact hb.2.1, hb.2.2⟩, u6.ne b (by omega)⟩⟩
    · have : lkW w l = { l with drop := w.drop, data := noB } := by simp [lkW, hd]
      rw [this]; exact B6
  · refine rest h5 _ e35 (by rw [hs35]; exact hz3) hcopy B15 ?_ rfl rfl rfl
    have : lkW w l = { l with drop := w.drop, data := w.data } := by simp [lkW, hd]
    rw [this]; exact B5
end Go.Proofs.Ytefghfgmkndikaa
/-
  Walks: an operation by the program and the document; whether operations are light; Mine.
-/
namespace Go.AX
open Go
structure Op8 where
  kind : Int
  w : Wri
  l : Lck
  yes : Bool
def eOp8 (o : Op8) : List Value := vi o.kind :: (eWri o.w ++ eLck o.l ++ [.bool o.yes])
theorem eOp8_len (o : Op8) : (eOp8 o).length = 14 := rfl
theorem raw_rem {P : Program} {o : Oper} {σ : Env} {h : Heap} {K : Value → Heap → Prop} {t yt : TypeId} {x y : Operand} {k : IntKind} {a b : Int} (ho : o.op = .binOp .rem t x y yt)
    (hx : evO σ x = some (.int k a)) (hy : evO σ y = some (.int k b)) (h0 : b ≠ 0) (hK : K (.int k (a.tmod b)) h) : RawW P o σ h K := by
  refine ⟨?_, ?_, ?_⟩
  · rw [ho]; intro u hu
    simp only [Op.operands, List.mem_toArray, List.mem_cons, List.not_mem_nil, or_false] at hu
    rcases hu with rfl | rfl
    · rw [hx]; rfl
    · rw [hy]; rfl
  · rw [ho]; intro cs b hh; cases hh
  · intro w hw
    refine ⟨.value (.int k (a.tmod b)), _, w, ?_, rfl, Same.refl w, by rw [hw]; exact hK⟩
    simp [execOp, ho, hx, hy, eqGuard, binOp, Op.intDiv, h0]
/-- The sort of an operation. -/
def sortI (k : Int) : Int := (k.tmod 3 + 3).tmod 3
def doL (cs : List Cell) (o : Op8) : List Cell := if sortI o.kind = 0 then lockL cs o.w o.l else if sortI o.kind = 1 then settleL cs o.l.by_ o.yes else trimL cs o.l.at_
def rdoL (cs : List Cell) (o : Op8) : List Cell := if sortI o.kind = 0 then rlockL cs o.w o.l else if sortI o.kind = 1 then rsettleL cs o.l.by_ o.yes else rtrimL cs o.l.at_
end Go.AX
namespace Go.Proofs.Ytefghfgmkndikaa
open Go Go.AX

theorem number_ok (k : Int) (h : Heap) {R : Value → Heap → Prop} (hR : R (vi (sortI k)) h) : CallsH Try.prog 78 [vi k] h R := by
  refine f78ok (by simp) ?_
  (try simp (disch := first | exact Nat.le_of_ble_eq_true rfl | omega) only [AXR, AXB, J.dst, reduceIte, Nat.reduceEqDiff, Nat.reduceAdd, Nat.reduceMul, Nat.reduceLT, Nat.reduceLeDiff]); rw [f78c0_eq]; (try simp (disch := first | exact Nat.le_of_ble_eq_true rfl | omega) only [AXR, AXB, J.dst, reduceIte, Nat.reduceEqDiff, Nat.reduceAdd, Nat.reduceMul, Nat.reduceLT, Nat.reduceLeDiff, f78r0, f78r1]); rw [f78c1_eq]; (try simp (disch := first | exact Nat.le_of_ble_eq_true rfl | omega) only [AXR, AXB, J.dst, reduceIte, Nat.reduceEqDiff, Nat.reduceAdd, Nat.reduceMul, Nat.reduceLT, Nat.reduceLeDiff, f78r0, f78r1])
  rw [wL_raw]
  refine raw_rem rfl rfl rfl (by decide) ?_
  refine ⟨trivial, ?_⟩
  simp (disch := first | exact Nat.le_of_ble_eq_true rfl | omega) only [AXR, AXB, J.dst, reduceIte, Nat.reduceEqDiff, Nat.reduceAdd, Nat.reduceMul, Nat.reduceLT, Nat.reduceLeDiff]
  have hm1 := Int.tmod_lt_of_pos k (show (0 : Int) < 3 by decide)
  have hm2 : -3 < k.tmod 3 := Int.lt_tmod_of_pos k (by decide)
  rw [i64_wrap (by omega) (by omega), wL_raw]
  refine raw_rem rfl rfl rfl (by decide) ?_
  refine ⟨trivial, ?_⟩
  simp (disch := first | exact Nat.le_of_ble_eq_true rfl | omega) only [AXR, AXB, J.dst, reduceIte, Nat.reduceEqDiff, Nat.reduceAdd, Nat.reduceMul, Nat.reduceLT, Nat.reduceLeDiff]
  exact hR

theorem do_ok {B : Nat → Prop} {a : Option Addr} {c : Nat} (cs : List Cell) (o : Op8) (h : Heap) (S : SlC B h a cs) (hs : Sorted cs) (hn : cs.length < big) (F : ∀ c ∈ cs, c.vers.length < big) {R : Value → Heap → Prop}
    (hR : ∀ ax nx cx ay ny cy h', OwnC h.size h' ax nx cx (doL cs o) → OwnC h.size h' ay ny cy (rdoL cs o) → Ext h h' → R (.tuple #[.slice ax nx cx, .slice ay ny cy]) h') :
    CallsH Try.prog 37 [.slice a cs.length c, .agg (eOp8 o).toArray] h R := by
  have F' : ∀ c ∈ cs, c.vers.length ≤ big := fun c hc => Nat.le_of_lt (F c hc)
  refine f37ok (by simp) ?_
  (try simp (disch := first | exact Nat.le_of_ble_eq_true rfl | omega) only [AXR, AXB, J.dst, reduceIte, Nat.reduceEqDiff, Nat.reduceAdd, Nat.reduceMul, Nat.reduceLT, Nat.reduceLeDiff]); rw [f37c0_eq]; (try simp (disch := first | exact Nat.le_of_ble_eq_true rfl | omega) only [AXR, AXB, J.dst, reduceIte, Nat.reduceEqDiff, Nat.reduceAdd, Nat.reduceMul, Nat.reduceLT, Nat.reduceLeDiff, f37r0, f37r1, f37r2, f37r3, f37r4, f37r5, f37r6])
  refine wL_boxN rfl ?_; rintro b1 h1 e1 s1 hb1 (B1 : Blk _ _ _ (eOp8 o))
  have hs1 := e1.size
  (try simp (disch := first | exact Nat.le_of_ble_eq_true rfl | omega) only [AXR, AXB, J.dst, reduceIte, Nat.reduceEqDiff, Nat.reduceAdd, Nat.reduceMul, Nat.reduceLT, Nat.reduceLeDiff]); rw [f37c1_eq]; (try simp (disch := first | exact Nat.le_of_ble_eq_true rfl | omega) only [AXR, AXB, J.dst, reduceIte, Nat.reduceEqDiff, Nat.reduceAdd, Nat.reduceMul, Nat.reduceLT, Nat.reduceLeDiff, f37r0, f37r1, f37r2, f37r3, f37r4, f37r5, f37r6, B1.cel, eOp8])
  refine number_ok _ _ ?_
  try simp (disch := first | exact Nat.le_of_ble_eq_true rfl | omega) only [AXR, AXB, J.dst, reduceIte, Nat.reduceEqDiff, Nat.reduceAdd, Nat.reduceMul, Nat.reduceLT, Nat.reduceLeDiff]
  rw [f37c2_eq]
  (try simp (disch := first | exact Nat.le_of_ble_eq_true rfl | omega) only [AXR, AXB, J.dst, reduceIte, Nat.reduceEqDiff, Nat.reduceAdd, Nat.reduceMul, Nat.reduceLT, Nat.reduceLeDiff]); rw [f37c3_eq]; (try simp (disch := first | exact Nat.le_of_ble_eq_true rfl | omega) only [AXR, AXB, J.dst, reduceIte, Nat.reduceEqDiff, Nat.reduceAdd, Nat.reduceMul, Nat.reduceLT, Nat.reduceLeDiff, f37r0, f37r1, f37r2, f37r3, f37r4, f37r5, f37r6]); rw [f37c4_eq]; (try simp (disch := first | exact Nat.le_of_ble_eq_true rfl | omega) only [AXR, AXB, J.dst, reduceIte, Nat.reduceEqDiff, Nat.reduceAdd, Nat.reduceMul, Nat.reduceLT, Nat.reduceLeDiff, f37r0, f37r1, f37r2, f37r3, f37r4, f37r5, f37r6])
  refine ⟨fun hh => ?_, fun hh => ?_⟩
  · have h0 : sortI o.kind = 0 := by simpa using hh
    rw [f37c5_eq]
    refine drw_lt ?_
    simp (disch := first | exact Nat.le_of_ble_eq_true rfl | omega) only [AXR, AXB, J.dst, reduceIte, Nat.reduceEqDiff, Nat.reduceAdd, Nat.reduceMul, Nat.reduceLT, Nat.reduceLeDiff, f37r3, B1.rd, eOp8, eWri, eLck, List.cons_append, List.nil_append]
    refine ⟨B1.lt, B1.lt, B1.lt, B1.lt, ?_⟩
    refine lock_ok cs o.w o.l _ (S.ext e1) hs hn F' ?_
    intro a2 n2 c2 h2 O2 e2
    refine ⟨kp_ext (Nat.le_refl _) e2, ?_⟩
    try simp (disch := first | exact Nat.le_of_ble_eq_true rfl | omega) only [AXR, AXB, J.dst, reduceIte, Nat.reduceEqDiff, Nat.reduceAdd, Nat.reduceMul, Nat.reduceLT, Nat.reduceLeDiff]
    refine rlock_ok cs o.w o.l _ (S.ext (e1.trans e2)) hn F' ?_
    intro a3 n3 c3 h3 O3 e3
    refine ⟨kp_ext e2.size e3, ?_⟩
    try simp (disch := first | exact Nat.le_of_ble_eq_true rfl | omega) only [AXR, AXB, J.dst, reduceIte, Nat.reduceEqDiff, Nat.reduceAdd, Nat.reduceMul, Nat.reduceLT, Nat.reduceLeDiff]
    have hs2 := e2.size
    refine hR _ _ _ _ _ _ _ ?_ ?_ (e1.trans (e2.trans e3))
    · unfold doL; rw [if_pos h0]; exact (O2.mono hs1).ext e3
    · unfold rdoL; rw [if_pos h0]; exact O3.mono (by omega)
  · have h0 : ¬ sortI o.kind = 0 := by simpa using hh
    (try simp (disch := first | exact Nat.le_of_ble_eq_true rfl | omega) only [AXR, AXB, J.dst, reduceIte, Nat.reduceEqDiff, Nat.reduceAdd, Nat.reduceMul, Nat.reduceLT, Nat.reduceLeDiff]); rw [f37c6_eq]; (try simp (disch := first | exact Nat.le_of_ble_eq_true rfl | omega) only [AXR, AXB, J.dst, reduceIte, Nat.reduceEqDiff, Nat.reduceAdd, Nat.reduceMul, Nat.reduceLT, Nat.reduceLeDiff, f37r0, f37r1, f37r2, f37r3, f37r4, f37r5, f37r6]); rw [f37c7_eq]; (try simp (disch := first | exact Nat.le_of_ble_eq_true rfl | omega) only [AXR, AXB, J.dst, reduceIte, Nat.reduceEqDiff, Nat.reduceAdd, Nat.reduceMul, Nat.reduceLT, Nat.reduceLeDiff, f37r0, f37r1, f37r2, f37r3, f37r4, f37r5, f37r6])
    refine ⟨fun hh => ?_, fun hh => ?_⟩
    · have h1' : sortI o.kind = 1 := by simpa using hh
      rw [f37c8_eq]
      refine drw_lt ?_
      simp (disch := first | exact Nat.le_of_ble_eq_true rfl | omega) only [AXR, AXB, J.dst, reduceIte, Nat.reduceEqDiff, Nat.reduceAdd, Nat.reduceMul, Nat.reduceLT, Nat.reduceLeDiff, f37r5, B1.rd, B1.cel, eOp8, eWri, eLck, List.cons_append, List.nil_append]
      refine ⟨B1.lt, B1.lt, B1.lt, B1.lt, ?_⟩
      refine settle_ok cs o.l.by_ o.yes _ (S.ext e1) (by omega) F ?_
      intro a2 n2 c2 h2 O2 e2
      refine ⟨kp_ext (Nat.le_refl _) e2, ?_⟩
      try simp (disch := first | exact Nat.le_of_ble_eq_true rfl | omega) only [AXR, AXB, J.dst, reduceIte, Nat.reduceEqDiff, Nat.reduceAdd, Nat.reduceMul, Nat.reduceLT, Nat.reduceLeDiff]
      refine rsettle_ok cs o.l.by_ o.yes _ (S.ext (e1.trans e2)) (by omega) F ?_
      intro a3 n3 c3 h3 O3 e3
      refine ⟨kp_ext e2.size e3, ?_⟩
      try simp (disch := first | exact Nat.le_of_ble_eq_true rfl | omega) only [AXR, AXB, J.dst, reduceIte, Nat.reduceEqDiff, Nat.reduceAdd, Nat.reduceMul, Nat.reduceLT, Nat.reduceLeDiff]
      have hs2 := e2.size
      refine hR _ _ _ _ _ _ _ ?_ ?_ (e1.trans (e2.trans e3))
      · unfold doL; rw [if_neg h0, if_pos h1']; exact (O2.mono hs1).ext e3
      · unfold rdoL; rw [if_neg h0, if_pos h1']; exact O3.mono (by omega)
    · have h1' : ¬ sortI o.kind = 1 := by simpa using hh
      try simp (disch := first | exact Nat.le_of_ble_eq_true rfl | omega) only [AXR, AXB, J.dst, reduceIte, Nat.reduceEqDiff, Nat.reduceAdd, Nat.reduceMul, Nat.reduceLT, Nat.reduceLeDiff]
      rw [f37c9_eq]
      refine drw_lt ?_
      simp (disch := first | exact Nat.le_of_ble_eq_true rfl | omega) only [AXR, AXB, J.dst, reduceIte, Nat.reduceEqDiff, Nat.reduceAdd, Nat.reduceMul, Nat.reduceLT, Nat.reduceLeDiff, f37r6, B1.rd, eOp8, eWri, eLck, List.cons_append, List.nil_append]
      refine ⟨B1.lt, B1.lt, ?_⟩
      refine trim_ok cs o.l.at_ _ (S.ext e1) (by omega) F ?_
      intro a2 n2 c2 h2 O2 e2
      refine ⟨kp_ext (Nat.le_refl _) e2, ?_⟩
      try simp (disch := first | exact Nat.le_of_ble_eq_true rfl | omega) only [AXR, AXB, J.dst, reduceIte, Nat.reduceEqDiff, Nat.reduceAdd, Nat.reduceMul, Nat.reduceLT, Nat.reduceLeDiff]
      refine rtrim_ok cs o.l.at_ _ (S.ext (e1.trans e2)) (by omega) F ?_
      intro a3 n3 c3 h3 O3 e3
      refine ⟨kp_ext e2.size e3, ?_⟩
      try simp (disch := first | exact Nat.le_of_ble_eq_true rfl | omega) only [AXR, AXB, J.dst, reduceIte, Nat.reduceEqDiff, Nat.reduceAdd, Nat.reduceMul, Nat.reduceLT, Nat.reduceLeDiff]
      have hs2 := e2.size
      refine hR _ _ _ _ _ _ _ ?_ ?_ (e1.trans (e2.trans e3))
      · unfold doL; rw [if_neg h0, if_neg h1']; exact (O2.mono hs1).ext e3
      · unfold rdoL; rw [if_neg h0, if_neg h1']; exact O3.mono (by omega)

/-- Whether any lock is an attempt's. -/
def mineL (cs : List Cell) (by_ : Try4) : Bool := cs.any fun c => c.locked && decide (c.lock.by_ = by_)

theorem mine1_ok (x : CV) (by_ : Try4) (b : Nat) (h : Heap) (B : Blk h b 37 (eTry by_)) {R : Value → Heap → Prop} (hR : ∀ h', Ext h h' → R (.bool (x.locked && decide (x.lock.by_ = by_))) h') :
    CallsH Try.prog 83 [.agg (eCV x).toArray, ptr b 0] h R := by
  refine f83ok (by simp) ?_
  (try simp (disch := first | exact Nat.le_of_ble_eq_true rfl | omega) only [AXR, AXB, J.dst, reduceIte, Nat.reduceEqDiff, Nat.reduceAdd, Nat.reduceMul, Nat.reduceLT, Nat.reduceLeDiff]); rw [f83c0_eq]; (try simp (disch := first | exact Nat.le_of_ble_eq_true rfl | omega) only [AXR, AXB, J.dst, reduceIte, Nat.reduceEqDiff, Nat.reduceAdd, Nat.reduceMul, Nat.reduceLT, Nat.reduceLeDiff, f83r0, f83r1])
  refine wL_boxN rfl ?_; rintro b1 h1 e1 s1 hb1 (B1 : Blk _ _ _ (eCV x))
  (try simp (disch := first | exact Nat.le_of_ble_eq_true rfl | omega) only [AXR, AXB, J.dst, reduceIte, Nat.reduceEqDiff, Nat.reduceAdd, Nat.reduceMul, Nat.reduceLT, Nat.reduceLeDiff]); rw [f83c1_eq]; (try simp (disch := first | exact Nat.le_of_ble_eq_true rfl | omega) only [AXR, AXB, J.dst, reduceIte, Nat.reduceEqDiff, Nat.reduceAdd, Nat.reduceMul, Nat.reduceLT, Nat.reduceLeDiff, f83r0, f83r1, B1.cel, B1.rd, (B.ext e1).rd, eCV, eTry, eqA_try])
  have hR := hR _ e1
  refine ⟨fun hh => ?_, fun hh => ?_⟩
  · rw [hh] at hR; simpa using hR
  · rw [hh] at hR; simpa using hR

theorem anyK (cs : List Cell) (f : Cell → Bool) (k : Nat) (hk : ∀ j c, j < k → cs[j]? = some c → f c = false) : (∀ c, cs[k]? = some c → f c = true → cs.any f = true) ∧ (k = cs.length → cs.any f = false) := by
  refine ⟨fun c hc he => List.any_eq_true.2 ⟨c, List.mem_of_getElem? hc, he⟩, fun he => ?_⟩
  rw [List.any_eq_false]
  intro x hx
  obtain ⟨j, hj, rfl⟩ := List.mem_iff_getElem.1 hx
  simpa using hk j _ (by omega) (List.getElem?_eq_getElem hj)

theorem index_ok {B : Nat → Prop} {a : Option Addr} {c : Nat} (cs : List Cell) (by_ : Try4) (b : Nat) (h : Heap) (S : SlC B h a cs) (hn : cs.length ≤ maxLen) (B0 : Blk h b 37 (eTry by_)) {R : Value → Heap → Prop}
    (hR : ∀ i : Int, (0 ≤ i ↔ mineL cs by_ = true) → ∀ h', Ext h h' → R (vi i) h') : CallsH Try.prog 113 [.slice a cs.length c, .func (.func 83) #[] #[ptr b 0]] h R := by
  refine f113ok (by simp) ?_
  (try simp (disch := first | exact Nat.le_of_ble_eq_true rfl | omega) only [AXR, AXB, J.dst, reduceIte, Nat.reduceEqDiff, Nat.reduceAdd, Nat.reduceMul, Nat.reduceLT, Nat.reduceLeDiff]); rw [f113c0_eq]; (try simp (disch := first | exact Nat.le_of_ble_eq_true rfl | omega) only [AXR, AXB, J.dst, reduceIte, Nat.reduceEqDiff, Nat.reduceAdd, Nat.reduceMul, Nat.reduceLT, Nat.reduceLeDiff, f113r0, f113r1, f113r2, f113r3, f113r4, f113r5, f113r6, f113r7]); rw [f113c1_eq]; (try simp (disch := first | exact Nat.le_of_ble_eq_true rfl | omega) only [AXR, AXB, J.dst, reduceIte, Nat.reduceEqDiff, Nat.reduceAdd, Nat.reduceMul, Nat.reduceLT, Nat.reduceLeDiff, f113r0, f113r1, f113r2, f113r3, f113r4, f113r5, f113r6, f113r7])
  unfold maxLen at hn
  rw [f113c2_eq]
  refine loop_in (fun n σ h' => Ext h h' ∧ ∃ k : Nat, k + n = cs.length ∧ σ = [(0, .slice a cs.length c), (1, .func (.func 83) #[] #[ptr b 0]), (7, vi cs.length), (8, vi k)] ∧ ∀ j c, j < k → cs[j]? = some c → (c.locked && decide (c.lock.by_ = by_)) = false)
    cs.length ⟨Ext.refl _, 0, by omega, rfl, by intros; omega⟩ ?_
  rintro n σ h' ⟨e1, k, hk, rfl, hnk⟩ Q' hnx hex hrt _
  (try simp (disch := first | exact Nat.le_of_ble_eq_true rfl | omega) only [AXR, AXB, J.dst, reduceIte, Nat.reduceEqDiff, Nat.reduceAdd, Nat.reduceMul, Nat.reduceLT, Nat.reduceLeDiff]); rw [f113c3_eq]; (try simp (disch := first | exact Nat.le_of_ble_eq_true rfl | omega) only [AXR, AXB, J.dst, reduceIte, Nat.reduceEqDiff, Nat.reduceAdd, Nat.reduceMul, Nat.reduceLT, Nat.reduceLeDiff, f113r0, f113r1, f113r2, f113r3, f113r4, f113r5, f113r6, f113r7]); rw [f113c4_eq]; (try simp (disch := first | exact Nat.le_of_ble_eq_true rfl | omega) only [AXR, AXB, J.dst, reduceIte, Nat.reduceEqDiff, Nat.reduceAdd, Nat.reduceMul, Nat.reduceLT, Nat.reduceLeDiff, f113r0, f113r1, f113r2, f113r3, f113r4, f113r5, f113r6, f113r7])
  have hany := anyK cs (fun c => c.locked && decide (c.lock.by_ = by_)) k hnk
  refine ⟨fun h2 => ?_, fun h2 => ?_⟩
  · have hkl : k < cs.length := by have := of_decide_eq_true h2; omega
    obtain ⟨x, hx⟩ := get_ex hkl
    obtain ⟨b', o, v, rfl, _, hrow, hcr⟩ := (S.ext e1).elem hx
    rw [f113c5_eq]
    (try simp (disch := first | exact Nat.le_of_ble_eq_true rfl | omega) only [AXR, AXB, J.dst, reduceIte, Nat.reduceEqDiff, Nat.reduceAdd, Nat.reduceMul, Nat.reduceLT, Nat.reduceLeDiff]); rw [f113c6_eq]; (try simp (disch := first | exact Nat.le_of_ble_eq_true rfl | omega) only [AXR, AXB, J.dst, reduceIte, Nat.reduceEqDiff, Nat.reduceAdd, Nat.reduceMul, Nat.reduceLT, Nat.reduceLeDiff, f113r0, f113r1, f113r2, f113r3, f113r4, f113r5, f113r6, f113r7, row_cv hrow]); rw [f113c7_eq]; (try simp (disch := first | exact Nat.le_of_ble_eq_true rfl | omega) only [AXR, AXB, J.dst, reduceIte, Nat.reduceEqDiff, Nat.reduceAdd, Nat.reduceMul, Nat.reduceLT, Nat.reduceLeDiff, f113r0, f113r1, f113r2, f113r3, f113r4, f113r5, f113r6, f113r7, row_cv hrow])
    refine ⟨by omega, by omega, ?_⟩
    refine wL_cav _ _ _ _ _ _ _ rfl rfl f83cal ?_
    refine mine1_ok v by_ b _ (B0.ext e1) ?_
    intro h3 e3
    refine ⟨trivial, ?_⟩
    try simp (disch := first | exact Nat.le_of_ble_eq_true rfl | omega) only [AXR, AXB, J.dst, reduceIte, Nat.reduceEqDiff, Nat.reduceAdd, Nat.reduceMul, Nat.reduceLT, Nat.reduceLeDiff]
    rw [hcr.locked, hcr.lock]
    (try simp (disch := first | exact Nat.le_of_ble_eq_true rfl | omega) only [AXR, AXB, J.dst, reduceIte, Nat.reduceEqDiff, Nat.reduceAdd, Nat.reduceMul, Nat.reduceLT, Nat.reduceLeDiff]); rw [f113c8_eq]; (try simp (disch := first | exact Nat.le_of_ble_eq_true rfl | omega) only [AXR, AXB, J.dst, reduceIte, Nat.reduceEqDiff, Nat.reduceAdd, Nat.reduceMul, Nat.reduceLT, Nat.reduceLeDiff, f113r0, f113r1, f113r2, f113r3, f113r4, f113r5, f113r6, f113r7])
    refine ⟨fun h4 => ?_, fun h4 => ?_⟩
    · (try simp (disch := first | exact Nat.le_of_ble_eq_true rfl | omega) only [AXR, AXB, J.dst, reduceIte, Nat.reduceEqDiff, Nat.reduceAdd, Nat.reduceMul, Nat.reduceLT, Nat.reduceLeDiff]); rw [f113c9_eq]; (try simp (disch := first | exact Nat.le_of_ble_eq_true rfl | omega) only [AXR, AXB, J.dst, reduceIte, Nat.reduceEqDiff, Nat.reduceAdd, Nat.reduceMul, Nat.reduceLT, Nat.reduceLeDiff, f113r0, f113r1, f113r2, f113r3, f113r4, f113r5, f113r6, f113r7])
      refine hrt _ _ ?_
      try simp (disch := first | exact Nat.le_of_ble_eq_true rfl | omega) only [AXR, AXB, J.dst, reduceIte, Nat.reduceEqDiff, Nat.reduceAdd, Nat.reduceMul, Nat.reduceLT, Nat.reduceLeDiff]
      exact hR k ⟨fun _ => hany.1 x hx h4, fun _ => by omega⟩ _ (e1.trans e3)
    · (try simp (disch := first | exact Nat.le_of_ble_eq_true rfl | omega) only [AXR, AXB, J.dst, reduceIte, Nat.reduceEqDiff, Nat.reduceAdd, Nat.reduceMul, Nat.reduceLT, Nat.reduceLeDiff]); rw [f113c10_eq]; (try simp (disch := first | exact Nat.le_of_ble_eq_true rfl | omega) only [AXR, AXB, J.dst, reduceIte, Nat.reduceEqDiff, Nat.reduceAdd, Nat.reduceMul, Nat.reduceLT, Nat.reduceLeDiff, f113r0, f113r1, f113r2, f113r3, f113r4, f113r5, f113r6, f113r7])
      rw [i64_wrap (by omega) (by omega)]
      refine hnx (n - 1) _ _ (by omega) ⟨e1.trans e3, k + 1, by omega, rfl, ?_⟩
      intro j c' hj hc'
      rcases Nat.lt_or_ge j k with hlt | hge
      · exact hnk j c' hlt hc'
      · have : j = k := by omega
        subst this
        rw [hx] at hc'; cases hc'; exact h4
  · have hkl : k = cs.length := by have := of_decide_eq_false h2; omega
    refine hex _ _ ?_
    (try simp (disch := first | exact Nat.le_of_ble_eq_true rfl | omega) only [AXR, AXB, J.dst, reduceIte, Nat.reduceEqDiff, Nat.reduceAdd, Nat.reduceMul, Nat.reduceLT, Nat.reduceLeDiff]); rw [f113c11_eq]; (try simp (disch := first | exact Nat.le_of_ble_eq_true rfl | omega) only [AXR, AXB, J.dst, reduceIte, Nat.reduceEqDiff, Nat.reduceAdd, Nat.reduceMul, Nat.reduceLT, Nat.reduceLeDiff, f113r0, f113r1, f113r2, f113r3, f113r4, f113r5, f113r6, f113r7])
    exact hR (-1) ⟨fun h => by omega, fun h => by unfold mineL at h; rw [hany.2 hkl] at h; cases h⟩ _ e1

theorem mine_ok {B : Nat → Prop} {a : Option Addr} {c : Nat} (cs : List Cell) (by_ : Try4) (h : Heap) (S : SlC B h a cs) (hn : cs.length ≤ maxLen) {R : Value → Heap → Prop}
    (hR : ∀ h', Ext h h' → R (.bool (mineL cs by_)) h') : CallsH Try.prog 38 [.slice a cs.length c, .agg (eTry by_).toArray] h R := by
  refine f38ok (by simp) ?_
  (try simp (disch := first | exact Nat.le_of_ble_eq_true rfl | omega) only [AXR, AXB, J.dst, reduceIte, Nat.reduceEqDiff, Nat.reduceAdd, Nat.reduceMul, Nat.reduceLT, Nat.reduceLeDiff]); rw [f38c0_eq]; (try simp (disch := first | exact Nat.le_of_ble_eq_true rfl | omega) only [AXR, AXB, J.dst, reduceIte, Nat.reduceEqDiff, Nat.reduceAdd, Nat.reduceMul, Nat.reduceLT, Nat.reduceLeDiff, f38r0, f38r1])
  refine wL_boxN rfl ?_; rintro b1 h1 e1 s1 hb1 (B1 : Blk _ _ _ (eTry by_))
  (try simp (disch := first | exact Nat.le_of_ble_eq_true rfl | omega) only [AXR, AXB, J.dst, reduceIte, Nat.reduceEqDiff, Nat.reduceAdd, Nat.reduceMul, Nat.reduceLT, Nat.reduceLeDiff]); rw [f38c1_eq]; (try simp (disch := first | exact Nat.le_of_ble_eq_true rfl | omega) only [AXR, AXB, J.dst, reduceIte, Nat.reduceEqDiff, Nat.reduceAdd, Nat.reduceMul, Nat.reduceLT, Nat.reduceLeDiff, f38r0, f38r1])
  refine f82ok (by simp) ?_
  (try simp (disch := first | exact Nat.le_of_ble_eq_true rfl | omega) only [AXR, AXB, J.dst, reduceIte, Nat.reduceEqDiff, Nat.reduceAdd, Nat.reduceMul, Nat.reduceLT, Nat.reduceLeDiff]); rw [f82c0_eq]; (try simp (disch := first | exact Nat.le_of_ble_eq_true rfl | omega) only [AXR, AXB, J.dst, reduceIte, Nat.reduceEqDiff, Nat.reduceAdd, Nat.reduceMul, Nat.reduceLT, Nat.reduceLeDiff, f82r0, f82r1]); rw [f82c1_eq]; (try simp (disch := first | exact Nat.le_of_ble_eq_true rfl | omega) only [AXR, AXB, J.dst, reduceIte, Nat.reduceEqDiff, Nat.reduceAdd, Nat.reduceMul, Nat.reduceLT, Nat.reduceLeDiff, f82r0, f82r1])
  refine index_ok cs by_ b1 _ (S.ext e1) hn B1 ?_
  intro i hi h2 e2
  try simp (disch := first | exact Nat.le_of_ble_eq_true rfl | omega) only [AXR, AXB, J.dst, reduceIte, Nat.reduceEqDiff, Nat.reduceAdd, Nat.reduceMul, Nat.reduceLT, Nat.reduceLeDiff]
  have : decide (i ≥ 0) = mineL cs by_ := by
    rw [Bool.eq_iff_iff, decide_eq_true_eq]; exact hi
  rw [this]
  exact hR _ (e1.trans e2)
end Go.Proofs.Ytefghfgmkndikaa
/-
  Walks: May.
-/
namespace Go.AX
open Go
def OkC (cs : List Cell) (i : Nat) (x : Cell) : Prop :=
  (∀ y, 0 < i → cs[i - 1]? = some y → klt y.key x.key = true) ∧ (x.locked = false → x.lock = noLock) ∧ (x.locked = false → x.vers ≠ []) ∧ (x.lock.drop = true → x.lock.data = noB)
def OkV (vs : List Ver) (k : Nat) (v : Ver) : Prop := (∀ u, 0 < k → vs[k - 1]? = some u → Stamp.lt u.at_ v.at_ = true) ∧ (v.drop = true → v.data = noB)
/-- Cells that may be. -/
def MayP (cs : List Cell) : Prop := ∀ i x, cs[i]? = some x → OkC cs i x ∧ ∀ k v, x.vers[k]? = some v → OkV x.vers k v
theorem eqA_lckB (neg : Bool) (s t : Lck) : eqA neg [.i .i64, .i .i64, .i .i64, .i .i64, .i .i64, .i .i64, .i .i64, .b, .s] (.agg (eLck s).toArray) (.agg (eLck t).toArray) = some (.bool (if neg then !decide (s = t) else decide (s = t))) := by
  obtain ⟨⟨a1, a2, a3, a4⟩, b1, ⟨c1, c2⟩, d1, e1⟩ := s
  obtain ⟨⟨a1', a2', a3', a4'⟩, b1', ⟨c1', c2'⟩, d1', e1'⟩ := t
  have : (a1 == a1' && (a2 == a2' && (a3 == a3' && (a4 == a4' && (b1 == b1' && (c1 == c1' && (c2 == c2' && (d1 == d1' && e1.toList == e1'.toList)))))))) =
      decide ((⟨⟨a1, a2, a3, a4⟩, b1, ⟨c1, c2⟩, d1, e1⟩ : Lck) = ⟨⟨a1', a2', a3', a4'⟩, b1', ⟨c1', c2'⟩, d1', e1'⟩) := by
    rw [keq_iff, Bool.eq_iff_iff]; simp [and_assoc]
  simp only [eqA, eLck, eqKds, eqKd, and_self, if_true, Option.bind_some, Option.map_some, Bool.and_true, this]
theorem eqA_lck (s t : Lck) : eqA false [.i .i64, .i .i64, .i .i64, .i .i64, .i .i64, .i .i64, .i .i64, .b, .s] (.agg (eLck s).toArray) (.agg (eLck t).toArray) = some (.bool (decide (s = t))) := eqA_lckB false s t
theorem eqA_lckN (s t : Lck) : eqA true [.i .i64, .i .i64, .i .i64, .i .i64, .i .i64, .i .i64, .i .i64, .b, .s] (.agg (eLck s).toArray) (.agg (eLck t).toArray) = some (.bool (!decide (s = t))) := eqA_lckB true s t
end Go.AX
namespace Go.Proofs.Ytefghfgmkndikaa
open Go Go.AX

theorem eqA_no (l : Lck) : eqA true [.i .i64, .i .i64, .i .i64, .i .i64, .i .i64, .i .i64, .i .i64, .b, .s] (.agg #[vi l.by_.node, vi l.by_.life, vi l.by_.seq, vi l.by_.attempt, vi l.home, vi l.at_.wall, vi l.at_.tie, .bool l.drop, .string l.data])
    (.agg #[.int .i64 0, .int .i64 0, .int .i64 0, .int .i64 0, .int .i64 0, .int .i64 0, .int .i64 0, .bool false, .string ⟨#[]⟩]) = some (.bool (!decide (l = noLock))) := eqA_lckN l noLock

set_option maxHeartbeats 4000000 in
theorem may_ok {B : Nat → Prop} {a : Option Addr} {c : Nat} (cs : List Cell) (h : Heap) (S : SlC B h a cs) (hn : cs.length ≤ big) (F : ∀ c ∈ cs, c.vers.length ≤ big) {R : Value → Heap → Prop}
    (hR : ∀ b, (b = true ↔ MayP cs) → ∀ h', Ext h h' → R (.bool b) h') : CallsH Try.prog 45 [.slice a cs.length c] h R := by
  have hbig : big = 1000000 := rfl
  refine f45ok (by simp) ?_
  (try simp (disch := first | exact Nat.le_of_ble_eq_true rfl | omega) only [AXR, AXB, J.dst, reduceIte, Nat.reduceEqDiff, Nat.reduceAdd, Nat.reduceMul, Nat.reduceLT, Nat.reduceLeDiff]); rw [f45c0_eq]; (try simp (disch := first | exact Nat.le_of_ble_eq_true rfl | omega) only [AXR, AXB, J.dst, reduceIte, Nat.reduceEqDiff, Nat.reduceAdd, Nat.reduceMul, Nat.reduceLT, Nat.reduceLeDiff, f45r0, f45r1, f45r2, f45r3, f45r4, f45r5, f45r6, f45r7, f45r8, f45r9, f45r10, f45r11, f45r12, f45r13]); rw [f45c1_eq]; (try simp (disch := first | exact Nat.le_of_ble_eq_true rfl | omega) only [AXR, AXB, J.dst, reduceIte, Nat.reduceEqDiff, Nat.reduceAdd, Nat.reduceMul, Nat.reduceLT, Nat.reduceLeDiff, f45r0, f45r1, f45r2, f45r3, f45r4, f45r5, f45r6, f45r7, f45r8, f45r9, f45r10, f45r11, f45r12, f45r13])
  rw [f45c2_eq]
  refine loop_in (fun n σ h' => Ext h h' ∧ ∃ k : Nat, k + n = cs.length ∧ σ = [(0, .slice a cs.length c), (7, .slice a cs.length c), (8, vi cs.length), (9, vi k)] ∧
      ∀ i x, i < k → cs[i]? = some x → OkC cs i x ∧ ∀ k v, x.vers[k]? = some v → OkV x.vers k v)
    cs.length ⟨Ext.refl _, 0, by omega, rfl, by intros; omega⟩ ?_
  rintro n σ h' ⟨e1, k, hk, rfl, hok⟩ Q' hnx hex hrt _
  (try simp (disch := first | exact Nat.le_of_ble_eq_true rfl | omega) only [AXR, AXB, J.dst, reduceIte, Nat.reduceEqDiff, Nat.reduceAdd, Nat.reduceMul, Nat.reduceLT, Nat.reduceLeDiff]); rw [f45c3_eq]; (try simp (disch := first | exact Nat.le_of_ble_eq_true rfl | omega) only [AXR, AXB, J.dst, reduceIte, Nat.reduceEqDiff, Nat.reduceAdd, Nat.reduceMul, Nat.reduceLT, Nat.reduceLeDiff, f45r0, f45r1, f45r2, f45r3, f45r4, f45r5, f45r6, f45r7, f45r8, f45r9, f45r10, f45r11, f45r12, f45r13]); rw [f45c4_eq]; (try simp (disch := first | exact Nat.le_of_ble_eq_true rfl | omega) only [AXR, AXB, J.dst, reduceIte, Nat.reduceEqDiff, Nat.reduceAdd, Nat.reduceMul, Nat.reduceLT, Nat.reduceLeDiff, f45r0, f45r1, f45r2, f45r3, f45r4, f45r5, f45r6, f45r7, f45r8, f45r9, f45r10, f45r11, f45r12, f45r13])
  refine ⟨fun h2 => ?_, fun h2 => ?_⟩
  · have hkl : k < cs.length := by have := of_decide_eq_true h2; omega
    obtain ⟨x, hx⟩ := get_ex hkl
    obtain ⟨b, o, v, rfl, _, hrow, hcr⟩ := (S.ext e1).elem hx
    have hno : ¬ MayP cs → ∀ h8, Ext h' h8 → Q' .ret [(2, .bool false)] h8 := fun hm h8 e8 => hrt _ _ (by
      try simp (disch := first | exact Nat.le_of_ble_eq_true rfl | omega) only [AXR, AXB, J.dst, reduceIte, Nat.reduceEqDiff, Nat.reduceAdd, Nat.reduceMul, Nat.reduceLT, Nat.reduceLeDiff]
      exact hR false ⟨fun h => (by cases h), fun h => absurd h hm⟩ _ (e1.trans e8))
    rw [f45c5_eq]
    (try simp (disch := first | exact Nat.le_of_ble_eq_true rfl | omega) only [AXR, AXB, J.dst, reduceIte, Nat.reduceEqDiff, Nat.reduceAdd, Nat.reduceMul, Nat.reduceLT, Nat.reduceLeDiff]); rw [f45c6_eq]; (try simp (disch := first | exact Nat.le_of_ble_eq_true rfl | omega) only [AXR, AXB, J.dst, reduceIte, Nat.reduceEqDiff, Nat.reduceAdd, Nat.reduceMul, Nat.reduceLT, Nat.reduceLeDiff, f45r0, f45r1, f45r2, f45r3, f45r4, f45r5, f45r6, f45r7, f45r8, f45r9, f45r10, f45r11, f45r12, f45r13, row_cv hrow])
    refine ⟨by omega, by omega, ?_⟩
    refine wL_newN ?_; rintro b4 h4 e4 s4 hb4 B4
    try simp (disch := first | exact Nat.le_of_ble_eq_true rfl | omega) only [AXR, AXB, J.dst, reduceIte, Nat.reduceEqDiff, Nat.reduceAdd, Nat.reduceMul, Nat.reduceLT, Nat.reduceLeDiff]
    refine wL_stN rfl rfl rfl B4 (by decide) (eCV_one v) ?_; rintro h5 u5 (B5 : Blk _ _ _ (eCV v))
    have e5 := u5.ext e4 (by omega)
    try simp (disch := first | exact Nat.le_of_ble_eq_true rfl | omega) only [AXR, AXB, J.dst, reduceIte, Nat.reduceEqDiff, Nat.reduceAdd, Nat.reduceMul, Nat.reduceLT, Nat.reduceLeDiff]
    have hlt := B5.lt
    have fin : ∀ t : Bool, (t = false ↔ OkC cs k x) → wC Try.prog f45c8 (X.inBlock 1 (X.then (fun σ h => wC Try.prog f45c20 Q' σ h) Q'))
        [(59, .bool t), (0, .slice (some ⟨b, o, none⟩) cs.length c), (4, ptr b4 0), (7, .slice (some ⟨b, o, none⟩) cs.length c), (8, vi cs.length), (9, vi k)] h5 := by
      intro t ht
      cases t with
      | true =>
        (try simp (disch := first | exact Nat.le_of_ble_eq_true rfl | omega) only [AXR, AXB, J.dst, reduceIte, Nat.reduceEqDiff, Nat.reduceAdd, Nat.reduceMul, Nat.reduceLT, Nat.reduceLeDiff]); rw [f45c8_eq]; (try simp (disch := first | exact Nat.le_of_ble_eq_true rfl | omega) only [AXR, AXB, J.dst, reduceIte, Nat.reduceEqDiff, Nat.reduceAdd, Nat.reduceMul, Nat.reduceLT, Nat.reduceLeDiff, f45r0, f45r1, f45r2, f45r3, f45r4, f45r5, f45r6, f45r7, f45r8, f45r9, f45r10, f45r11, f45r12, f45r13]); rw [f45c9_eq]; (try simp (disch := first | exact Nat.le_of_ble_eq_true rfl | omega) only [AXR, AXB, J.dst, reduceIte, Nat.reduceEqDiff, Nat.reduceAdd, Nat.reduceMul, Nat.reduceLT, Nat.reduceLeDiff, f45r0, f45r1, f45r2, f45r3, f45r4, f45r5, f45r6, f45r7, f45r8, f45r9, f45r10, f45r11, f45r12, f45r13])
        refine hno ?_ _ e5
        intro hm
        have := ht.2 (hm k x hx).1
        cases this
      | false =>
        have hok0 := ht.1 rfl
        have hvn := hcr.vn
        (try simp (disch := first | exact Nat.le_of_ble_eq_true rfl | omega) only [AXR, AXB, J.dst, reduceIte, Nat.reduceEqDiff, Nat.reduceAdd, Nat.reduceMul, Nat.reduceLT, Nat.reduceLeDiff]); rw [f45c8_eq]; (try simp (disch := first | exact Nat.le_of_ble_eq_true rfl | omega) only [AXR, AXB, J.dst, reduceIte, Nat.reduceEqDiff, Nat.reduceAdd, Nat.reduceMul, Nat.reduceLT, Nat.reduceLeDiff, f45r0, f45r1, f45r2, f45r3, f45r4, f45r5, f45r6, f45r7, f45r8, f45r9, f45r10, f45r11, f45r12, f45r13, B5.cel, eCV, hvn]); rw [f45c10_eq]; (try simp (disch := first | exact Nat.le_of_ble_eq_true rfl | omega) only [AXR, AXB, J.dst, reduceIte, Nat.reduceEqDiff, Nat.reduceAdd, Nat.reduceMul, Nat.reduceLT, Nat.reduceLeDiff, f45r0, f45r1, f45r2, f45r3, f45r4, f45r5, f45r6, f45r7, f45r8, f45r9, f45r10, f45r11, f45r12, f45r13, B5.cel, eCV, hvn])
        rw [f45c11_eq]
        have SV := hcr.vers.ext e5
        have hvl := F x (List.mem_of_getElem? hx)
        refine loop_in1 (fun n' σ h' => Ext h5 h' ∧ ∃ i : Nat, i + n' = x.vers.length ∧ σ = [(0, .slice (some ⟨b, o, none⟩) cs.length c), (4, ptr b4 0), (7, .slice (some ⟨b, o, none⟩) cs.length c), (8, vi cs.length), (9, vi k), (61, .slice v.va x.vers.length v.vc), (62, vi x.vers.length), (63, vi i)] ∧
          ∀ j w, j < i → x.vers[j]? = some w → OkV x.vers j w) x.vers.length ⟨Ext.refl _, 0, by omega, rfl, by intros; omega⟩ ?_
        rintro n2 σ h6 ⟨e6, i, hi, rfl, hokv⟩ Q2 hnx2 hex2 hrt2 _
        (try simp (disch := first | exact Nat.le_of_ble_eq_true rfl | omega) only [AXR, AXB, J.dst, reduceIte, Nat.reduceEqDiff, Nat.reduceAdd, Nat.reduceMul, Nat.reduceLT, Nat.reduceLeDiff]); rw [f45c12_eq]; (try simp (disch := first | exact Nat.le_of_ble_eq_true rfl | omega) only [AXR, AXB, J.dst, reduceIte, Nat.reduceEqDiff, Nat.reduceAdd, Nat.reduceMul, Nat.reduceLT, Nat.reduceLeDiff, f45r0, f45r1, f45r2, f45r3, f45r4, f45r5, f45r6, f45r7, f45r8, f45r9, f45r10, f45r11, f45r12, f45r13]); rw [f45c13_eq]; (try simp (disch := first | exact Nat.le_of_ble_eq_true rfl | omega) only [AXR, AXB, J.dst, reduceIte, Nat.reduceEqDiff, Nat.reduceAdd, Nat.reduceMul, Nat.reduceLT, Nat.reduceLeDiff, f45r0, f45r1, f45r2, f45r3, f45r4, f45r5, f45r6, f45r7, f45r8, f45r9, f45r10, f45r11, f45r12, f45r13])
        refine ⟨fun h7 => ?_, fun h7 => ?_⟩
        · have hil : i < x.vers.length := by have := of_decide_eq_true h7; omega
          obtain ⟨w, hw⟩ := get_ex hil
          obtain ⟨vb, vo, hva, _, hrowv⟩ := (SV.ext e6).elem eVer_len hw
          rw [f45c14_eq]
          rw [hva] at hnx2
          (try simp (disch := first | exact Nat.le_of_ble_eq_true rfl | omega) only [AXR, AXB, J.dst, reduceIte, Nat.reduceEqDiff, Nat.reduceAdd, Nat.reduceMul, Nat.reduceLT, Nat.reduceLeDiff]); rw [f45c15_eq]; (try simp (disch := first | exact Nat.le_of_ble_eq_true rfl | omega) only [AXR, AXB, J.dst, reduceIte, Nat.reduceEqDiff, Nat.reduceAdd, Nat.reduceMul, Nat.reduceLT, Nat.reduceLeDiff, f45r0, f45r1, f45r2, f45r3, f45r4, f45r5, f45r6, f45r7, f45r8, f45r9, f45r10, f45r11, f45r12, f45r13, hva, row_ver hrowv])
          refine ⟨by omega, by omega, ?_⟩
          refine wL_newN ?_; rintro b6 h8 e8 s8 hb6 B6
          try simp (disch := first | exact Nat.le_of_ble_eq_true rfl | omega) only [AXR, AXB, J.dst, reduceIte, Nat.reduceEqDiff, Nat.reduceAdd, Nat.reduceMul, Nat.reduceLT, Nat.reduceLeDiff]
          refine wL_stN rfl rfl rfl B6 (by decide) (eVer_one w) ?_; rintro h9 u9 (B9 : Blk _ _ _ (eVer w))
          have e9 := u9.ext e8 (by omega)
          have B5' := B5.ext (e6.trans e9)
          have hl9 := B9.lt
          have hl5 := B5'.lt
          try simp (disch := first | exact Nat.le_of_ble_eq_true rfl | omega) only [AXR, AXB, J.dst, reduceIte, Nat.reduceEqDiff, Nat.reduceAdd, Nat.reduceMul, Nat.reduceLT, Nat.reduceLeDiff]
          have fin2 : ∀ (h10 : Heap) (t : Bool), Ext h9 h10 → (t = false ↔ OkV x.vers i w) → wC Try.prog f45c17 (X.inBlock 3 (X.then (fun σ h => wC Try.prog f45c19 Q2 σ h) Q2))
              [(91, .bool t), (0, .slice (some ⟨b, o, none⟩) cs.length c), (4, ptr b4 0), (7, .slice (some ⟨b, o, none⟩) cs.length c), (8, vi cs.length), (9, vi k), (61, .slice (some ⟨vb, vo, none⟩) x.vers.length v.vc), (62, vi x.vers.length), (63, vi i)] h10 := by
            intro h10 t e10 ht
            cases t with
            | true =>
              (try simp (disch := first | exact Nat.le_of_ble_eq_true rfl | omega) only [AXR, AXB, J.dst, reduceIte, Nat.reduceEqDiff, Nat.reduceAdd, Nat.reduceMul, Nat.reduceLT, Nat.reduceLeDiff]); rw [f45c17_eq]; (try simp (disch := first | exact Nat.le_of_ble_eq_true rfl | omega) only [AXR, AXB, J.dst, reduceIte, Nat.reduceEqDiff, Nat.reduceAdd, Nat.reduceMul, Nat.reduceLT, Nat.reduceLeDiff, f45r0, f45r1, f45r2, f45r3, f45r4, f45r5, f45r6, f45r7, f45r8, f45r9, f45r10, f45r11, f45r12, f45r13]); rw [f45c18_eq]; (try simp (disch := first | exact Nat.le_of_ble_eq_true rfl | omega) only [AXR, AXB, J.dst, reduceIte, Nat.reduceEqDiff, Nat.reduceAdd, Nat.reduceMul, Nat.reduceLT, Nat.reduceLeDiff, f45r0, f45r1, f45r2, f45r3, f45r4, f45r5, f45r6, f45r7, f45r8, f45r9, f45r10, f45r11, f45r12, f45r13])
              refine hrt2 _ _ ?_
              try simp (disch := first | exact Nat.le_of_ble_eq_true rfl | omega) only [AXR, AXB, J.dst, reduceIte, Nat.reduceEqDiff, Nat.reduceAdd, Nat.reduceMul, Nat.reduceLT, Nat.reduceLeDiff]
              refine hno ?_ _ (e5.trans (e6.trans (e9.trans e10)))
              intro hm
              have := ht.2 ((hm k x hx).2 i w hw)
              cases this
            | false =>
              (try simp (disch := first | exact Nat.le_of_ble_eq_true rfl | omega) only [AXR, AXB, J.dst, reduceIte, Nat.reduceEqDiff, Nat.reduceAdd, Nat.reduceMul, Nat.reduceLT, Nat.reduceLeDiff]); rw [f45c17_eq]; (try simp (disch := first | exact Nat.le_of_ble_eq_true rfl | omega) only [AXR, AXB, J.dst, reduceIte, Nat.reduceEqDiff, Nat.reduceAdd, Nat.reduceMul, Nat.reduceLT, Nat.reduceLeDiff, f45r0, f45r1, f45r2, f45r3, f45r4, f45r5, f45r6, f45r7, f45r8, f45r9, f45r10, f45r11, f45r12, f45r13]); rw [f45c19_eq]; (try simp (disch := first | exact Nat.le_of_ble_eq_true rfl | omega) only [AXR, AXB, J.dst, reduceIte, Nat.reduceEqDiff, Nat.reduceAdd, Nat.reduceMul, Nat.reduceLT, Nat.reduceLeDiff, f45r0, f45r1, f45r2, f45r3, f45r4, f45r5, f45r6, f45r7, f45r8, f45r9, f45r10, f45r11, f45r12, f45r13])
              rw [i64_wrap (by omega) (by omega)]
              refine hnx2 (n2 - 1) _ _ (by omega) ⟨e6.trans (e9.trans e10), i + 1, by omega, rfl, ?_⟩
              intro j u hj hu
              rcases Nat.lt_or_ge j i with hlt | hge
              · exact hokv j u hlt hu
              · have : j = i := by omega
                subst this
                rw [hw] at hu; cases hu
                exact ht.1 rfl
          rw [f45c16_eq]
          refine drw_lt ?_
          have hdz : ((!w.data.toList == ByteArray.toList ⟨#[]⟩)) = !decide (w.data = noB) := by rw [keq_iff]; rfl
          have seg2 : ∀ (h10 : Heap) (t : Bool), Ext h9 h10 → (t = false ↔ ∀ u, 0 < i → x.vers[i - 1]? = some u → Stamp.lt u.at_ w.at_ = true) → wL Try.prog (some ⟨(· < h9.size), h9⟩) f45r9a 0 (fun σ h => wC Try.prog f45c17 (X.inBlock 3 (X.then (fun σ h => wC Try.prog f45c19 Q2 σ h) Q2)) σ h)
              [(82, .bool t), (0, .slice (some ⟨b, o, none⟩) cs.length c), (4, ptr b4 0), (6, ptr b6 0), (7, .slice (some ⟨b, o, none⟩) cs.length c), (8, vi cs.length), (9, vi k), (61, .slice (some ⟨vb, vo, none⟩) x.vers.length v.vc), (62, vi x.vers.length), (63, vi i)] h10 := by
            intro h10 t e10 ht
            simp (config := { maxSteps := 1000000 }) (disch := first | exact Nat.le_of_ble_eq_true rfl | omega) only [AXJ, AXS, AXB, J.dst, reduceIte, Nat.reduceEqDiff, Nat.reduceAdd, Nat.reduceMul, Nat.reduceLT, Nat.reduceLeDiff, f45r9a, B9.cel, eVer, hdz]
            refine ⟨fun _ => hl9, fun _ _ => hl9, ?_⟩
            refine fin2 h10 _ e10 ?_
            unfold OkV
            rw [← ht]
            cases t <;> cases w.drop <;> simp
          rcases Nat.eq_zero_or_pos i with hz | hp
          · subst hz
            simp (config := { maxSteps := 1000000 }) (disch := first | exact Nat.le_of_ble_eq_true rfl | omega) only [AXJ, AXS, AXB, J.dst, reduceIte, Nat.reduceEqDiff, Nat.reduceAdd, Nat.reduceMul, Nat.reduceLT, Nat.reduceLeDiff, f45r9, decide_eq_false (show ¬ (((0 : Nat) : Int) > 0) by omega)]
            exact ⟨fun _ => hl5, seg2 _ false (Ext.refl _) (by simp)⟩
          · obtain ⟨u, hu⟩ := get_ex (show i - 1 < x.vers.length by omega)
            obtain ⟨vb', vo', hva', _, hrowu⟩ := (SV.ext (e6.trans e9)).elem eVer_len hu
            rw [hva] at hva'; cases hva'
            have hw1 : IntKind.i64.wrap ((i : Int) - 1) = ((i - 1 : Nat) : Int) := by rw [i64_wrap (by omega) (by omega)]; omega
            have hbl := hrowu.lt (by rw [eVer_len]; omega)
            simp (config := { maxSteps := 1000000 }) (disch := first | exact Nat.le_of_ble_eq_true rfl | omega) only [AXJ, AXS, AXB, J.dst, reduceIte, Nat.reduceEqDiff, Nat.reduceAdd, Nat.reduceMul, Nat.reduceLT, Nat.reduceLeDiff, f45r9, decide_eq_true (show ((i : Int) > 0) by omega), B5'.cel, B9.cel, B9.rd, eCV, hw1, row_ver hrowu, hva, hvn, eVer, eStamp]
            refine ⟨fun _ => hl5, fun _ => by omega, fun _ => by omega, fun _ => hbl, fun _ => hl9, ?_⟩
            refine less_ok u.at_ w.at_ _ ?_
            intro h10 e10
            refine ⟨kp_ext (Nat.le_refl _) e10, ?_⟩
            simp (config := { maxSteps := 1000000 }) (disch := first | exact Nat.le_of_ble_eq_true rfl | omega) only [AXJ, AXS, AXB, J.dst, reduceIte, Nat.reduceEqDiff, Nat.reduceAdd, Nat.reduceMul, Nat.reduceLT, Nat.reduceLeDiff]
            refine seg2 h10 _ e10 ?_
            refine ⟨fun h0 z _ hz => ?_, fun h0 => by rw [h0 u hp hu]; rfl⟩
            rw [hu] at hz; cases hz
            simpa using h0
        · have hil : i = x.vers.length := by have := of_decide_eq_false h7; omega
          refine hex2 _ _ ?_
          (try simp (disch := first | exact Nat.le_of_ble_eq_true rfl | omega) only [AXR, AXB, J.dst, reduceIte, Nat.reduceEqDiff, Nat.reduceAdd, Nat.reduceMul, Nat.reduceLT, Nat.reduceLeDiff]); rw [f45c20_eq]; (try simp (disch := first | exact Nat.le_of_ble_eq_true rfl | omega) only [AXR, AXB, J.dst, reduceIte, Nat.reduceEqDiff, Nat.reduceAdd, Nat.reduceMul, Nat.reduceLT, Nat.reduceLeDiff, f45r0, f45r1, f45r2, f45r3, f45r4, f45r5, f45r6, f45r7, f45r8, f45r9, f45r10, f45r11, f45r12, f45r13])
          rw [i64_wrap (by omega) (by omega)]
          refine hnx (n - 1) _ _ (by omega) ⟨e1.trans (e5.trans e6), k + 1, by omega, rfl, ?_⟩
          intro j y hj hy
          rcases Nat.lt_or_ge j k with hlt | hge
          · exact hok j y hlt hy
          · have : j = k := by omega
            subst this
            rw [hx] at hy; cases hy
            exact ⟨hok0, fun m u hu => hokv m u (by have := (List.getElem?_eq_some_iff.1 hu).1; omega) hu⟩
    rw [f45c7_eq]
    refine drw_lt ?_
    have hoc : OkC cs k x ↔ ((∀ y, 0 < k → cs[k - 1]? = some y → klt y.key x.key = true) ∧ (x.locked = false → x.lock = noLock) ∧ (x.locked = false → x.vers ≠ []) ∧ (x.lock.drop = true → x.lock.data = noB)) := Iff.rfl
    have hvz : (((x.vers.length : Nat) : Int) == 0) = decide (x.vers = []) := by
      cases x.vers with
      | nil => rfl
      | cons a l => rw [decide_eq_false (by simp)]; simp; omega
    have hdz : ((!x.lock.data.toList == ByteArray.toList ⟨#[]⟩)) = !decide (x.lock.data = noB) := by rw [keq_iff]; rfl
    have hlk := hcr.locked
    have hlc := hcr.lock
    have hvn := hcr.vn
    have seg1 : ∀ t : Bool, (t = false ↔ ∀ y, 0 < k → cs[k - 1]? = some y → klt y.key x.key = true) → wL Try.prog (some ⟨(· < h5.size), h5⟩) f45r4a 0 (fun σ h => wC Try.prog f45c8 (X.inBlock 1 (X.then (fun σ h => wC Try.prog f45c20 Q' σ h) Q')) σ h)
        [(26, .bool t), (0, .slice (some ⟨b, o, none⟩) cs.length c), (4, ptr b4 0), (7, .slice (some ⟨b, o, none⟩) cs.length c), (8, vi cs.length), (9, vi k)] h5 := by
      intro t ht
      simp (config := { maxSteps := 1000000 }) (disch := first | exact Nat.le_of_ble_eq_true rfl | omega) only [AXJ, AXS, AXB, J.dst, reduceIte, Nat.reduceEqDiff, Nat.reduceAdd, Nat.reduceMul, Nat.reduceLT, Nat.reduceLeDiff, f45r4a, B5.cel, B5.rd, eCV, hlk, hlc, hvn, eqA_no]
      refine ⟨fun _ => hlt, fun _ _ => hlt, ?_⟩
      simp (config := { maxSteps := 1000000 }) (disch := first | exact Nat.le_of_ble_eq_true rfl | omega) only [AXJ, AXS, AXB, J.dst, reduceIte, Nat.reduceEqDiff, Nat.reduceAdd, Nat.reduceMul, Nat.reduceLT, Nat.reduceLeDiff, f45r4b, B5.cel, B5.rd, eCV, hlk, hlc, hvn, hvz]
      refine ⟨fun _ => hlt, fun _ _ => hlt, ?_⟩
      simp (config := { maxSteps := 1000000 }) (disch := first | exact Nat.le_of_ble_eq_true rfl | omega) only [AXJ, AXS, AXB, J.dst, reduceIte, Nat.reduceEqDiff, Nat.reduceAdd, Nat.reduceMul, Nat.reduceLT, Nat.reduceLeDiff, f45r4c, B5.cel, B5.rd, eCV, hlk, hlc, hvn, hdz]
      refine ⟨fun _ => hlt, fun _ _ => hlt, ?_⟩
      refine fin _ ?_
      rw [hoc, ← ht]
      cases t <;> cases x.locked <;> cases x.lock.drop <;> simp [and_assoc]
    rcases Nat.eq_zero_or_pos k with hz | hp
    · subst hz
      simp (config := { maxSteps := 1000000 }) (disch := first | exact Nat.le_of_ble_eq_true rfl | omega) only [AXJ, AXS, AXB, J.dst, reduceIte, Nat.reduceEqDiff, Nat.reduceAdd, Nat.reduceMul, Nat.reduceLT, Nat.reduceLeDiff, f45r4, decide_eq_false (show ¬ (((0 : Nat) : Int) > 0) by omega)]
      exact ⟨fun _ => hlt, seg1 false (by simp)⟩
    · obtain ⟨y, hy⟩ := get_ex (show k - 1 < cs.length by omega)
      obtain ⟨b', o', yv, hb', _, hrowy, hcy⟩ := (S.ext (e1.trans e5)).elem hy
      cases hb'
      have hw1 : IntKind.i64.wrap ((k : Int) - 1) = ((k - 1 : Nat) : Int) := by rw [i64_wrap (by omega) (by omega)]; omega
      have hbl := hrowy.lt (by rw [eCV_len]; omega)
      simp (config := { maxSteps := 1000000 }) (disch := first | exact Nat.le_of_ble_eq_true rfl | omega) only [AXJ, AXS, AXB, J.dst, reduceIte, Nat.reduceEqDiff, Nat.reduceAdd, Nat.reduceMul, Nat.reduceLT, Nat.reduceLeDiff, f45r4, decide_eq_true (show ((k : Int) > 0) by omega), B5.cel, eCV, hw1, row_cv hrowy]
      refine ⟨fun _ => hlt, fun _ => by omega, fun _ => by omega, fun _ => hbl, ?_⟩
      refine seg1 _ ?_
      rw [hcr.key, hcy.key, keq_iff]
      show ((klt x.key y.key || decide (x.key = y.key)) = false) ↔ _
      rw [kle_iff]
      refine ⟨fun h0 z _ hz => ?_, fun h0 => by rw [h0 y hp hy]; rfl⟩
      rw [hy] at hz; cases hz
      simpa using h0
  · have hkl : k = cs.length := by have := of_decide_eq_false h2; omega
    refine hex _ _ ?_
    (try simp (disch := first | exact Nat.le_of_ble_eq_true rfl | omega) only [AXR, AXB, J.dst, reduceIte, Nat.reduceEqDiff, Nat.reduceAdd, Nat.reduceMul, Nat.reduceLT, Nat.reduceLeDiff]); rw [f45c21_eq]; (try simp (disch := first | exact Nat.le_of_ble_eq_true rfl | omega) only [AXR, AXB, J.dst, reduceIte, Nat.reduceEqDiff, Nat.reduceAdd, Nat.reduceMul, Nat.reduceLT, Nat.reduceLeDiff, f45r0, f45r1, f45r2, f45r3, f45r4, f45r5, f45r6, f45r7, f45r8, f45r9, f45r10, f45r11, f45r12, f45r13])
    refine hR true ⟨fun _ i x hx => hok i x (by have := (List.getElem?_eq_some_iff.1 hx).1; omega) hx, fun _ => rfl⟩ _ e1
end Go.Proofs.Ytefghfgmkndikaa
