/-
  The walks and plain laws under the laws of one package: texts of mine put together, what they do not use left out (wip/tools/prune.py).
-/
import Derived.Test.YtefghfgmkndikaaD4
set_option linter.unusedSimpArgs false
set_option linter.unusedVariables false
namespace Go.AX
open Go
/-- Parts in a row of the call's own, their lists apart from it. -/
def OwnP (lo : Nat) (h : Heap) (a : Option Addr) (n c : Nat) (ps : List Prt) : Prop :=
  ∃ vs, Own lo h 116 9 a n c (vs.flatMap ePr) ∧ n = ps.length ∧ All2 (PrR (fun b => lo ≤ b ∧ b < h.size ∧ some b ≠ ob a) h) vs ps
theorem PrR.to {B B' : Nat → Prop} {h h' : Heap} {v : PrV} {p : Prt} (r : PrR B h v p) (H : ∀ b, B b → B' b ∧ h'[b]? = h[b]?) : PrR B' h' v p :=
  ⟨r.s, r.cn, r.cc, r.rn, r.dn, (let ⟨vs, h1, h2⟩ := r.cells; ⟨vs, h1.imp fun _ _ r => r.to H, h2.to H⟩), r.records.to H, r.done.to H⟩
theorem OwnP.ext {lo : Nat} {h h' : Heap} {a : Option Addr} {n c : Nat} {ps : List Prt} (O : OwnP lo h a n c ps) (x : Ext h h') : OwnP lo h' a n c ps := by
  obtain ⟨vs, h1, h2, h3⟩ := O
  exact ⟨vs, h1.ext x, h2, h3.imp fun _ _ r => r.to fun b hb => ⟨⟨hb.1, Nat.lt_of_lt_of_le hb.2.1 x.size, hb.2.2⟩, x.at_ b hb.2.1⟩⟩
theorem OwnP.ob {lo : Nat} {h : Heap} {a : Option Addr} {n c : Nat} {ps : List Prt} (O : OwnP lo h a n c ps) : ∀ k, ob a = some k → lo ≤ k ∧ k < h.size := by
  obtain ⟨vs, h1, _⟩ := O
  exact h1.ob
theorem OwnP.elem {lo : Nat} {h : Heap} {a : Option Addr} {n c : Nat} {ps : List Prt} (O : OwnP lo h a n c ps) {i : Nat} {p : Prt} (hi : ps[i]? = some p) : ∃ b o v, a = some ⟨b, o, none⟩ ∧ Row h b (o + i * 9) (ePr v) ∧ PrR (fun b => lo ≤ b ∧ b < h.size) h v p := by
  obtain ⟨vs, h1, h2, h3⟩ := O
  obtain ⟨v, hv, hr⟩ := h3.get hi
  obtain ⟨b, o, e1, e2, e3⟩ := (SlF.of_own h1 (by rw [h2, h3.length])).elem ePr_len hv
  exact ⟨b, o, v, e1, e3, hr.imp fun b hb => ⟨hb.1, hb.2.1⟩⟩
theorem row_pr {h : Heap} {b o : Nat} {v : PrV} (r : Row h b o (ePr v)) : rd h b o 9 = some (ePr v) := r.rd0 9 (Nat.le_refl _)
theorem OwnP.push {lo : Nat} {h h' : Heap} {a a' : Option Addr} {n c' : Nat} {ps : List Prt} {v : PrV} {x : Prt} {vs : List PrV} (h2 : n = ps.length) (h3 : All2 (PrR (fun b => lo ≤ b ∧ b < h.size ∧ some b ≠ AX.ob a) h) vs ps)
    (r : PrR (fun b => lo ≤ b ∧ b < h.size ∧ some b ≠ AX.ob a) h v x) (O : Own lo h' 116 9 a' (n + 1) c' (vs.flatMap ePr ++ ePr v)) (G : Gr (AX.ob a) h h') (A : AX.ob a' = AX.ob a ∨ ∃ k, AX.ob a' = some k ∧ h.size ≤ k) : OwnP lo h' a' (n + 1) c' (ps ++ [x]) := by
  have hto : ∀ b, (lo ≤ b ∧ b < h.size ∧ some b ≠ AX.ob a) → (lo ≤ b ∧ b < h'.size ∧ some b ≠ AX.ob a') ∧ h'[b]? = h[b]? := by
    rintro b ⟨b1, b2, b3⟩
    refine ⟨⟨b1, Nat.lt_of_lt_of_le b2 G.size, ?_⟩, G.at_ b b2 b3⟩
    rcases A with e | ⟨k, e, hk⟩
    · rw [e]; exact b3
    · rw [e]; intro e'; cases e'; omega
  refine ⟨vs ++ [v], ?_, by simp [h2], (h3.imp fun _ _ r => r.to hto).append (.cons (r.to hto) .nil)⟩
  rw [List.flatMap_append]
  simpa using O
end Go.AX
namespace Go.Proofs.Ytefghfgmkndikaa
open Go Go.AX
theorem slT130 : slT Try.prog 130 116 9 120 = true := by kernel_rfl
/-- The states of a run. -/
def allP (l : List Cmd) (k : Nat) : List Prt := (List.range (k + 1)).map fun i => runP (l.take i)
theorem allP_at {l : List Cmd} {k i : Nat} (h : i ≤ k) : (allP l k)[i]? = some (runP (l.take i)) := by simp [allP, List.getElem?_map, List.getElem?_range (show i < k + 1 by omega)]
theorem allP_len (l : List Cmd) (k : Nat) : (allP l k).length = k + 1 := by simp [allP]
theorem allP_succ (l : List Cmd) (k : Nat) : allP l (k + 1) = allP l k ++ [runP (l.take (k + 1))] := by unfold allP; rw [List.range_succ, List.map_append]; rfl
theorem run_succ {l : List Cmd} {k : Nat} {c : Cmd} (h : l[k]? = some c) : runP (l.take (k + 1)) = stepP (runP (l.take k)) c := by
  unfold runP; rw [List.take_add_one, h]; simp [List.foldl_append]
theorem take_lt {l : List Cmd} (h : ∀ c ∈ l, Lt100 c) (k : Nat) : ∀ c ∈ l.take k, Lt100 c := fun c hc => h c (List.mem_of_mem_take hc)
theorem runs_good {l : List Cmd} (h : ∀ c ∈ l, Lt100 c) (k : Nat) (hk : k ≤ l.length) : GdP (100 * k) (runP (l.take k)) := by
  have := runG (l.take k) emptyG (take_lt h k)
  rw [List.length_take, Nat.min_eq_left hk, Nat.zero_add] at this
  exact this
set_option maxHeartbeats 1000000 in
theorem run_ok (l : List Cmd) (h : Heap) {B : Nat → Prop} {a : Option Addr} {n : Nat} (S : SlM B h a l) (F : ∀ c ∈ l, Lt100 c) (hl : l.length ≤ 1000) {R : Value → Heap → Prop}
    (hR : ∀ a' c' h', OwnP h.size h' a' (l.length + 1) c' (allP l l.length) → Ext h h' → R (.slice a' (l.length + 1) c') h') : CallsH Try.prog 65 [.slice a l.length n] h R := by
  have hbig : big = 1000000 := rfl
  refine f65ok (by simp) ?_
  (try simp (config := { maxSteps := 1000000 }) (disch := first | exact Nat.le_of_ble_eq_true rfl | omega) only [AXS, AXB, J.dst, reduceIte, Nat.reduceEqDiff, Nat.reduceAdd, Nat.reduceMul, Nat.reduceLT, Nat.reduceLeDiff]); rw [f65c0_eq]; (try simp (config := { maxSteps := 1000000 }) (disch := first | exact Nat.le_of_ble_eq_true rfl | omega) only [AXS, AXB, J.dst, reduceIte, Nat.reduceEqDiff, Nat.reduceAdd, Nat.reduceMul, Nat.reduceLT, Nat.reduceLeDiff, f65r0]); rw [f65c1_eq]; (try simp (config := { maxSteps := 1000000 }) (disch := first | exact Nat.le_of_ble_eq_true rfl | omega) only [AXS, AXB, J.dst, reduceIte, Nat.reduceEqDiff, Nat.reduceAdd, Nat.reduceMul, Nat.reduceLT, Nat.reduceLeDiff, f65r1])
  refine wL_bslN rfl ?_; rintro b1 h1 x1 s1 hb1 (B1 : Blk _ _ _ (ePr ⟨⟨0, 0, ⟨0, 0⟩, 0, 0⟩, none, 0, 0, none, 0, 0, none, 0, 0⟩))
  (try simp (config := { maxSteps := 1000000 }) (disch := first | exact Nat.le_of_ble_eq_true rfl | omega) only [AXS, AXB, J.dst, reduceIte, Nat.reduceEqDiff, Nat.reduceAdd, Nat.reduceMul, Nat.reduceLT, Nat.reduceLeDiff]); rw [f65c2_eq]; (try simp (config := { maxSteps := 1000000 }) (disch := first | exact Nat.le_of_ble_eq_true rfl | omega) only [AXS, AXB, J.dst, reduceIte, Nat.reduceEqDiff, Nat.reduceAdd, Nat.reduceMul, Nat.reduceLT, Nat.reduceLeDiff, f65r2])
  have O1 : OwnP h.size h1 (some ⟨b1, 0, none⟩) 1 1 (allP l 0) := by
    refine ⟨[⟨⟨0, 0, ⟨0, 0⟩, 0, 0⟩, none, 0, 0, none, 0, 0, none, 0, 0⟩], Own.of_blk (by omega) B1 (by simp [ePr_len]) (Nat.le_refl _) (by decide) (by simp [ePr]), rfl, .cons ⟨rfl, rfl, Nat.le_refl _, rfl, rfl, ⟨[], .nil, .nil⟩, .nil, .nil⟩ .nil⟩
  rw [f65c3_eq]
  refine loop_in (fun m σ h' => Ext h h' ∧ ∃ (k c' : Nat) (a' : Option Addr), k + m = l.length ∧ OwnP h.size h' a' (k + 1) c' (allP l k) ∧ σ = [(0, .slice a l.length n), (3, .slice a' (k + 1 : Nat) c'), (4, vi k)]) l.length
    ⟨x1, 0, 1, _, by omega, O1, rfl⟩ ?_
  rintro m σ h2 ⟨x2, k, c', a', hk, O, rfl⟩ Q' hnx hex hrt _
  (try simp (config := { maxSteps := 1000000 }) (disch := first | exact Nat.le_of_ble_eq_true rfl | omega) only [AXS, AXB, J.dst, reduceIte, Nat.reduceEqDiff, Nat.reduceAdd, Nat.reduceMul, Nat.reduceLT, Nat.reduceLeDiff]); rw [f65c4_eq]; (try simp (config := { maxSteps := 1000000 }) (disch := first | exact Nat.le_of_ble_eq_true rfl | omega) only [AXS, AXB, J.dst, reduceIte, Nat.reduceEqDiff, Nat.reduceAdd, Nat.reduceMul, Nat.reduceLT, Nat.reduceLeDiff, f65r3]); rw [f65c5_eq]; (try simp (config := { maxSteps := 1000000 }) (disch := first | exact Nat.le_of_ble_eq_true rfl | omega) only [AXS, AXB, J.dst, reduceIte, Nat.reduceEqDiff, Nat.reduceAdd, Nat.reduceMul, Nat.reduceLT, Nat.reduceLeDiff])
  refine ⟨fun hh => ?_, fun hh => ?_⟩
  · have hkl : k < l.length := by have := of_decide_eq_true hh; omega
    obtain ⟨c, hx⟩ := get_ex hkl
    obtain ⟨b', o, cv, rfl, _, hrow, hcr⟩ := (S.ext x2).elem hx
    obtain ⟨b3, o3, pv, rfl, hrow3, hpr⟩ := O.elem (allP_at (Nat.le_refl k))
    try simp (config := { maxSteps := 1000000 }) (disch := first | exact Nat.le_of_ble_eq_true rfl | omega) only [AXS, AXB, J.dst, reduceIte, Nat.reduceEqDiff, Nat.reduceAdd, Nat.reduceMul, Nat.reduceLT, Nat.reduceLeDiff]
    rw [f65c6_eq]
    have hw : IntKind.i64.wrap (((k + 1 : Nat) : Int) - 1) = (k : Int) := by rw [i64_wrap (by omega) (by omega)]; omega
    (try simp (config := { maxSteps := 1000000 }) (disch := first | exact Nat.le_of_ble_eq_true rfl | omega) only [AXS, AXB, J.dst, reduceIte, Nat.reduceEqDiff, Nat.reduceAdd, Nat.reduceMul, Nat.reduceLT, Nat.reduceLeDiff]); rw [f65c7_eq]; (try simp (config := { maxSteps := 1000000 }) (disch := first | exact Nat.le_of_ble_eq_true rfl | omega) only [AXS, AXB, J.dst, reduceIte, Nat.reduceEqDiff, Nat.reduceAdd, Nat.reduceMul, Nat.reduceLT, Nat.reduceLeDiff, f65r4, hw, row_pr hrow3])
    refine ⟨by omega, by omega, ?_⟩
    refine wL_newN ?_; rintro b5 h3 x3 s3 hb5 B5
    try simp (config := { maxSteps := 1000000 }) (disch := first | exact Nat.le_of_ble_eq_true rfl | omega) only [AXS, AXB, J.dst, reduceIte, Nat.reduceEqDiff, Nat.reduceAdd, Nat.reduceMul, Nat.reduceLT, Nat.reduceLeDiff]
    refine wL_stN rfl rfl rfl B5 (by decide) (ePr_one pv) ?_
    rintro h4 u4 (B4 : Blk _ _ _ (ePr pv))
    have x24 := u4.ext x3 (by omega)
    have x4 := x2.trans x24
    have y4 := x24.size
    have hpr4 := hpr.ext x24
    have hcr4 := hcr.ext x24
    have hrow4 := hrow.ext x24
    have hg := runs_good F k (by omega)
    have app : ∀ hz b6 pv', Ext h4 hz → Blk hz b6 116 (ePr pv') → PrR (fun b => h4.size ≤ b ∧ b < hz.size) hz pv' (stepP (runP (l.take k)) c) →
        wC Try.prog f65c9 (X.inBlock 1 (X.then (fun σ h => wC Try.prog f65c10 Q' σ h) Q')) [(0, .slice (some ⟨b', o, none⟩) l.length n), (3, .slice (some ⟨b3, o3, none⟩) (k + 1 : Nat) c'), (4, vi k), (6, ptr b6 0)] hz := by
      intro hz b6 pv' xz B6 P6
      have xa := x4.trans xz
      have ya := xa.size
      have yz := xz.size
      have hO := O.ob
      obtain ⟨vs, h1', h2', h3'⟩ := O.ext (x24.trans xz)
      (try simp (config := { maxSteps := 1000000 }) (disch := first | exact Nat.le_of_ble_eq_true rfl | omega) only [AXS, AXB, J.dst, reduceIte, Nat.reduceEqDiff, Nat.reduceAdd, Nat.reduceMul, Nat.reduceLT, Nat.reduceLeDiff]); rw [f65c9_eq]; (try simp (config := { maxSteps := 1000000 }) (disch := first | exact Nat.le_of_ble_eq_true rfl | omega) only [AXS, AXB, J.dst, reduceIte, Nat.reduceEqDiff, Nat.reduceAdd, Nat.reduceMul, Nat.reduceLT, Nat.reduceLeDiff, f65r6, B6.rd, ePr])
      refine wL_bslN rfl ?_; rintro b7 h7 x7 s7 hb7 (B7 : Blk _ _ _ (ePr pv'))
      try simp (config := { maxSteps := 1000000 }) (disch := first | exact Nat.le_of_ble_eq_true rfl | omega) only [AXS, AXB, J.dst, reduceIte, Nat.reduceEqDiff, Nat.reduceAdd, Nat.reduceMul, Nat.reduceLT, Nat.reduceLeDiff]
      rw [wL_raw]
      refine raw_append slT130 rfl rfl rfl (h1'.ext x7) (news := ePr pv') (by rw [ePr_len]) (.inr ⟨b7, 0, rfl, B7.row⟩) (ePr_one _) (by unfold maxLen; omega) (by omega) (by have := x7.size; omega) ?_
      intro a8 c8 h8 O8 G8 A8
      refine ⟨trivial, ?_⟩
      have hb3 := hO b3 rfl
      have OP := OwnP.push (by rw [allP_len]) (h3'.imp fun _ _ r => r.to (B' := fun b => h.size ≤ b ∧ b < h7.size ∧ some b ≠ ob (some ⟨b3, o3, none⟩)) fun b hb => ⟨⟨hb.1, Nat.lt_of_lt_of_le hb.2.1 x7.size, hb.2.2⟩, x7.at_ b hb.2.1⟩)
        (P6.to (B' := fun b => h.size ≤ b ∧ b < h7.size ∧ some b ≠ ob (some ⟨b3, o3, none⟩)) fun b hb => ⟨⟨by omega, by omega, fun e => absurd (show b = b3 by simpa [AX.ob] using e) (by omega)⟩, x7.at_ b hb.2⟩) O8 G8 A8
      rw [← run_succ hx, ← allP_succ] at OP
      (try simp (config := { maxSteps := 1000000 }) (disch := first | exact Nat.le_of_ble_eq_true rfl | omega) only [AXS, AXB, J.dst, reduceIte, Nat.reduceEqDiff, Nat.reduceAdd, Nat.reduceMul, Nat.reduceLT, Nat.reduceLeDiff]); rw [f65c10_eq]; (try simp (config := { maxSteps := 1000000 }) (disch := first | exact Nat.le_of_ble_eq_true rfl | omega) only [AXS, AXB, J.dst, reduceIte, Nat.reduceEqDiff, Nat.reduceAdd, Nat.reduceMul, Nat.reduceLT, Nat.reduceLeDiff, f65r7])
      rw [i64_wrap (by omega) (by omega)]
      exact hnx (m - 1) _ _ (by omega) ⟨G8.ext (xa.trans x7) (fun j hj => by cases hj; exact hb3.1), k + 1, c8, a8, by omega, OP, rfl⟩
    have X := Ext.refl h4
    have hb5 := B4.lt
    have hb'l := hrow4.lt (by rw [eCm_len]; omega)
    have hL := F c (List.mem_of_getElem? hx)
    have hnw : 100 * k + (ownM (runP (l.take k)) c).writes.length ≤ 900000 := by have := hL.2; show 100 * k + c.writes.length ≤ _; omega
    have hsp : (ownM (runP (l.take k)) c).spans.length ≤ big := by have := hL.1; show c.spans.length ≤ _; omega
    try simp (config := { maxSteps := 1000000 }) (disch := first | exact Nat.le_of_ble_eq_true rfl | omega) only [AXS, AXB, J.dst, reduceIte, Nat.reduceEqDiff, Nat.reduceAdd, Nat.reduceMul, Nat.reduceLT, Nat.reduceLeDiff]
    rw [f65c8_eq]
    refine drt_lt ?_
    simp only [f65r5, wT_one, wT_alt, wT_nil]
    simp (config := { maxSteps := 1000000 }) (disch := first | exact Nat.le_of_ble_eq_true rfl | omega) only [AXS, AXB, J.dst, reduceIte, Nat.reduceEqDiff, Nat.reduceAdd, Nat.reduceMul, Nat.reduceLT, Nat.reduceLeDiff, B4.rd, ePr, row_cm hrow4]
    refine ⟨hb5, hb5, by omega, by omega, hb'l, ?_⟩
    all_goals try (with_reducible refine And.intro ?_ ?_)
    all_goals try (with_reducible refine And.intro ?_ ?_)
    all_goals try (with_reducible refine And.intro ?_ ?_)
    all_goals first
      | (refine own_okP pv _ cv c false _ hpr.s (hcr4.ext X) hg.e0 hg.e1 ?_; intro cv' hy C' ey; refine ⟨kp_ext X.size ey, ?_⟩; have zy := ey.size; (try replace B6 := B6.ext ey); (try replace B7 := B7.ext ey); replace X := X.trans ey; (try simp (config := { maxSteps := 1000000 }) (disch := first | exact Nat.le_of_ble_eq_true rfl | omega) only [AXS, AXB, J.dst, reduceIte, Nat.reduceEqDiff, Nat.reduceAdd, Nat.reduceMul, Nat.reduceLT, Nat.reduceLeDiff]))
      | (refine apply_ok (n := 100 * k) pv _ cv' (ownM (runP (l.take k)) c) _ (hpr4.ext X) C' hg.sz hnw hsp hg.e0 ?_; intro pv' rv hy O' K' ey; refine ⟨kp_ext X.size ey, ?_⟩; have zy := ey.size; have P' := O'.prr; (try replace B6 := B6.ext ey); (try replace B7 := B7.ext ey); replace X := X.trans ey; (try simp (config := { maxSteps := 1000000 }) (disch := first | exact Nat.le_of_ble_eq_true rfl | omega) only [AXS, AXB, J.dst, reduceIte, Nat.reduceEqDiff, Nat.reduceAdd, Nat.reduceMul, Nat.reduceLT, Nat.reduceLeDiff]))
      | (refine wL_newD (t := 116) X.size ?_; rintro b6 hy ey sy hb6 B6; have zy := ey.size; (try replace B7 := B7.ext ey); (try replace C' := C'.ext ey); (try replace P' := P'.ext ey); replace X := X.trans ey; (try simp (config := { maxSteps := 1000000 }) (disch := first | exact Nat.le_of_ble_eq_true rfl | omega) only [AXS, AXB, J.dst, reduceIte, Nat.reduceEqDiff, Nat.reduceAdd, Nat.reduceMul, Nat.reduceLT, Nat.reduceLeDiff]))
      | (refine wL_newD (t := 47) X.size ?_; rintro b7 hy ey sy hb7 B7; have zy := ey.size; (try replace B6 := B6.ext ey); (try replace C' := C'.ext ey); (try replace P' := P'.ext ey); replace X := X.trans ey; (try simp (config := { maxSteps := 1000000 }) (disch := first | exact Nat.le_of_ble_eq_true rfl | omega) only [AXS, AXB, J.dst, reduceIte, Nat.reduceEqDiff, Nat.reduceAdd, Nat.reduceMul, Nat.reduceLT, Nat.reduceLeDiff]))
    all_goals try (with_reducible refine And.intro ?_ ?_)
    all_goals try (with_reducible refine And.intro ?_ ?_)
    all_goals try (with_reducible refine And.intro ?_ ?_)
    all_goals first
      | (refine own_okP pv _ cv c false _ hpr.s (hcr4.ext X) hg.e0 hg.e1 ?_; intro cv' hy C' ey; refine ⟨kp_ext X.size ey, ?_⟩; have zy := ey.size; (try replace B6 := B6.ext ey); (try replace B7 := B7.ext ey); replace X := X.trans ey; (try simp (config := { maxSteps := 1000000 }) (disch := first | exact Nat.le_of_ble_eq_true rfl | omega) only [AXS, AXB, J.dst, reduceIte, Nat.reduceEqDiff, Nat.reduceAdd, Nat.reduceMul, Nat.reduceLT, Nat.reduceLeDiff]))
      | (refine apply_ok (n := 100 * k) pv _ cv' (ownM (runP (l.take k)) c) _ (hpr4.ext X) C' hg.sz hnw hsp hg.e0 ?_; intro pv' rv hy O' K' ey; refine ⟨kp_ext X.size ey, ?_⟩; have zy := ey.size; have P' := O'.prr; (try replace B6 := B6.ext ey); (try replace B7 := B7.ext ey); replace X := X.trans ey; (try simp (config := { maxSteps := 1000000 }) (disch := first | exact Nat.le_of_ble_eq_true rfl | omega) only [AXS, AXB, J.dst, reduceIte, Nat.reduceEqDiff, Nat.reduceAdd, Nat.reduceMul, Nat.reduceLT, Nat.reduceLeDiff]))
      | (refine wL_newD (t := 116) X.size ?_; rintro b6 hy ey sy hb6 B6; have zy := ey.size; (try replace B7 := B7.ext ey); (try replace C' := C'.ext ey); (try replace P' := P'.ext ey); replace X := X.trans ey; (try simp (config := { maxSteps := 1000000 }) (disch := first | exact Nat.le_of_ble_eq_true rfl | omega) only [AXS, AXB, J.dst, reduceIte, Nat.reduceEqDiff, Nat.reduceAdd, Nat.reduceMul, Nat.reduceLT, Nat.reduceLeDiff]))
      | (refine wL_newD (t := 47) X.size ?_; rintro b7 hy ey sy hb7 B7; have zy := ey.size; (try replace B6 := B6.ext ey); (try replace C' := C'.ext ey); (try replace P' := P'.ext ey); replace X := X.trans ey; (try simp (config := { maxSteps := 1000000 }) (disch := first | exact Nat.le_of_ble_eq_true rfl | omega) only [AXS, AXB, J.dst, reduceIte, Nat.reduceEqDiff, Nat.reduceAdd, Nat.reduceMul, Nat.reduceLT, Nat.reduceLeDiff]))
    all_goals try (with_reducible refine And.intro ?_ ?_)
    all_goals try (with_reducible refine And.intro ?_ ?_)
    all_goals try (with_reducible refine And.intro ?_ ?_)
    all_goals first
      | (refine own_okP pv _ cv c false _ hpr.s (hcr4.ext X) hg.e0 hg.e1 ?_; intro cv' hy C' ey; refine ⟨kp_ext X.size ey, ?_⟩; have zy := ey.size; (try replace B6 := B6.ext ey); (try replace B7 := B7.ext ey); replace X := X.trans ey; (try simp (config := { maxSteps := 1000000 }) (disch := first | exact Nat.le_of_ble_eq_true rfl | omega) only [AXS, AXB, J.dst, reduceIte, Nat.reduceEqDiff, Nat.reduceAdd, Nat.reduceMul, Nat.reduceLT, Nat.reduceLeDiff]))
      | (refine apply_ok (n := 100 * k) pv _ cv' (ownM (runP (l.take k)) c) _ (hpr4.ext X) C' hg.sz hnw hsp hg.e0 ?_; intro pv' rv hy O' K' ey; refine ⟨kp_ext X.size ey, ?_⟩; have zy := ey.size; have P' := O'.prr; (try replace B6 := B6.ext ey); (try replace B7 := B7.ext ey); replace X := X.trans ey; (try simp (config := { maxSteps := 1000000 }) (disch := first | exact Nat.le_of_ble_eq_true rfl | omega) only [AXS, AXB, J.dst, reduceIte, Nat.reduceEqDiff, Nat.reduceAdd, Nat.reduceMul, Nat.reduceLT, Nat.reduceLeDiff]))
      | (refine wL_newD (t := 116) X.size ?_; rintro b6 hy ey sy hb6 B6; have zy := ey.size; (try replace B7 := B7.ext ey); (try replace C' := C'.ext ey); (try replace P' := P'.ext ey); replace X := X.trans ey; (try simp (config := { maxSteps := 1000000 }) (disch := first | exact Nat.le_of_ble_eq_true rfl | omega) only [AXS, AXB, J.dst, reduceIte, Nat.reduceEqDiff, Nat.reduceAdd, Nat.reduceMul, Nat.reduceLT, Nat.reduceLeDiff]))
      | (refine wL_newD (t := 47) X.size ?_; rintro b7 hy ey sy hb7 B7; have zy := ey.size; (try replace B6 := B6.ext ey); (try replace C' := C'.ext ey); (try replace P' := P'.ext ey); replace X := X.trans ey; (try simp (config := { maxSteps := 1000000 }) (disch := first | exact Nat.le_of_ble_eq_true rfl | omega) only [AXS, AXB, J.dst, reduceIte, Nat.reduceEqDiff, Nat.reduceAdd, Nat.reduceMul, Nat.reduceLT, Nat.reduceLeDiff]))
    all_goals try (with_reducible refine And.intro ?_ ?_)
    all_goals try (with_reducible refine And.intro ?_ ?_)
    all_goals try (with_reducible refine And.intro ?_ ?_)
    all_goals first
      | (refine own_okP pv _ cv c false _ hpr.s (hcr4.ext X) hg.e0 hg.e1 ?_; intro cv' hy C' ey; refine ⟨kp_ext X.size ey, ?_⟩; have zy := ey.size; (try replace B6 := B6.ext ey); (try replace B7 := B7.ext ey); replace X := X.trans ey; (try simp (config := { maxSteps := 1000000 }) (disch := first | exact Nat.le_of_ble_eq_true rfl | omega) only [AXS, AXB, J.dst, reduceIte, Nat.reduceEqDiff, Nat.reduceAdd, Nat.reduceMul, Nat.reduceLT, Nat.reduceLeDiff]))
      | (refine apply_ok (n := 100 * k) pv _ cv' (ownM (runP (l.take k)) c) _ (hpr4.ext X) C' hg.sz hnw hsp hg.e0 ?_; intro pv' rv hy O' K' ey; refine ⟨kp_ext X.size ey, ?_⟩; have zy := ey.size; have P' := O'.prr; (try replace B6 := B6.ext ey); (try replace B7 := B7.ext ey); replace X := X.trans ey; (try simp (config := { maxSteps := 1000000 }) (disch := first | exact Nat.le_of_ble_eq_true rfl | omega) only [AXS, AXB, J.dst, reduceIte, Nat.reduceEqDiff, Nat.reduceAdd, Nat.reduceMul, Nat.reduceLT, Nat.reduceLeDiff]))
      | (refine wL_newD (t := 116) X.size ?_; rintro b6 hy ey sy hb6 B6; have zy := ey.size; (try replace B7 := B7.ext ey); (try replace C' := C'.ext ey); (try replace P' := P'.ext ey); replace X := X.trans ey; (try simp (config := { maxSteps := 1000000 }) (disch := first | exact Nat.le_of_ble_eq_true rfl | omega) only [AXS, AXB, J.dst, reduceIte, Nat.reduceEqDiff, Nat.reduceAdd, Nat.reduceMul, Nat.reduceLT, Nat.reduceLeDiff]))
      | (refine wL_newD (t := 47) X.size ?_; rintro b7 hy ey sy hb7 B7; have zy := ey.size; (try replace B6 := B6.ext ey); (try replace C' := C'.ext ey); (try replace P' := P'.ext ey); replace X := X.trans ey; (try simp (config := { maxSteps := 1000000 }) (disch := first | exact Nat.le_of_ble_eq_true rfl | omega) only [AXS, AXB, J.dst, reduceIte, Nat.reduceEqDiff, Nat.reduceAdd, Nat.reduceMul, Nat.reduceLT, Nat.reduceLeDiff]))
    all_goals
      refine wL_stD rfl rfl (by omega) rfl B6 (by decide) (ePr_one pv') ?_
      rintro hz uz (D6 : Blk _ _ _ (ePr pv'))
      try simp (config := { maxSteps := 1000000 }) (disch := first | exact Nat.le_of_ble_eq_true rfl | omega) only [AXS, AXB, J.dst, reduceIte, Nat.reduceEqDiff, Nat.reduceAdd, Nat.reduceMul, Nat.reduceLT, Nat.reduceLeDiff]
      refine wL_stD rfl rfl (by omega) rfl (uz.blk B7 (by omega)) (by decide) (eRp_one rv) ?_
      rintro hw uw (D7 : Blk _ _ _ (eRp rv))
      try simp (config := { maxSteps := 1000000 }) (disch := first | exact Nat.le_of_ble_eq_true rfl | omega) only [AXS, AXB, J.dst, reduceIte, Nat.reduceEqDiff, Nat.reduceAdd, Nat.reduceMul, Nat.reduceLT, Nat.reduceLeDiff]
      have ez := uz.size
      have ew := uw.size
      refine app hw b6 pv' (uw.ext (uz.ext X (by omega)) (by omega)) (uw.blk D6 (by omega)) ((P'.at_ (h' := hz) fun b hb => uz.ne b (by omega)).to fun b hb => ⟨⟨by omega, by omega⟩, uw.ne b (by omega)⟩)
  · have hkl : k = l.length := by have := of_decide_eq_false hh; omega
    subst hkl
    refine hex _ _ ?_
    (try simp (config := { maxSteps := 1000000 }) (disch := first | exact Nat.le_of_ble_eq_true rfl | omega) only [AXS, AXB, J.dst, reduceIte, Nat.reduceEqDiff, Nat.reduceAdd, Nat.reduceMul, Nat.reduceLT, Nat.reduceLeDiff]); rw [f65c11_eq]; (try simp (config := { maxSteps := 1000000 }) (disch := first | exact Nat.le_of_ble_eq_true rfl | omega) only [AXS, AXB, J.dst, reduceIte, Nat.reduceEqDiff, Nat.reduceAdd, Nat.reduceMul, Nat.reduceLT, Nat.reduceLeDiff, f65r8])
    exact hR _ _ _ O x2
end Go.Proofs.Ytefghfgmkndikaa
namespace Go.AX
open Go
theorem raw_map {P : Program} {o : Oper} {σ : Env} {h : Heap} {K : Value → Heap → Prop} {t : TypeId} (ho : o.op = .makeMap t none) (H : ∀ h', Ext h h' → h'.size = h.size + 1 → h'[h.size]? = some (.map #[] 0) → K (.map (some h.size)) h') : RawW P o σ h K := by
  refine ⟨?_, ?_, ?_⟩
  · rw [ho]; intro u hu
    simp only [Op.operands, Option.toArray, List.mem_toArray, List.not_mem_nil, Array.not_mem_empty] at hu
  · rw [ho]; intro cs b hh; cases hh
  · intro w hw
    subst hw
    have hrun : (Instr.makeMap t none).run P w = .ok (.map (some w.heap.size)) { w with heap := w.heap.push (.map #[] 0) } := rfl
    refine ⟨.value (.map (some w.heap.size)), _, { w with heap := w.heap.push (.map #[] 0) }, ?_, rfl, ?_, H _ ((Ext.refl w.heap).push _) (by simp) (by simp)⟩
    · simp [execOp, ho, hrun]
    · exact ⟨rfl, rfl, rfl⟩
end Go.AX
namespace Go.Proofs.Ytefghfgmkndikaa
open Go Go.AX
theorem once_none (h : Heap) {a : Option Addr} {c : Nat} {R : Value → Heap → Prop} (hR : ∀ h', Ext h h' → R (.bool true) h') : CallsH Try.prog 102 [.slice a (0 : Nat) c] h R := by
  refine f102ok (by simp) ?_
  (try simp (config := { maxSteps := 1000000 }) (disch := first | exact Nat.le_of_ble_eq_true rfl | omega) only [AXS, AXB, J.dst, reduceIte, Nat.reduceEqDiff, Nat.reduceAdd, Nat.reduceMul, Nat.reduceLT, Nat.reduceLeDiff]); rw [f102c0_eq]; (try simp (config := { maxSteps := 1000000 }) (disch := first | exact Nat.le_of_ble_eq_true rfl | omega) only [AXS, AXB, J.dst, reduceIte, Nat.reduceEqDiff, Nat.reduceAdd, Nat.reduceMul, Nat.reduceLT, Nat.reduceLeDiff, f102r0]); rw [f102c1_eq]; (try simp (config := { maxSteps := 1000000 }) (disch := first | exact Nat.le_of_ble_eq_true rfl | omega) only [AXS, AXB, J.dst, reduceIte, Nat.reduceEqDiff, Nat.reduceAdd, Nat.reduceMul, Nat.reduceLT, Nat.reduceLeDiff, f102r1])
  rw [wL_raw]
  refine raw_map rfl ?_
  intro h1 x1 _ _
  refine ⟨trivial, ?_⟩
  (try simp (config := { maxSteps := 1000000 }) (disch := first | exact Nat.le_of_ble_eq_true rfl | omega) only [AXS, AXB, J.dst, reduceIte, Nat.reduceEqDiff, Nat.reduceAdd, Nat.reduceMul, Nat.reduceLT, Nat.reduceLeDiff]); rw [f102c2_eq]; (try simp (config := { maxSteps := 1000000 }) (disch := first | exact Nat.le_of_ble_eq_true rfl | omega) only [AXS, AXB, J.dst, reduceIte, Nat.reduceEqDiff, Nat.reduceAdd, Nat.reduceMul, Nat.reduceLT, Nat.reduceLeDiff, f102r2])
  rw [f102c3_eq]
  refine loop_in (fun n σ h' => h' = h1 ∧ σ = [(3, .map (some h.size)), (7, .slice a (0 : Nat) c), (8, vi (0 : Nat)), (9, vi (0 : Nat))]) 0 ⟨rfl, rfl⟩ ?_
  rintro n σ h' ⟨rfl, rfl⟩ Q' hnx hex hrt _
  (try simp (config := { maxSteps := 1000000 }) (disch := first | exact Nat.le_of_ble_eq_true rfl | omega) only [AXS, AXB, J.dst, reduceIte, Nat.reduceEqDiff, Nat.reduceAdd, Nat.reduceMul, Nat.reduceLT, Nat.reduceLeDiff]); rw [f102c4_eq]; (try simp (config := { maxSteps := 1000000 }) (disch := first | exact Nat.le_of_ble_eq_true rfl | omega) only [AXS, AXB, J.dst, reduceIte, Nat.reduceEqDiff, Nat.reduceAdd, Nat.reduceMul, Nat.reduceLT, Nat.reduceLeDiff, f102r3]); rw [f102c5_eq]; (try simp (config := { maxSteps := 1000000 }) (disch := first | exact Nat.le_of_ble_eq_true rfl | omega) only [AXS, AXB, J.dst, reduceIte, Nat.reduceEqDiff, Nat.reduceAdd, Nat.reduceMul, Nat.reduceLT, Nat.reduceLeDiff])
  refine ⟨fun hh => ?_, fun hh => ?_⟩
  · have := of_decide_eq_true hh; omega
  · refine hex _ _ ?_
    (try simp (config := { maxSteps := 1000000 }) (disch := first | exact Nat.le_of_ble_eq_true rfl | omega) only [AXS, AXB, J.dst, reduceIte, Nat.reduceEqDiff, Nat.reduceAdd, Nat.reduceMul, Nat.reduceLT, Nat.reduceLeDiff]); rw [f102c13_eq]; (try simp (config := { maxSteps := 1000000 }) (disch := first | exact Nat.le_of_ble_eq_true rfl | omega) only [AXS, AXB, J.dst, reduceIte, Nat.reduceEqDiff, Nat.reduceAdd, Nat.reduceMul, Nat.reduceLT, Nat.reduceLeDiff, f102r9])
    exact hR _ x1
theorem mayP_none {B : Nat → Prop} {n : Nat} (pv : PrV) (p : Prt) (h : Heap) (S : PrR B h pv p) (g : GdP n p) (hn : n ≤ 900000) (hr : p.records = []) (hd : p.done = []) (hl : p.s.low ≤ p.s.closed ∨ p.s.low = 0) {R : Value → Heap → Prop}
    (hR : ∀ h', Ext h h' → R (.bool true) h') : CallsH Try.prog 60 [.agg (ePr pv).toArray] h R := by
  have hrn := S.rn
  have hdn := S.dn
  rw [hr] at hrn
  rw [hd] at hdn
  have hm : mostEpoch = 1099511627776 := rfl
  have e0 := g.e0
  have e1 := g.e1
  have hs := S.s
  refine f60ok (by simp) ?_
  (try simp (config := { maxSteps := 1000000 }) (disch := first | exact Nat.le_of_ble_eq_true rfl | omega) only [AXS, AXB, J.dst, reduceIte, Nat.reduceEqDiff, Nat.reduceAdd, Nat.reduceMul, Nat.reduceLT, Nat.reduceLeDiff]); rw [f60c0_eq]; (try simp (config := { maxSteps := 1000000 }) (disch := first | exact Nat.le_of_ble_eq_true rfl | omega) only [AXS, AXB, J.dst, reduceIte, Nat.reduceEqDiff, Nat.reduceAdd, Nat.reduceMul, Nat.reduceLT, Nat.reduceLeDiff, f60r0])
  refine wL_boxN rfl ?_; rintro b1 h1 x1 s1 hb1 (B1 : Blk _ _ _ (ePr pv))
  try simp (config := { maxSteps := 1000000 }) (disch := first | exact Nat.le_of_ble_eq_true rfl | omega) only [AXS, AXB, J.dst, reduceIte, Nat.reduceEqDiff, Nat.reduceAdd, Nat.reduceMul, Nat.reduceLT, Nat.reduceLeDiff]
  rw [f60c1_eq]
  simp (config := { maxSteps := 1000000 }) (disch := first | exact Nat.le_of_ble_eq_true rfl | omega) only [AXJ, AXS, AXB, J.dst, reduceIte, Nat.reduceEqDiff, Nat.reduceAdd, Nat.reduceMul, Nat.reduceLT, Nat.reduceLeDiff, f60r1, B1.cel, ePr, S.cn]
  refine mayG g.sz.cells hn (S.cells.ext x1) ?_
  intro h2 x2
  refine ⟨trivial, ?_⟩
  have B2 := B1.ext x2
  simp (config := { maxSteps := 1000000 }) (disch := first | exact Nat.le_of_ble_eq_true rfl | omega) only [AXJ, AXS, AXB, J.dst, reduceIte, Nat.reduceEqDiff, Nat.reduceAdd, Nat.reduceMul, Nat.reduceLT, Nat.reduceLeDiff, B2.cel, ePr, hrn, List.length_nil]
  refine once_none _ ?_
  intro h3 x3
  refine ⟨trivial, ?_⟩
  have B3 := B2.ext x3
  simp (config := { maxSteps := 1000000 }) (disch := first | exact Nat.le_of_ble_eq_true rfl | omega) only [AXJ, AXS, AXB, J.dst, reduceIte, Nat.reduceEqDiff, Nat.reduceAdd, Nat.reduceMul, Nat.reduceLT, Nat.reduceLeDiff, f60r1a, B3.cel, ePr, hdn, List.length_nil]
  refine once_none _ ?_
  intro h4 x4
  refine ⟨trivial, ?_⟩
  have B4 := B3.ext x4
  simp (config := { maxSteps := 1000000 }) (disch := first | exact Nat.le_of_ble_eq_true rfl | omega) only [AXJ, AXS, AXB, J.dst, reduceIte, Nat.reduceEqDiff, Nat.reduceAdd, Nat.reduceMul, Nat.reduceLT, Nat.reduceLeDiff]
  simp (config := { maxSteps := 1000000 }) (disch := first | exact Nat.le_of_ble_eq_true rfl | omega) only [AXJ, AXS, AXB, J.dst, reduceIte, Nat.reduceEqDiff, Nat.reduceAdd, Nat.reduceMul, Nat.reduceLT, Nat.reduceLeDiff, f60r1b, B4.cel, ePr, hs]
  simp (config := { maxSteps := 1000000 }) (disch := first | exact Nat.le_of_ble_eq_true rfl | omega) only [AXJ, AXS, AXB, J.dst, reduceIte, Nat.reduceEqDiff, Nat.reduceAdd, Nat.reduceMul, Nat.reduceLT, Nat.reduceLeDiff, f60r1c, B4.cel, ePr, hs]
  simp (config := { maxSteps := 1000000 }) (disch := first | exact Nat.le_of_ble_eq_true rfl | omega) only [AXJ, AXS, AXB, J.dst, reduceIte, Nat.reduceEqDiff, Nat.reduceAdd, Nat.reduceMul, Nat.reduceLT, Nat.reduceLeDiff, f60r1d, B4.cel, ePr, hs]
  simp (config := { maxSteps := 1000000 }) (disch := first | exact Nat.le_of_ble_eq_true rfl | omega) only [AXJ, AXS, AXB, J.dst, reduceIte, Nat.reduceEqDiff, Nat.reduceAdd, Nat.reduceMul, Nat.reduceLT, Nat.reduceLeDiff, f60r1e]
  have hfin : (decide (p.s.epoch ≥ 0) && decide (p.s.epoch ≤ 1099511627776) && (decide (p.s.low ≤ p.s.closed) || p.s.low == 0)) = true := by
    simp only [Bool.and_eq_true, Bool.or_eq_true, decide_eq_true_eq, beq_iff_eq]
    exact ⟨⟨e0, by omega⟩, hl⟩
  rw [hfin]
  exact hR _ (((x1.trans x2).trans x3).trans x4)
def pg1 : Cmd := ⟨⟨1, 1, 2, 0, ⟨0, 0, 0, 0⟩, ⟨0, 0⟩, 0, false⟩, [], []⟩
def pg2 : Cmd := ⟨⟨3, 1, 0, 0, ⟨1, 0, 0, 0⟩, ⟨5, 0⟩, 0, false⟩, [], [⟨⟨#[107]⟩, false, ⟨#[120]⟩⟩]⟩
def pg3 : Cmd := ⟨⟨2, 1, 0, 0, ⟨0, 0, 0, 0⟩, ⟨9, 0⟩, 0, false⟩, [⟨⟨#[97]⟩, ⟨#[122]⟩⟩], []⟩
theorem pg_facts : (applyP emptyP pg1).2.s.err = 0 ∧ (applyP emptyP pg1).1.s.holder = 2 ∧ (applyP (applyP emptyP pg1).1 pg2).2.s.err = 0 ∧ (applyP (applyP (applyP emptyP pg1).1 pg2).1 pg3).2.s.err = 20 ∧
    (applyP (applyP emptyP pg1).1 pg2).1.records = [] ∧ (applyP (applyP emptyP pg1).1 pg2).1.done = [] ∧ (applyP (applyP emptyP pg1).1 pg2).1.s.low = 0 := by
  refine ⟨rfl, rfl, by decide, ?_, by decide, by decide, by decide⟩
  kernel_rfl
def zPr : PrV := ⟨⟨0, 0, ⟨0, 0⟩, 0, 0⟩, none, 0, 0, none, 0, 0, none, 0, 0⟩
theorem zPr_ok {B : Nat → Prop} (h : Heap) : PrR B h zPr emptyP := ⟨rfl, rfl, Nat.le_refl _, rfl, rfl, ⟨[], .nil, .nil⟩, .nil, .nil⟩
theorem begunP_ok (h : Heap) {R : Value → Heap → Prop} (hR : ∀ h', Ext h h' → R (.bool true) h') : CallsH Try.prog 52 [] h R := by
  have hbig : big = 1000000 := rfl
  obtain ⟨f1, f2, f3, f4, f5, f6, f7⟩ := pg_facts
  have g0 := emptyG
  have g1 := applyG (c := pg1) g0 ⟨by decide, by decide⟩
  have g2 := applyG (c := pg2) g1 ⟨by decide, by decide⟩
  refine f52ok (by simp) ?_
  (try simp (config := { maxSteps := 1000000 }) (disch := first | exact Nat.le_of_ble_eq_true rfl | omega) only [AXS, AXB, J.dst, reduceIte, Nat.reduceEqDiff, Nat.reduceAdd, Nat.reduceMul, Nat.reduceLT, Nat.reduceLeDiff]); rw [f52c0_eq]; (try simp (config := { maxSteps := 1000000 }) (disch := first | exact Nat.le_of_ble_eq_true rfl | omega) only [AXS, AXB, J.dst, reduceIte, Nat.reduceEqDiff, Nat.reduceAdd, Nat.reduceMul, Nat.reduceLT, Nat.reduceLeDiff, f52r0]); rw [f52c1_eq]; (try simp (config := { maxSteps := 1000000 }) (disch := first | exact Nat.le_of_ble_eq_true rfl | omega) only [AXS, AXB, J.dst, reduceIte, Nat.reduceEqDiff, Nat.reduceAdd, Nat.reduceMul, Nat.reduceLT, Nat.reduceLeDiff, f52r1])
  refine apply_ok (B := fun _ => True) (B' := fun _ => True) zPr emptyP ⟨pg1.s, none, 0, 0, none, 0, 0⟩ pg1 _ (zPr_ok _) ⟨rfl, rfl, rfl, .nil, .nil⟩ g0.sz (by decide) (by decide) g0.e0 ?_
  intro p1 r1 h1 P1 K1 x1
  refine ⟨trivial, ?_⟩
  try simp (config := { maxSteps := 1000000 }) (disch := first | exact Nat.le_of_ble_eq_true rfl | omega) only [AXS, AXB, J.dst, reduceIte, Nat.reduceEqDiff, Nat.reduceAdd, Nat.reduceMul, Nat.reduceLT, Nat.reduceLeDiff]
  refine wL_newN ?_; rintro b1 h2 x2 s2 hb1 B1
  try simp (config := { maxSteps := 1000000 }) (disch := first | exact Nat.le_of_ble_eq_true rfl | omega) only [AXS, AXB, J.dst, reduceIte, Nat.reduceEqDiff, Nat.reduceAdd, Nat.reduceMul, Nat.reduceLT, Nat.reduceLeDiff]
  refine wL_newN ?_; rintro b2 h3 x3 s3 hb2 B2
  replace B1 := B1.ext x3
  try simp (config := { maxSteps := 1000000 }) (disch := first | exact Nat.le_of_ble_eq_true rfl | omega) only [AXS, AXB, J.dst, reduceIte, Nat.reduceEqDiff, Nat.reduceAdd, Nat.reduceMul, Nat.reduceLT, Nat.reduceLeDiff]
  refine wL_stN rfl rfl rfl B1 (by decide) (ePr_one p1) ?_
  rintro h4 u4 (B1 : Blk _ _ _ (ePr p1))
  try simp (config := { maxSteps := 1000000 }) (disch := first | exact Nat.le_of_ble_eq_true rfl | omega) only [AXS, AXB, J.dst, reduceIte, Nat.reduceEqDiff, Nat.reduceAdd, Nat.reduceMul, Nat.reduceLT, Nat.reduceLeDiff]
  refine wL_stN rfl rfl rfl (u4.blk B2 (by omega)) (by decide) (eRp_one r1) ?_
  rintro h5 u5 (B2 : Blk _ _ _ (eRp r1))
  replace B1 := u5.blk B1 (by omega)
  have x15 := u5.ext (u4.ext (x2.trans x3) (by omega)) (by omega)
  have y4 := u4.size
  have y5 := u5.size
  have P5 := P1.prr.ext x15
  have hr1 := K1.s
  (try simp (config := { maxSteps := 1000000 }) (disch := first | exact Nat.le_of_ble_eq_true rfl | omega) only [AXS, AXB, J.dst, reduceIte, Nat.reduceEqDiff, Nat.reduceAdd, Nat.reduceMul, Nat.reduceLT, Nat.reduceLeDiff]); rw [f52c2_eq]; (try simp (config := { maxSteps := 1000000 }) (disch := first | exact Nat.le_of_ble_eq_true rfl | omega) only [AXS, AXB, J.dst, reduceIte, Nat.reduceEqDiff, Nat.reduceAdd, Nat.reduceMul, Nat.reduceLT, Nat.reduceLeDiff, f52r2, B1.rd, ePr])
  refine wL_bslN rfl ?_; rintro b3 h6 x6 s6 hb3 (B3 : Blk _ _ _ (eWri ⟨⟨#[107]⟩, false, ⟨#[120]⟩⟩))
  try simp (config := { maxSteps := 1000000 }) (disch := first | exact Nat.le_of_ble_eq_true rfl | omega) only [AXS, AXB, J.dst, reduceIte, Nat.reduceEqDiff, Nat.reduceAdd, Nat.reduceMul, Nat.reduceLT, Nat.reduceLeDiff]
  refine apply_ok (B' := fun _ => True) p1 (applyP emptyP pg1).1 ⟨pg2.s, none, 0, 0, some ⟨b3, 0, none⟩, 1, 1⟩ pg2 _ (P5.ext x6) ⟨rfl, rfl, rfl, .nil, fun _ => ⟨b3, 0, rfl, trivial, B3.row⟩⟩ g1.sz (by decide) (by decide) g1.e0 ?_
  intro p2 r2 h7 P2 K2 x7
  refine ⟨trivial, ?_⟩
  replace B1 := B1.ext (x6.trans x7); replace B2 := B2.ext (x6.trans x7)
  have y6 := x6.size
  have y7 := x7.size
  try simp (config := { maxSteps := 1000000 }) (disch := first | exact Nat.le_of_ble_eq_true rfl | omega) only [AXS, AXB, J.dst, reduceIte, Nat.reduceEqDiff, Nat.reduceAdd, Nat.reduceMul, Nat.reduceLT, Nat.reduceLeDiff]
  refine wL_newN ?_; rintro b4 h8 x8 s8 hb4 B4
  try simp (config := { maxSteps := 1000000 }) (disch := first | exact Nat.le_of_ble_eq_true rfl | omega) only [AXS, AXB, J.dst, reduceIte, Nat.reduceEqDiff, Nat.reduceAdd, Nat.reduceMul, Nat.reduceLT, Nat.reduceLeDiff]
  refine wL_newN ?_; rintro b5 h9 x9 s9 hb5 B5
  replace B1 := B1.ext x8; replace B2 := B2.ext x8
  replace B1 := B1.ext x9; replace B2 := B2.ext x9; replace B4 := B4.ext x9
  try simp (config := { maxSteps := 1000000 }) (disch := first | exact Nat.le_of_ble_eq_true rfl | omega) only [AXS, AXB, J.dst, reduceIte, Nat.reduceEqDiff, Nat.reduceAdd, Nat.reduceMul, Nat.reduceLT, Nat.reduceLeDiff]
  refine wL_stN rfl rfl rfl B4 (by decide) (ePr_one p2) ?_
  rintro h10 u10 (B4 : Blk _ _ _ (ePr p2))
  try simp (config := { maxSteps := 1000000 }) (disch := first | exact Nat.le_of_ble_eq_true rfl | omega) only [AXS, AXB, J.dst, reduceIte, Nat.reduceEqDiff, Nat.reduceAdd, Nat.reduceMul, Nat.reduceLT, Nat.reduceLeDiff]
  refine wL_stN rfl rfl rfl (u10.blk B5 (by omega)) (by decide) (eRp_one r2) ?_
  rintro h11 u11 (B5 : Blk _ _ _ (eRp r2))
  replace B4 := u11.blk B4 (by omega)
  replace B1 := u11.blk (u10.blk B1 (by omega)) (by omega)
  replace B2 := u11.blk (u10.blk B2 (by omega)) (by omega)
  have x711 := u11.ext (u10.ext (x8.trans x9) (by omega)) (by omega)
  have y10 := u10.size
  have y11 := u11.size
  have P11 := P2.prr.ext x711
  have hr2 := K2.s
  (try simp (config := { maxSteps := 1000000 }) (disch := first | exact Nat.le_of_ble_eq_true rfl | omega) only [AXS, AXB, J.dst, reduceIte, Nat.reduceEqDiff, Nat.reduceAdd, Nat.reduceMul, Nat.reduceLT, Nat.reduceLeDiff]); rw [f52c3_eq]; (try simp (config := { maxSteps := 1000000 }) (disch := first | exact Nat.le_of_ble_eq_true rfl | omega) only [AXS, AXB, J.dst, reduceIte, Nat.reduceEqDiff, Nat.reduceAdd, Nat.reduceMul, Nat.reduceLT, Nat.reduceLeDiff, f52r3, B4.rd, ePr])
  refine wL_bslN rfl ?_; rintro b6 h12 x12 s12 hb6 (B6 : Blk _ _ _ (eSpn ⟨⟨#[97]⟩, ⟨#[122]⟩⟩))
  try simp (config := { maxSteps := 1000000 }) (disch := first | exact Nat.le_of_ble_eq_true rfl | omega) only [AXS, AXB, J.dst, reduceIte, Nat.reduceEqDiff, Nat.reduceAdd, Nat.reduceMul, Nat.reduceLT, Nat.reduceLeDiff]
  refine apply_ok (B' := fun _ => True) p2 (applyP (applyP emptyP pg1).1 pg2).1 ⟨pg3.s, some ⟨b6, 0, none⟩, 1, 1, none, 0, 0⟩ pg3 _ (P11.ext x12) ⟨rfl, rfl, rfl, fun _ => ⟨b6, 0, rfl, trivial, B6.row⟩, .nil⟩ g2.sz (by decide) (by decide) g2.e0 ?_
  intro p3 r3 h13 P3 K3 x13
  refine ⟨trivial, ?_⟩
  replace B1 := B1.ext (x12.trans x13); replace B2 := B2.ext (x12.trans x13); replace B4 := B4.ext (x12.trans x13); replace B5 := B5.ext (x12.trans x13)
  have y12 := x12.size
  have y13 := x13.size
  try simp (config := { maxSteps := 1000000 }) (disch := first | exact Nat.le_of_ble_eq_true rfl | omega) only [AXS, AXB, J.dst, reduceIte, Nat.reduceEqDiff, Nat.reduceAdd, Nat.reduceMul, Nat.reduceLT, Nat.reduceLeDiff]
  refine wL_newN ?_; rintro b7 h14 x14 s14 hb7 B7
  try simp (config := { maxSteps := 1000000 }) (disch := first | exact Nat.le_of_ble_eq_true rfl | omega) only [AXS, AXB, J.dst, reduceIte, Nat.reduceEqDiff, Nat.reduceAdd, Nat.reduceMul, Nat.reduceLT, Nat.reduceLeDiff]
  refine wL_newN ?_; rintro b8 h15 xb15 s15 hb8 B8
  replace B1 := B1.ext x14; replace B2 := B2.ext x14; replace B4 := B4.ext x14; replace B5 := B5.ext x14
  replace B1 := B1.ext xb15; replace B2 := B2.ext xb15; replace B4 := B4.ext xb15; replace B5 := B5.ext xb15; replace B7 := B7.ext xb15
  try simp (config := { maxSteps := 1000000 }) (disch := first | exact Nat.le_of_ble_eq_true rfl | omega) only [AXS, AXB, J.dst, reduceIte, Nat.reduceEqDiff, Nat.reduceAdd, Nat.reduceMul, Nat.reduceLT, Nat.reduceLeDiff]
  refine wL_stN rfl rfl rfl B7 (by decide) (ePr_one p3) ?_
  rintro h16 u16 (B7 : Blk _ _ _ (ePr p3))
  try simp (config := { maxSteps := 1000000 }) (disch := first | exact Nat.le_of_ble_eq_true rfl | omega) only [AXS, AXB, J.dst, reduceIte, Nat.reduceEqDiff, Nat.reduceAdd, Nat.reduceMul, Nat.reduceLT, Nat.reduceLeDiff]
  refine wL_stN rfl rfl rfl (u16.blk B8 (by omega)) (by decide) (eRp_one r3) ?_
  rintro h17 u17 (B8 : Blk _ _ _ (eRp r3))
  replace B1 := u17.blk (u16.blk B1 (by omega)) (by omega)
  replace B2 := u17.blk (u16.blk B2 (by omega)) (by omega)
  replace B4 := u17.blk (u16.blk B4 (by omega)) (by omega)
  replace B5 := u17.blk (u16.blk B5 (by omega)) (by omega)
  have x1117 := u17.ext (u16.ext (((x12.trans x13).trans x14).trans xb15) (by omega)) (by omega)
  have P17 := P11.ext x1117
  have hp1 := P1.s
  have hr3 := K3.s
  try simp (config := { maxSteps := 1000000 }) (disch := first | exact Nat.le_of_ble_eq_true rfl | omega) only [AXS, AXB, J.dst, reduceIte, Nat.reduceEqDiff, Nat.reduceAdd, Nat.reduceMul, Nat.reduceLT, Nat.reduceLeDiff]
  rw [f52c4_eq]
  simp (config := { maxSteps := 1000000 }) (disch := first | exact Nat.le_of_ble_eq_true rfl | omega) only [AXJ, AXS, AXB, J.dst, reduceIte, Nat.reduceEqDiff, Nat.reduceAdd, Nat.reduceMul, Nat.reduceLT, Nat.reduceLeDiff, f52r4, B2.cel, eRp, hr1, f1, B1.cel, ePr, hp1, f2]
  simp (config := { maxSteps := 1000000 }) (disch := first | exact Nat.le_of_ble_eq_true rfl | omega) only [AXJ, AXS, AXB, J.dst, reduceIte, Nat.reduceEqDiff, Nat.reduceAdd, Nat.reduceMul, Nat.reduceLT, Nat.reduceLeDiff, f52r4a, B5.cel, eRp, hr2, f3]
  simp (config := { maxSteps := 1000000 }) (disch := first | exact Nat.le_of_ble_eq_true rfl | omega) only [AXJ, AXS, AXB, J.dst, reduceIte, Nat.reduceEqDiff, Nat.reduceAdd, Nat.reduceMul, Nat.reduceLT, Nat.reduceLeDiff, f52r4b, B8.cel, eRp, hr3, f4]
  simp (config := { maxSteps := 1000000 }) (disch := first | exact Nat.le_of_ble_eq_true rfl | omega) only [AXJ, AXS, AXB, J.dst, reduceIte, Nat.reduceEqDiff, Nat.reduceAdd, Nat.reduceMul, Nat.reduceLT, Nat.reduceLeDiff, f52r4c, B4.rd, ePr]
  refine mayP_none p2 (applyP (applyP emptyP pg1).1 pg2).1 _ P17 g2 (by decide) f5 f6 (.inr f7) ?_
  intro h18 x18
  refine ⟨trivial, ?_⟩
  try simp (config := { maxSteps := 1000000 }) (disch := first | exact Nat.le_of_ble_eq_true rfl | omega) only [AXJ, AXS, AXB, J.dst, reduceIte, Nat.reduceEqDiff, Nat.reduceAdd, Nat.reduceMul, Nat.reduceLT, Nat.reduceLeDiff]
  try simp (config := { maxSteps := 1000000 }) (disch := first | exact Nat.le_of_ble_eq_true rfl | omega) only [AXJ, AXS, AXB, J.dst, reduceIte, Nat.reduceEqDiff, Nat.reduceAdd, Nat.reduceMul, Nat.reduceLT, Nat.reduceLeDiff, f52r4d]
  exact hR _ ((((x1.trans (x15.trans (x6.trans x7))).trans x711).trans x1117).trans x18)
end Go.Proofs.Ytefghfgmkndikaa
namespace Go.Proofs.Ytefghfgmkndikaa
open Go Go.AX
/-- b is a state that came behind a. -/
structure Later (a b : Prt) : Prop where
  closed : a.s.closed ≤ b.s.closed
  low : a.s.low ≤ b.s.low
  epoch : a.s.epoch ≤ b.s.epoch
  floor : Stamp.lt b.s.floor a.s.floor = false
  records : a.records <+: b.records
  done : a.done <+: b.done
theorem Later.refl (p : Prt) : Later p p := ⟨Int.le_refl _, Int.le_refl _, Int.le_refl _, Stamp.lt_irrefl _, List.prefix_rfl, List.prefix_rfl⟩
theorem maxI_ge (x y : Int) : x ≤ maxI x y := by unfold maxI; split <;> omega
theorem maxS_ge (x y : Stamp) : Stamp.lt (maxS x y) x = false := by
  unfold maxS
  cases h : Stamp.lt x y with
  | true => rw [if_pos rfl]; exact Stamp.lt_asymm h
  | false => rw [if_neg (by simp)]; exact Stamp.lt_irrefl x
theorem doesLater (p : Prt) (c : Cmd) : Later p (doesP p c).1 := by
  have r := Later.refl p
  unfold doesP
  split
  · rcases readP_1 p c with h | h <;> rw [h]
    · exact r
    · exact ⟨r.closed, r.low, r.epoch, maxS_ge _ _, r.records, r.done⟩
  split
  · rcases prepP_1 p c with h | h <;> rw [h]
    · exact r
    · exact ⟨r.closed, r.low, r.epoch, r.floor, r.records, r.done⟩
  split
  · split
    · exact r
    · exact ⟨r.closed, r.low, r.epoch, r.floor, List.prefix_append _ _, r.done⟩
  split
  · refine ⟨r.closed, r.low, r.epoch, r.floor, r.records, ?_⟩
    show p.done <+: (match findO p.done c.s.by_ with | some _ => p.done | none => p.done ++ [outC c])
    split
    · exact List.prefix_rfl
    · exact List.prefix_append _ _
  split
  · exact ⟨maxI_ge _ _, r.low, r.epoch, r.floor, r.records, r.done⟩
  split
  · exact ⟨r.closed, maxI_ge _ _, r.epoch, r.floor, r.records, r.done⟩
  · exact r
theorem leaseLater (p : Prt) (c : Cmd) : Later p (leaseP p c).1 := by
  have r := Later.refl p
  unfold leaseP
  split
  · exact r
  · rename_i h
    refine ⟨r.closed, r.low, ?_, r.floor, r.records, r.done⟩
    show p.s.epoch ≤ c.s.epoch; omega
theorem applyP_cases (p : Prt) (c : Cmd) : (applyP p c).1 = p ∨ (c.s.kind = 1 ∧ applyP p c = leaseP p c) ∨ (¬ c.s.kind = 1 ∧ ¬ (p.s.epoch = 0 ∨ c.s.epoch ≠ p.s.epoch) ∧ applyP p c = doesP p c) := by
  have key : ∀ r : Prt × Rep, (if r.2.s.err = 0 then r else (p, r.2)).1 = p ∨ (if r.2.s.err = 0 then r else (p, r.2)) = r := by
    intro r
    split
    · exact .inr rfl
    · exact .inl rfl
  unfold applyP
  by_cases h1 : c.s.kind = 1
  · simp only [if_pos h1]
    rcases key (leaseP p c) with h | h
    · exact .inl h
    · exact .inr (.inl ⟨h1, h⟩)
  · by_cases h2 : p.s.epoch = 0 ∨ c.s.epoch ≠ p.s.epoch
    · left; simp only [if_neg h1, if_pos h2]; rcases key (p, errR 25) with h | h
      · exact h
      · rw [h]
    · simp only [if_neg h1, if_neg h2]
      rcases key (doesP p c) with h | h
      · exact .inl h
      · exact .inr (.inr ⟨h1, h2, h⟩)
theorem applyLater (p : Prt) (c : Cmd) : Later p (applyP p c).1 := by
  rcases applyP_cases p c with h | ⟨_, h⟩ | ⟨_, _, h⟩
  · rw [h]; exact Later.refl p
  · rw [h]; exact leaseLater p c
  · rw [h]; exact doesLater p c
theorem runLater {l : List Cmd} {k : Nat} (hk : k < l.length) : Later (runP (l.take k)) (runP (l.take (k + 1))) := by
  rw [run_succ (List.getElem?_eq_getElem hk)]
  exact applyLater _ _
end Go.Proofs.Ytefghfgmkndikaa
namespace Go.Proofs.Ytefghfgmkndikaa
open Go Go.AX Go.ChangeShapes Go.WideShapes Go.RowKit Go.Deep
section
variable {H : Type} {enc : TypeId × Value → H} {w : World} {base : Nat}
theorem drop_split {α : Type} (l : List α) (a k b : Nat) (h : b = a + k) : l.drop a = (l.drop a).take k ++ l.drop b := by
  subst h
  rw [← List.drop_drop, List.take_append_drop]
theorem kdI {cs : List Value} (h0 : All2 kdV [.i .i64] cs) : ∃ x : Int, cs = [vi x] := by
  obtain ⟨c0, m0, rfl, ⟨x, rfl, _⟩, h1⟩ := all2_cons h0
  have := all2_nil h1; subst this
  exact ⟨x, rfl⟩
theorem kdB {cs : List Value} (h0 : All2 kdV [.b] cs) : ∃ x : Bool, cs = [.bool x] := by
  obtain ⟨c0, m0, rfl, ⟨x, rfl⟩, h1⟩ := all2_cons h0
  have := all2_nil h1; subst this
  exact ⟨x, rfl⟩
theorem sz43 : Try.prog.cellsOf 43 = 14 := by kernel_rfl
theorem sz3 : Try.prog.cellsOf 3 = 1 := by kernel_rfl
theorem sz2 : Try.prog.cellsOf 2 = 1 := by kernel_rfl
theorem sz37 : Try.prog.cellsOf 37 = 4 := by kernel_rfl
theorem sz39 : Try.prog.cellsOf 39 = 2 := by kernel_rfl
theorem sz40 : Try.prog.cellsOf 40 = 1 := by kernel_rfl
theorem sz41 : Try.prog.cellsOf 41 = 1 := by kernel_rfl
theorem sz94 : Try.prog.cellsOf 94 = 2 := by kernel_rfl
theorem sz70 : Try.prog.cellsOf 70 = 3 := by kernel_rfl
theorem flat3 : flatT Try.prog 20 3 = some [.i .i64] := by kernel_rfl
theorem flat2 : flatT Try.prog 20 2 = some [.i .i64] := by kernel_rfl
theorem flat4 : flatT Try.prog 20 4 = some [.b] := by kernel_rfl
theorem und40 : Try.prog.underlying 40 = some (.slice 94) := by kernel_rfl
theorem und41 : Try.prog.underlying 41 = some (.slice 70) := by kernel_rfl
theorem und111 : Try.prog.underlying 111 = some (.slice 43) := by kernel_rfl
theorem fld43 : isStrF Try.prog 43 [(3, 0), (3, 1), (3, 2), (3, 3), (37, 4), (39, 8), (2, 10), (4, 11), (40, 12), (41, 13)] = true := by kernel_rfl
set_option maxRecDepth 100000 in
theorem trod_cmd {n : Nat} {cs : List Value} {y : DataW H × List MemPlace} (h : DataW.trod enc Try.prog w 0 (fun _ => true) true n 43 cs = some y) :
    ∃ v, cs = eCm v ∧ ∃ c, CmR (fun b => b < w.heap.size) w.heap v c ∧ c.spans.length ≤ maxLen ∧ c.writes.length ≤ maxLen := by
  obtain ⟨hlen, hf⟩ := trod_fields fld43 h
  obtain ⟨n0, y0, h0⟩ := hf (3, 0) (by simp)
  obtain ⟨n1, y1, h1⟩ := hf (3, 1) (by simp)
  obtain ⟨n2, y2, h2⟩ := hf (3, 2) (by simp)
  obtain ⟨n3, y3, h3⟩ := hf (3, 3) (by simp)
  obtain ⟨n4, y4, h4⟩ := hf (37, 4) (by simp)
  obtain ⟨n5, y5, h5⟩ := hf (39, 8) (by simp)
  obtain ⟨n6, y6, h6⟩ := hf (2, 10) (by simp)
  obtain ⟨n7, y7, h7⟩ := hf (4, 11) (by simp)
  obtain ⟨n8, y8, h8⟩ := hf (40, 12) (by simp)
  obtain ⟨n9, y9, h9⟩ := hf (41, 13) (by simp)
  simp only [sz3, sz37, sz39, sz2, sz4, sz40, sz41] at h0 h1 h2 h3 h4 h5 h6 h7 h8 h9
  rw [sz43] at hlen
  obtain ⟨kind, e0⟩ := kdI (flatT_trod _ _ _ _ _ _ flat3 h0)
  obtain ⟨epoch, e1⟩ := kdI (flatT_trod _ _ _ _ _ _ flat3 h1)
  obtain ⟨node, e2⟩ := kdI (flatT_trod _ _ _ _ _ _ flat3 h2)
  obtain ⟨home, e3⟩ := kdI (flatT_trod _ _ _ _ _ _ flat3 h3)
  obtain ⟨by_, e4⟩ := kdTry (flatT_trod _ _ _ _ _ _ flat37 h4)
  obtain ⟨at_, e5⟩ := kdStamp (flatT_trod _ _ _ _ _ _ flat39 h5)
  obtain ⟨wall, e6⟩ := kdI (flatT_trod _ _ _ _ _ _ flat2 h6)
  obtain ⟨yes, e7⟩ := kdB (flatT_trod _ _ _ _ _ _ flat4 h7)
  obtain ⟨sa, sn, sc, ss, e8, hs1, hs2, hs3, S⟩ := open_flat und40 flat94 sz94 (by decide) (fun _ => kdSpn) eSpn_len h8
  obtain ⟨wa, wn, wc, ws, e9, hw1, hw2, hw3, W⟩ := open_flat und41 flat70 sz70 (by decide) (fun _ => kdWri) eWri_len h9
  have hcs : cs = (cs.drop 0).take 1 ++ ((cs.drop 1).take 1 ++ ((cs.drop 2).take 1 ++ ((cs.drop 3).take 1 ++ ((cs.drop 4).take 4 ++ ((cs.drop 8).take 2 ++ ((cs.drop 10).take 1 ++ ((cs.drop 11).take 1 ++ ((cs.drop 12).take 1 ++ (cs.drop 13).take 1)))))))) := by
    have e : (cs.drop 13).take 1 = cs.drop 13 := by rw [List.take_of_length_le]; rw [List.length_drop]; omega
    rw [e, ← drop_split cs 12 1 13 rfl, ← drop_split cs 11 1 12 rfl, ← drop_split cs 10 1 11 rfl, ← drop_split cs 8 2 10 rfl, ← drop_split cs 4 4 8 rfl, ← drop_split cs 3 1 4 rfl, ← drop_split cs 2 1 3 rfl, ← drop_split cs 1 1 2 rfl, ← drop_split cs 0 1 1 rfl, List.drop_zero]
  rw [e0, e1, e2, e3, e4, e5, e6, e7, e8, e9] at hcs
  refine ⟨⟨⟨kind, epoch, node, home, by_, at_, wall, yes⟩, sa, sn, sc, wa, wn, wc⟩, hcs, ⟨⟨kind, epoch, node, home, by_, at_, wall, yes⟩, ss, ws⟩, ⟨rfl, hs1.symm, hw1.symm, S, W⟩, ?_, ?_⟩
  · show ss.length ≤ maxLen; omega
  · show ws.length ≤ maxLen; omega
set_option maxRecDepth 100000 in
theorem argCmds {v : Value} {d : DataW H} {p : List MemPlace} (hv : Value.okWide Try.prog w .any base 111 v) (h : DataW.Trod enc Try.prog w 0 (fun _ => true) true 111 v d p) :
    ∃ a c l, v = .slice a l.length c ∧ LenM l ∧ SlM (fun b => b < w.heap.size) w.heap a l := by
  obtain ⟨a0, n0, c0, rfl⟩ := okWide_slice und111 hv
  obtain ⟨fuel, hf⟩ := h
  obtain ⟨a, n, c, ds, h1, h2, h3, h4, S, hQ⟩ := open_rows (e := eCm) (Q := fun v => ∃ c, CmR (fun b => b < w.heap.size) w.heap v c ∧ c.spans.length ≤ maxLen ∧ c.writes.length ≤ maxLen) und111 sz43 (by decide) (fun n cs y h => trod_cmd h) eCm_len hf
  obtain ⟨cs, hcs⟩ := all2_ex hQ
  have : a0 = a ∧ n0 = n ∧ c0 = c := by simpa [Value.cells] using h1
  obtain ⟨rfl, rfl, rfl⟩ := this
  have hl := hcs.length
  subst h2
  refine ⟨a0, c0, cs, by rw [hl], ⟨by omega, ?_⟩, ⟨ds, hcs.imp fun _ _ r => r.1, S⟩⟩
  clear S hQ hl
  intro c hc
  obtain ⟨i, hi, rfl⟩ := List.mem_iff_getElem.1 hc
  obtain ⟨v, _, hr⟩ := hcs.get (List.getElem?_eq_getElem hi)
  exact hr.2
end
end Go.Proofs.Ytefghfgmkndikaa
namespace Go.Proofs.Ytefghfgmkndikaa
open Go.AX
set_option maxRecDepth 100000
def f18r0 : List I := [.op (.mov 2 (.const (.bool false))),
  .kp [0]]
def f18r1 : List I := [.op (.call (some 9) 52 []),
  .op (.un 10 .not (.tmp 9)),
  .kp [0, 10]]
def f18r2 : List I := [.op (.mov 2 (.const (.bool false))),
  .kp [2]]
def f18r3 : List I := [.op (.mov 11 (.tmp 0)),
  .op (.call (some 12) 53 [(.tmp 11), (.const (.int .i64 60))]),
  .op (.un 13 .not (.tmp 12)),
  .kp [0, 13]]
def f18r4 : List I := [.op (.mov 2 (.const (.bool true))),
  .kp [2]]
def f18r5 : List I := [.op (.mov 14 (.tmp 0)),
  .op (.call (some 15) 65 [(.tmp 14)]),
  .op (.mov 3 (.tmp 15)),
  .kp [3]]
def f18r6 : List I := [.op (.mov 4 (.const (.int .i64 1))),
  .kp [3, 4]]
def f18r7 : List I := [.op (.mov 16 (.tmp 4)),
  .op (.mov 17 (.tmp 3)),
  .op (.len 18 true (.tmp 17)),
  .op (.bin 19 .lss (.tmp 16) (.tmp 18)),
  .kp [3, 4, 19]]
def f18r8 : L := (.one [.op (.mov 22 (.tmp 3)),
  .op (.mov 23 (.tmp 4)),
  .op (.bin 24 .sub (.tmp 23) (.const (.int .i64 1))),
  .op (.iad 25 9 (.tmp 22) (.tmp 24)),
  .op (.ld 26 (some 9) (.tmp 25)),
  .op (.mov 27 (.tmp 3)),
  .op (.mov 28 (.tmp 4)),
  .op (.iad 29 9 (.tmp 27) (.tmp 28)),
  .op (.ld 30 (some 9) (.tmp 29))] (.alt (.one [.op (.new 5 116 [.int .i64 0, .int .i64 0, .int .i64 0, .int .i64 0, .int .i64 0, .int .i64 0, .slice none 0 0, .slice none 0 0, .slice none 0 0]),
  .op (.new 6 116 [.int .i64 0, .int .i64 0, .int .i64 0, .int .i64 0, .int .i64 0, .int .i64 0, .slice none 0 0, .slice none 0 0, .slice none 0 0]),
  .op (.st 9 (.tmp 5) (.tmp 26)),
  .op (.st 9 (.tmp 6) (.tmp 30)),
  .kp [3, 4, 5, 6]] .nil) (.one [.op (.new 6 116 [.int .i64 0, .int .i64 0, .int .i64 0, .int .i64 0, .int .i64 0, .int .i64 0, .slice none 0 0, .slice none 0 0, .slice none 0 0]),
  .op (.new 5 116 [.int .i64 0, .int .i64 0, .int .i64 0, .int .i64 0, .int .i64 0, .int .i64 0, .slice none 0 0, .slice none 0 0, .slice none 0 0]),
  .op (.st 9 (.tmp 5) (.tmp 26)),
  .op (.st 9 (.tmp 6) (.tmp 30)),
  .kp [3, 4, 5, 6]] .nil)))
def f18r9d : List I := [.op (.mov 66 (.tmp 65)),
  .sc 66 false 7,
  .g 66 false (.fad 67 8 (.tmp 6)),
  .g 66 false (.ld 68 none (.tmp 67)),
  .g 66 false (.len 69 true (.tmp 68)),
  .g 66 false (.fad 70 8 (.tmp 5)),
  .g 66 false (.ld 71 none (.tmp 70)),
  .g 66 false (.len 72 true (.tmp 71)),
  .g 66 false (.bin 73 .lss (.tmp 69) (.tmp 72)),
  .op (.pick 74 (.tmp 66) (.const (.bool true)) (.tmp 73)),
  .kp [74, 3, 4, 5, 6]]
def f18r9c : List I := .op (.mov 57 (.tmp 56)) ::
  .sc 57 false 7 ::
  .g 57 false (.fad 58 7 (.tmp 6)) ::
  .g 57 false (.ld 59 none (.tmp 58)) ::
  .g 57 false (.len 60 true (.tmp 59)) ::
  .g 57 false (.fad 61 7 (.tmp 5)) ::
  .g 57 false (.ld 62 none (.tmp 61)) ::
  .g 57 false (.len 63 true (.tmp 62)) ::
  .g 57 false (.bin 64 .lss (.tmp 60) (.tmp 63)) ::
  .op (.pick 65 (.tmp 57) (.const (.bool true)) (.tmp 64)) ::
  .kp [65, 3, 4, 5, 6] ::
  f18r9d
def f18r9b : List I := .op (.mov 50 (.tmp 49)) ::
  .sc 50 false 5 ::
  .g 50 false (.fad 51 2 (.tmp 6)) ::
  .g 50 false (.ld 52 (some 2) (.tmp 51)) ::
  .g 50 false (.fad 53 2 (.tmp 5)) ::
  .g 50 false (.ld 54 (some 2) (.tmp 53)) ::
  .g 50 false (.call (some 55) 42 [(.tmp 52), (.tmp 54)]) ::
  .op (.pick 56 (.tmp 50) (.const (.bool true)) (.tmp 55)) ::
  .kp [56, 3, 4, 5, 6] ::
  f18r9c
def f18r9a : List I := .op (.mov 43 (.tmp 42)) ::
  .sc 43 false 5 ::
  .g 43 false (.fad 44 0 (.tmp 6)) ::
  .g 43 false (.ld 45 none (.tmp 44)) ::
  .g 43 false (.fad 46 0 (.tmp 5)) ::
  .g 43 false (.ld 47 none (.tmp 46)) ::
  .g 43 false (.bin 48 .lss (.tmp 45) (.tmp 47)) ::
  .op (.pick 49 (.tmp 43) (.const (.bool true)) (.tmp 48)) ::
  .kp [49, 3, 4, 5, 6] ::
  f18r9b
def f18r9 : List I := .op (.fad 31 4 (.tmp 6)) ::
  .op (.ld 32 none (.tmp 31)) ::
  .op (.fad 33 4 (.tmp 5)) ::
  .op (.ld 34 none (.tmp 33)) ::
  .op (.bin 35 .lss (.tmp 32) (.tmp 34)) ::
  .op (.mov 36 (.tmp 35)) ::
  .sc 36 false 5 ::
  .g 36 false (.fad 37 5 (.tmp 6)) ::
  .g 36 false (.ld 38 none (.tmp 37)) ::
  .g 36 false (.fad 39 5 (.tmp 5)) ::
  .g 36 false (.ld 40 none (.tmp 39)) ::
  .g 36 false (.bin 41 .lss (.tmp 38) (.tmp 40)) ::
  .op (.pick 42 (.tmp 36) (.const (.bool true)) (.tmp 41)) ::
  .kp [42, 3, 4, 5, 6] ::
  f18r9a
def f18r10 : List I := [.op (.mov 2 (.const (.bool false))),
  .kp [2]]
def f18r11 : List I := [.op (.mov 7 (.const (.int .i64 0))),
  .kp [3, 4, 5, 6, 7]]
def f18r12 : List I := [.op (.mov 75 (.tmp 7)),
  .op (.fad 76 7 (.tmp 5)),
  .op (.ld 77 none (.tmp 76)),
  .op (.len 78 true (.tmp 77)),
  .op (.bin 79 .lss (.tmp 75) (.tmp 78)),
  .kp [3, 4, 5, 6, 7, 79]]
def f18r13 : List I := [.op (.fad 82 7 (.tmp 6)),
  .op (.ld 83 none (.tmp 82)),
  .op (.mov 84 (.tmp 7)),
  .op (.iad 85 7 (.tmp 83) (.tmp 84)),
  .op (.ld 86 (some 7) (.tmp 85)),
  .op (.fad 87 7 (.tmp 5)),
  .op (.ld 88 none (.tmp 87)),
  .op (.mov 89 (.tmp 7)),
  .op (.iad 90 7 (.tmp 88) (.tmp 89)),
  .op (.ld 91 (some 7) (.tmp 90)),
  .kp [3, 4, 5, 6, 7, 86, 91],
  .op (.eqa 92 true [.i .i64, .i .i64, .i .i64, .i .i64, .i .i64, .i .i64, .b] (.tmp 86) (.tmp 91)),
  .kp [3, 4, 5, 6, 7, 92]]
def f18r14 : List I := [.op (.mov 2 (.const (.bool false))),
  .kp [2]]
def f18r15 : List I := [.op (.mov 80 (.tmp 7)),
  .op (.bin 81 .add (.tmp 80) (.const (.int .i64 1))),
  .op (.mov 7 (.tmp 81)),
  .kp [3, 4, 5, 6, 7]]
def f18r16 : List I := [.op (.mov 8 (.const (.int .i64 0))),
  .kp [3, 4, 5, 6, 8]]
def f18r17 : List I := [.op (.mov 93 (.tmp 8)),
  .op (.fad 94 8 (.tmp 5)),
  .op (.ld 95 none (.tmp 94)),
  .op (.len 96 true (.tmp 95)),
  .op (.bin 97 .lss (.tmp 93) (.tmp 96)),
  .kp [3, 4, 5, 6, 8, 97]]
def f18r18 : List I := [.op (.fad 100 8 (.tmp 6)),
  .op (.ld 101 none (.tmp 100)),
  .op (.mov 102 (.tmp 8)),
  .op (.iad 103 7 (.tmp 101) (.tmp 102)),
  .op (.ld 104 (some 7) (.tmp 103)),
  .op (.fad 105 8 (.tmp 5)),
  .op (.ld 106 none (.tmp 105)),
  .op (.mov 107 (.tmp 8)),
  .op (.iad 108 7 (.tmp 106) (.tmp 107)),
  .op (.ld 109 (some 7) (.tmp 108)),
  .kp [3, 4, 5, 6, 8, 104, 109],
  .op (.eqa 110 true [.i .i64, .i .i64, .i .i64, .i .i64, .i .i64, .i .i64, .b] (.tmp 104) (.tmp 109)),
  .kp [3, 4, 5, 6, 8, 110]]
def f18r19 : List I := [.op (.mov 2 (.const (.bool false))),
  .kp [2]]
def f18r20 : List I := [.op (.mov 98 (.tmp 8)),
  .op (.bin 99 .add (.tmp 98) (.const (.int .i64 1))),
  .op (.mov 8 (.tmp 99)),
  .kp [3, 4, 5, 6, 8]]
def f18r21 : List I := [.op (.mov 20 (.tmp 4)),
  .op (.bin 21 .add (.tmp 20) (.const (.int .i64 1))),
  .op (.mov 4 (.tmp 21)),
  .kp [3, 4]]
def f18r22 : List I := [.op (.mov 2 (.const (.bool true))),
  .kp [2]]
def f18c3 : C := (.seq (.reg f18r2) .ret)
def f18c6 : C := (.seq (.reg f18r4) .ret)
def f18c16 : C := (.seq (.reg f18r10) .ret)
def f18c24 : C := (.seq (.reg f18r14) .ret)
def f18c23 : C := (.cond (.tmp 92) f18c24 .skip)
def f18c22 : C := (.seq (.drw f18r13) f18c23)
def f18c25 : C := (.reg f18r15)
def f18c21 : C := (.seq (.block 3 f18c22) f18c25)
def f18c20 : C := (.seq (.cond (.tmp 79) .skip (.exit 2)) f18c21)
def f18c19 : C := (.seq (.reg f18r12) f18c20)
def f18c33 : C := (.seq (.reg f18r19) .ret)
def f18c32 : C := (.cond (.tmp 110) f18c33 .skip)
def f18c31 : C := (.seq (.drw f18r18) f18c32)
def f18c34 : C := (.reg f18r20)
def f18c30 : C := (.seq (.block 5 f18c31) f18c34)
def f18c29 : C := (.seq (.cond (.tmp 97) .skip (.exit 4)) f18c30)
def f18c28 : C := (.seq (.reg f18r17) f18c29)
def f18c27 : C := (.block 4 (.loop f18c28))
def f18c26 : C := (.seq (.reg f18r16) f18c27)
def f18c18 : C := (.seq (.block 2 (.loop f18c19)) f18c26)
def f18c17 : C := (.seq (.reg f18r11) f18c18)
def f18c15 : C := (.seq (.cond (.tmp 74) f18c16 .skip) f18c17)
def f18c14 : C := (.seq (.reg f18r9) f18c15)
def f18c13 : C := (.seq (.drt f18r8) f18c14)
def f18c35 : C := (.reg f18r21)
def f18c12 : C := (.seq (.block 1 f18c13) f18c35)
def f18c11 : C := (.seq (.cond (.tmp 19) .skip (.exit 0)) f18c12)
def f18c10 : C := (.seq (.reg f18r7) f18c11)
def f18c36 : C := (.seq (.reg f18r22) .ret)
def f18c9 : C := (.seq (.block 0 (.loop f18c10)) f18c36)
def f18c8 : C := (.seq (.reg f18r6) f18c9)
def f18c7 : C := (.seq (.reg f18r5) f18c8)
def f18c5 : C := (.seq (.cond (.tmp 13) f18c6 .skip) f18c7)
def f18c4 : C := (.seq (.reg f18r3) f18c5)
def f18c2 : C := (.seq (.cond (.tmp 10) f18c3 .skip) f18c4)
def f18c1 : C := (.seq (.reg f18r1) f18c2)
def f18c0 : C := (.seq (.reg f18r0) f18c1)
theorem f18cmp : cmpF Try.prog Try.f18 [.l [.o 0, .kp [0]],
  .l [.o 0, .o 1, .kp [0, 10]],
  .l [.o 0, .kp [2]],
  .l [.o 0, .o 1, .o 2, .kp [0, 13]],
  .l [.o 0, .kp [2]],
  .l [.o 0, .o 1, .o 2, .kp [3]],
  .l [.o 0, .kp [3, 4]],
  .l [.o 0, .o 1, .o 2, .o 3, .kp [3, 4, 19]],
  .t (.one [.o 0, .o 1, .o 2, .o 3, .o 4, .o 5, .o 6, .o 7, .o 8] (.alt (.one [.o 9, .o 10, .o 11, .o 12, .kp [3, 4, 5, 6]] .nil) (.one [.o 10, .o 9, .o 11, .o 12, .kp [3, 4, 5, 6]] .nil))),
  .l [.o 0, .o 1, .o 2, .o 3, .o 4, .o 5, .sc 36 false 5, .o 6, .o 7, .o 8, .o 9, .o 10, .o 11, .kp [42, 3, 4, 5, 6], .o 12, .sc 43 false 5, .o 13, .o 14, .o 15, .o 16, .o 17, .o 18, .kp [49, 3, 4, 5, 6], .o 19, .sc 50 false 5, .o 20, .o 21, .o 22, .o 23, .o 24, .o 25, .kp [56, 3, 4, 5, 6], .o 26, .sc 57 false 7, .o 27, .o 28, .o 29, .o 30, .o 31, .o 32, .o 33, .o 34, .kp [65, 3, 4, 5, 6], .o 35, .sc 66 false 7, .o 36, .o 37, .o 38, .o 39, .o 40, .o 41, .o 42, .o 43, .kp [74, 3, 4, 5, 6]],
  .l [.o 0, .kp [2]],
  .l [.o 0, .kp [3, 4, 5, 6, 7]],
  .l [.o 0, .o 1, .o 2, .o 3, .o 4, .kp [3, 4, 5, 6, 7, 79]],
  .l [.o 0, .o 1, .o 2, .o 3, .o 4, .o 5, .o 6, .o 7, .o 8, .o 9, .kp [3, 4, 5, 6, 7, 86, 91], .o 10, .kp [3, 4, 5, 6, 7, 92]],
  .l [.o 0, .kp [2]],
  .l [.o 0, .o 1, .o 2, .kp [3, 4, 5, 6, 7]],
  .l [.o 0, .kp [3, 4, 5, 6, 8]],
  .l [.o 0, .o 1, .o 2, .o 3, .o 4, .kp [3, 4, 5, 6, 8, 97]],
  .l [.o 0, .o 1, .o 2, .o 3, .o 4, .o 5, .o 6, .o 7, .o 8, .o 9, .kp [3, 4, 5, 6, 8, 104, 109], .o 10, .kp [3, 4, 5, 6, 8, 110]],
  .l [.o 0, .kp [2]],
  .l [.o 0, .o 1, .o 2, .kp [3, 4, 5, 6, 8]],
  .l [.o 0, .o 1, .o 2, .kp [3, 4]],
  .l [.o 0, .kp [2]]] = some (f18c0, [.tmp 2]) := by kernel_rfl
theorem f18ok {args : List Value} {h : Heap} {R : Value → Heap → Prop} (hn : args.length ≤ 111) (H : wC Try.prog f18c0 (endW [.tmp 2] R) (envOf 0 args) h) : CallsH Try.prog 18 args h R :=
  fn_ok2 Try.func18 f18cmp hn H
section
variable {Q : X → Env → Heap → Prop} {σ : Env} {h : Heap}
theorem f18c6_eq : wC Try.prog f18c6 Q σ h = (wL Try.prog none f18r4 0 (fun σ h => Q .ret σ h) σ h) := rfl
theorem f18c23_eq : wC Try.prog f18c23 Q σ h = (bd (evO σ (.tmp 92)) fun v => bd (asB v) fun t => br t (wC Try.prog f18c24 Q σ h) (Q .normal σ h)) := rfl
theorem f18c22_eq : wC Try.prog f18c22 Q σ h = (drwW Try.prog f18r13 (fun σ h => wC Try.prog f18c23 Q σ h) σ h) := rfl
theorem f18c25_eq : wC Try.prog f18c25 Q σ h = (wL Try.prog none f18r15 0 (fun σ h => Q .normal σ h) σ h) := rfl
theorem f18c21_eq : wC Try.prog f18c21 Q σ h = (wC Try.prog f18c22 (X.inBlock 3 (X.then (fun σ h => wC Try.prog f18c25 Q σ h) Q)) σ h) := rfl
theorem f18c20_eq : wC Try.prog f18c20 Q σ h = (bd (evO σ (.tmp 79)) fun v => bd (asB v) fun t => br t (wC Try.prog f18c21 Q σ h) (Q (.exit 2) σ h)) := rfl
theorem f18c19_eq : wC Try.prog f18c19 Q σ h = (wL Try.prog none f18r12 0 (fun σ h => wC Try.prog f18c20 Q σ h) σ h) := rfl
theorem f18c32_eq : wC Try.prog f18c32 Q σ h = (bd (evO σ (.tmp 110)) fun v => bd (asB v) fun t => br t (wC Try.prog f18c33 Q σ h) (Q .normal σ h)) := rfl
theorem f18c31_eq : wC Try.prog f18c31 Q σ h = (drwW Try.prog f18r18 (fun σ h => wC Try.prog f18c32 Q σ h) σ h) := rfl
theorem f18c34_eq : wC Try.prog f18c34 Q σ h = (wL Try.prog none f18r20 0 (fun σ h => Q .normal σ h) σ h) := rfl
theorem f18c30_eq : wC Try.prog f18c30 Q σ h = (wC Try.prog f18c31 (X.inBlock 5 (X.then (fun σ h => wC Try.prog f18c34 Q σ h) Q)) σ h) := rfl
theorem f18c29_eq : wC Try.prog f18c29 Q σ h = (bd (evO σ (.tmp 97)) fun v => bd (asB v) fun t => br t (wC Try.prog f18c30 Q σ h) (Q (.exit 4) σ h)) := rfl
theorem f18c28_eq : wC Try.prog f18c28 Q σ h = (wL Try.prog none f18r17 0 (fun σ h => wC Try.prog f18c29 Q σ h) σ h) := rfl
theorem f18c27_eq : wC Try.prog f18c27 Q σ h = (loopW (wC Try.prog f18c28) (X.inBlock 4 Q) σ h) := rfl
theorem f18c26_eq : wC Try.prog f18c26 Q σ h = (wL Try.prog none f18r16 0 (fun σ h => wC Try.prog f18c27 Q σ h) σ h) := rfl
theorem f18c18_eq : wC Try.prog f18c18 Q σ h = (loopW (wC Try.prog f18c19) (X.inBlock 2 (X.then (fun σ h => wC Try.prog f18c26 Q σ h) Q)) σ h) := rfl
theorem f18c17_eq : wC Try.prog f18c17 Q σ h = (wL Try.prog none f18r11 0 (fun σ h => wC Try.prog f18c18 Q σ h) σ h) := rfl
theorem f18c15_eq : wC Try.prog f18c15 Q σ h = (bd (evO σ (.tmp 74)) fun v => bd (asB v) fun t => br t (wC Try.prog f18c16 (X.then (fun σ h => wC Try.prog f18c17 Q σ h) Q) σ h) (wC Try.prog f18c17 Q σ h)) := rfl
theorem f18c14_eq : wC Try.prog f18c14 Q σ h = (wL Try.prog none f18r9 0 (fun σ h => wC Try.prog f18c15 Q σ h) σ h) := rfl
theorem f18c13_eq : wC Try.prog f18c13 Q σ h = (drtW Try.prog f18r8 (fun σ h => wC Try.prog f18c14 Q σ h) σ h) := rfl
theorem f18c35_eq : wC Try.prog f18c35 Q σ h = (wL Try.prog none f18r21 0 (fun σ h => Q .normal σ h) σ h) := rfl
theorem f18c12_eq : wC Try.prog f18c12 Q σ h = (wC Try.prog f18c13 (X.inBlock 1 (X.then (fun σ h => wC Try.prog f18c35 Q σ h) Q)) σ h) := rfl
theorem f18c11_eq : wC Try.prog f18c11 Q σ h = (bd (evO σ (.tmp 19)) fun v => bd (asB v) fun t => br t (wC Try.prog f18c12 Q σ h) (Q (.exit 0) σ h)) := rfl
theorem f18c10_eq : wC Try.prog f18c10 Q σ h = (wL Try.prog none f18r7 0 (fun σ h => wC Try.prog f18c11 Q σ h) σ h) := rfl
theorem f18c36_eq : wC Try.prog f18c36 Q σ h = (wL Try.prog none f18r22 0 (fun σ h => Q .ret σ h) σ h) := rfl
theorem f18c9_eq : wC Try.prog f18c9 Q σ h = (loopW (wC Try.prog f18c10) (X.inBlock 0 (X.then (fun σ h => wC Try.prog f18c36 Q σ h) Q)) σ h) := rfl
theorem f18c8_eq : wC Try.prog f18c8 Q σ h = (wL Try.prog none f18r6 0 (fun σ h => wC Try.prog f18c9 Q σ h) σ h) := rfl
theorem f18c7_eq : wC Try.prog f18c7 Q σ h = (wL Try.prog none f18r5 0 (fun σ h => wC Try.prog f18c8 Q σ h) σ h) := rfl
theorem f18c5_eq : wC Try.prog f18c5 Q σ h = (bd (evO σ (.tmp 13)) fun v => bd (asB v) fun t => br t (wC Try.prog f18c6 (X.then (fun σ h => wC Try.prog f18c7 Q σ h) Q) σ h) (wC Try.prog f18c7 Q σ h)) := rfl
theorem f18c4_eq : wC Try.prog f18c4 Q σ h = (wL Try.prog none f18r3 0 (fun σ h => wC Try.prog f18c5 Q σ h) σ h) := rfl
theorem f18c2_eq : wC Try.prog f18c2 Q σ h = (bd (evO σ (.tmp 10)) fun v => bd (asB v) fun t => br t (wC Try.prog f18c3 (X.then (fun σ h => wC Try.prog f18c4 Q σ h) Q) σ h) (wC Try.prog f18c4 Q σ h)) := rfl
theorem f18c1_eq : wC Try.prog f18c1 Q σ h = (wL Try.prog none f18r1 0 (fun σ h => wC Try.prog f18c2 Q σ h) σ h) := rfl
theorem f18c0_eq : wC Try.prog f18c0 Q σ h = (wL Try.prog none f18r0 0 (fun σ h => wC Try.prog f18c1 Q σ h) σ h) := rfl
end
end Go.Proofs.Ytefghfgmkndikaa
namespace Go.Proofs.Ytefghfgmkndikaa
open Go Go.AX
theorem eqA_outS (x : Out) : eqA true [.i .i64, .i .i64, .i .i64, .i .i64, .i .i64, .i .i64, .b] (.agg (eOut x).toArray) (.agg (eOut x).toArray) = some (.bool false) := by
  simp only [eqA, eOut, eqKds, eqKd, and_self, if_true, Option.bind_some, Option.map_some, beq_self_eq_true, Bool.and_true, Bool.not_true]
theorem prefix_at {α : Type} {l m : List α} (h : l <+: m) {i : Nat} {x : α} (hi : l[i]? = some x) : m[i]? = some x := by
  obtain ⟨t, rfl⟩ := h
  rw [List.getElem?_append_left (by rcases Nat.lt_or_ge i l.length with h | h; exact h; rw [List.getElem?_eq_none h] at hi; cases hi)]
  exact hi
theorem prefix_le {α : Type} {l m : List α} (h : l <+: m) : l.length ≤ m.length := by obtain ⟨t, rfl⟩ := h; simp
theorem decides_ok {B : Nat → Prop} {a : Option Addr} {n : Nat} (l : List Cmd) (h : Heap) (S : SlM B h a l) (F : LenM l) {R : Value → Heap → Prop}
    (hR : ∀ h', Ext h h' → R (.bool true) h') : CallsH Try.prog 18 [.slice a l.length n] h R := by
  refine f18ok (by simp) ?_
  (try simp (config := { maxSteps := 1000000 }) (disch := first | exact Nat.le_of_ble_eq_true rfl | omega) only [AXS, AXB, J.dst, reduceIte, Nat.reduceEqDiff, Nat.reduceAdd, Nat.reduceMul, Nat.reduceLT, Nat.reduceLeDiff]); rw [f18c0_eq]; (try simp (config := { maxSteps := 1000000 }) (disch := first | exact Nat.le_of_ble_eq_true rfl | omega) only [AXS, AXB, J.dst, reduceIte, Nat.reduceEqDiff, Nat.reduceAdd, Nat.reduceMul, Nat.reduceLT, Nat.reduceLeDiff, f18r0]); rw [f18c1_eq]; (try simp (config := { maxSteps := 1000000 }) (disch := first | exact Nat.le_of_ble_eq_true rfl | omega) only [AXS, AXB, J.dst, reduceIte, Nat.reduceEqDiff, Nat.reduceAdd, Nat.reduceMul, Nat.reduceLT, Nat.reduceLeDiff, f18r1])
  refine begunP_ok _ ?_
  intro h1 x1
  refine ⟨trivial, ?_⟩
  (try simp (config := { maxSteps := 1000000 }) (disch := first | exact Nat.le_of_ble_eq_true rfl | omega) only [AXS, AXB, J.dst, reduceIte, Nat.reduceEqDiff, Nat.reduceAdd, Nat.reduceMul, Nat.reduceLT, Nat.reduceLeDiff]); rw [f18c2_eq]; (try simp (config := { maxSteps := 1000000 }) (disch := first | exact Nat.le_of_ble_eq_true rfl | omega) only [AXS, AXB, J.dst, reduceIte, Nat.reduceEqDiff, Nat.reduceAdd, Nat.reduceMul, Nat.reduceLT, Nat.reduceLeDiff]); rw [f18c4_eq]; (try simp (config := { maxSteps := 1000000 }) (disch := first | exact Nat.le_of_ble_eq_true rfl | omega) only [AXS, AXB, J.dst, reduceIte, Nat.reduceEqDiff, Nat.reduceAdd, Nat.reduceMul, Nat.reduceLT, Nat.reduceLeDiff, f18r3])
  refine lightP_ok l 60 _ (S.ext x1) F ?_
  intro bl h2 hbl x2
  refine ⟨trivial, ?_⟩
  have x02 := x1.trans x2
  (try simp (config := { maxSteps := 1000000 }) (disch := first | exact Nat.le_of_ble_eq_true rfl | omega) only [AXS, AXB, J.dst, reduceIte, Nat.reduceEqDiff, Nat.reduceAdd, Nat.reduceMul, Nat.reduceLT, Nat.reduceLeDiff]); rw [f18c5_eq]; (try simp (config := { maxSteps := 1000000 }) (disch := first | exact Nat.le_of_ble_eq_true rfl | omega) only [AXS, AXB, J.dst, reduceIte, Nat.reduceEqDiff, Nat.reduceAdd, Nat.reduceMul, Nat.reduceLT, Nat.reduceLeDiff])
  refine ⟨fun hh => ?_, fun hh => ?_⟩
  · (try simp (config := { maxSteps := 1000000 }) (disch := first | exact Nat.le_of_ble_eq_true rfl | omega) only [AXS, AXB, J.dst, reduceIte, Nat.reduceEqDiff, Nat.reduceAdd, Nat.reduceMul, Nat.reduceLT, Nat.reduceLeDiff]); rw [f18c6_eq]; (try simp (config := { maxSteps := 1000000 }) (disch := first | exact Nat.le_of_ble_eq_true rfl | omega) only [AXS, AXB, J.dst, reduceIte, Nat.reduceEqDiff, Nat.reduceAdd, Nat.reduceMul, Nat.reduceLT, Nat.reduceLeDiff, f18r4])
    exact hR _ x02
  have hbl' : bl = true := by simpa using hh
  obtain ⟨hL, hF⟩ := hbl hbl'
  clear hh hbl
  (try simp (config := { maxSteps := 1000000 }) (disch := first | exact Nat.le_of_ble_eq_true rfl | omega) only [AXS, AXB, J.dst, reduceIte, Nat.reduceEqDiff, Nat.reduceAdd, Nat.reduceMul, Nat.reduceLT, Nat.reduceLeDiff]); rw [f18c7_eq]; (try simp (config := { maxSteps := 1000000 }) (disch := first | exact Nat.le_of_ble_eq_true rfl | omega) only [AXS, AXB, J.dst, reduceIte, Nat.reduceEqDiff, Nat.reduceAdd, Nat.reduceMul, Nat.reduceLT, Nat.reduceLeDiff, f18r5])
  refine run_ok l _ (S.ext x02) hF (by omega) ?_
  intro ao co h3 O x3
  refine ⟨trivial, ?_⟩
  have x03 := x02.trans x3
  (try simp (config := { maxSteps := 1000000 }) (disch := first | exact Nat.le_of_ble_eq_true rfl | omega) only [AXS, AXB, J.dst, reduceIte, Nat.reduceEqDiff, Nat.reduceAdd, Nat.reduceMul, Nat.reduceLT, Nat.reduceLeDiff]); rw [f18c8_eq]; (try simp (config := { maxSteps := 1000000 }) (disch := first | exact Nat.le_of_ble_eq_true rfl | omega) only [AXS, AXB, J.dst, reduceIte, Nat.reduceEqDiff, Nat.reduceAdd, Nat.reduceMul, Nat.reduceLT, Nat.reduceLeDiff, f18r6])
  rw [f18c9_eq]
  refine loop_in (fun m σ h' => Ext h3 h' ∧ ∃ k : Nat, k + m = l.length ∧ σ = [(3, .slice ao (l.length + 1) co), (4, vi (k + 1 : Nat))]) l.length ⟨Ext.refl h3, 0, by omega, rfl⟩ ?_
  rintro m σ h4 ⟨x4, k, hk, rfl⟩ Q' hnx hex hrt _
  (try simp (config := { maxSteps := 1000000 }) (disch := first | exact Nat.le_of_ble_eq_true rfl | omega) only [AXS, AXB, J.dst, reduceIte, Nat.reduceEqDiff, Nat.reduceAdd, Nat.reduceMul, Nat.reduceLT, Nat.reduceLeDiff]); rw [f18c10_eq]; (try simp (config := { maxSteps := 1000000 }) (disch := first | exact Nat.le_of_ble_eq_true rfl | omega) only [AXS, AXB, J.dst, reduceIte, Nat.reduceEqDiff, Nat.reduceAdd, Nat.reduceMul, Nat.reduceLT, Nat.reduceLeDiff, f18r7]); rw [f18c11_eq]; (try simp (config := { maxSteps := 1000000 }) (disch := first | exact Nat.le_of_ble_eq_true rfl | omega) only [AXS, AXB, J.dst, reduceIte, Nat.reduceEqDiff, Nat.reduceAdd, Nat.reduceMul, Nat.reduceLT, Nat.reduceLeDiff])
  refine ⟨fun hh => ?_, fun hh => ?_⟩
  · have hkl : k < l.length := by have := of_decide_eq_true hh; omega
    obtain ⟨ba, oa, va, e0, hrowa, hpa⟩ := (O.ext x4).elem (allP_at (show k ≤ l.length by omega))
    obtain ⟨bb, obb, vb, e1, hrowb, hpb⟩ := (O.ext x4).elem (allP_at (show k + 1 ≤ l.length by omega))
    rw [e0] at e1
    cases e1
    have lat := runLater hkl
    try simp (config := { maxSteps := 1000000 }) (disch := first | exact Nat.le_of_ble_eq_true rfl | omega) only [AXS, AXB, J.dst, reduceIte, Nat.reduceEqDiff, Nat.reduceAdd, Nat.reduceMul, Nat.reduceLT, Nat.reduceLeDiff]
    rw [f18c12_eq, f18c13_eq]
    refine drt_lt ?_
    simp only [f18r8, wT_one, wT_alt, wT_nil]
    have hw : IntKind.i64.wrap (((k + 1 : Nat) : Int) - 1) = (k : Int) := by rw [i64_wrap (by omega) (by omega)]; omega
    simp (config := { maxSteps := 1000000 }) (disch := first | exact Nat.le_of_ble_eq_true rfl | omega) only [AXS, AXB, J.dst, reduceIte, Nat.reduceEqDiff, Nat.reduceAdd, Nat.reduceMul, Nat.reduceLT, Nat.reduceLeDiff, e0, hw, row_pr hrowa, row_pr hrowb]
    have hba := hrowa.lt (by rw [ePr_len]; omega)
    have hsa := hpa.s
    have hsb := hpb.s
    have hra := hpa.rn
    have hrb := hpb.rn
    have hda := hpa.dn
    have hdb := hpb.dn
    have hgr := (runs_good hF k (by omega)).sz.records
    have hgd := (runs_good hF k (by omega)).sz.done
    generalize runP (l.take k) = pa at *
    generalize runP (l.take (k + 1)) = pb at *
    obtain ⟨l1, l2, l3, l4, l5, l6⟩ := lat
    have z1 : decide (pb.s.closed < pa.s.closed) = false := by simp; omega
    have z2 : decide (pb.s.low < pa.s.low) = false := by simp; omega
    have z3 : decide (pb.s.epoch < pa.s.epoch) = false := by simp; omega
    have z5 : decide ((pb.records.length : Int) < pa.records.length) = false := by have := prefix_le l5; simp; omega
    have z6 : decide ((pb.done.length : Int) < pa.done.length) = false := by have := prefix_le l6; simp; omega
    have app : ∀ h7 b5 b6, Ext h4 h7 → Blk h7 b5 116 (ePr va) → Blk h7 b6 116 (ePr vb) →
        wC Try.prog f18c14 (X.inBlock 1 (X.then (fun σ h => wC Try.prog f18c35 Q' σ h) Q')) [(3, .slice (some ⟨ba, oa, none⟩) (l.length + 1) co), (4, vi (k + 1 : Nat)), (5, ptr b5 0), (6, ptr b6 0)] h7 := by
      intro h7 b5 b6 x7 B5 B6
      rw [f18c14_eq]
      simp (config := { maxSteps := 1000000 }) (disch := first | exact Nat.le_of_ble_eq_true rfl | omega) only [AXJ, AXS, AXB, J.dst, reduceIte, Nat.reduceEqDiff, Nat.reduceAdd, Nat.reduceMul, Nat.reduceLT, Nat.reduceLeDiff, f18r9, B5.cel, B6.cel, ePr, hsa, hsb, z1, z2]
      simp (config := { maxSteps := 1000000 }) (disch := first | exact Nat.le_of_ble_eq_true rfl | omega) only [AXJ, AXS, AXB, J.dst, reduceIte, Nat.reduceEqDiff, Nat.reduceAdd, Nat.reduceMul, Nat.reduceLT, Nat.reduceLeDiff, f18r9a, B5.cel, B6.cel, ePr, hsa, hsb, z3]
      simp (config := { maxSteps := 1000000 }) (disch := first | exact Nat.le_of_ble_eq_true rfl | omega) only [AXJ, AXS, AXB, J.dst, reduceIte, Nat.reduceEqDiff, Nat.reduceAdd, Nat.reduceMul, Nat.reduceLT, Nat.reduceLeDiff, f18r9b, B5.rd, B6.rd, ePr, hsa, hsb]
      refine rless_ok pb.s.floor pa.s.floor _ ?_
      intro h8 x8
      refine ⟨trivial, ?_⟩
      have B5 := B5.ext x8
      have B6 := B6.ext x8
      have x48 := x7.trans x8
      simp (config := { maxSteps := 1000000 }) (disch := first | exact Nat.le_of_ble_eq_true rfl | omega) only [AXJ, AXS, AXB, J.dst, reduceIte, Nat.reduceEqDiff, Nat.reduceAdd, Nat.reduceMul, Nat.reduceLT, Nat.reduceLeDiff, l4]
      simp (config := { maxSteps := 1000000 }) (disch := first | exact Nat.le_of_ble_eq_true rfl | omega) only [AXJ, AXS, AXB, J.dst, reduceIte, Nat.reduceEqDiff, Nat.reduceAdd, Nat.reduceMul, Nat.reduceLT, Nat.reduceLeDiff, f18r9c, B5.cel, B6.cel, ePr, hra, hrb, z5]
      simp (config := { maxSteps := 1000000 }) (disch := first | exact Nat.le_of_ble_eq_true rfl | omega) only [AXJ, AXS, AXB, J.dst, reduceIte, Nat.reduceEqDiff, Nat.reduceAdd, Nat.reduceMul, Nat.reduceLT, Nat.reduceLeDiff, f18r9d, B5.cel, B6.cel, ePr, hda, hdb, z6]
      (try simp (config := { maxSteps := 1000000 }) (disch := first | exact Nat.le_of_ble_eq_true rfl | omega) only [AXS, AXB, J.dst, reduceIte, Nat.reduceEqDiff, Nat.reduceAdd, Nat.reduceMul, Nat.reduceLT, Nat.reduceLeDiff]); rw [f18c15_eq]; (try simp (config := { maxSteps := 1000000 }) (disch := first | exact Nat.le_of_ble_eq_true rfl | omega) only [AXS, AXB, J.dst, reduceIte, Nat.reduceEqDiff, Nat.reduceAdd, Nat.reduceMul, Nat.reduceLT, Nat.reduceLeDiff]); rw [f18c17_eq]; (try simp (config := { maxSteps := 1000000 }) (disch := first | exact Nat.le_of_ble_eq_true rfl | omega) only [AXS, AXB, J.dst, reduceIte, Nat.reduceEqDiff, Nat.reduceAdd, Nat.reduceMul, Nat.reduceLT, Nat.reduceLeDiff, f18r11])
      rw [f18c18_eq]
      have hrl := prefix_le l5
      have hdl := prefix_le l6
      have hra' := hpa.records.ext x48
      have hrb' := hpb.records.ext x48
      have hda' := hpa.done.ext x48
      have hdb' := hpb.done.ext x48
      refine loop_in (fun m σ h' => h' = h8 ∧ ∃ j : Nat, j + m = pa.records.length ∧ σ = [(3, .slice (some ⟨ba, oa, none⟩) (l.length + 1) co), (4, vi (k + 1 : Nat)), (5, ptr b5 0), (6, ptr b6 0), (7, vi j)]) pa.records.length ⟨rfl, 0, by omega, rfl⟩ ?_
      rintro m2 σ h' ⟨rfl, j, hj, rfl⟩ Q2 hnx2 hex2 hrt2 _
      (try simp (config := { maxSteps := 1000000 }) (disch := first | exact Nat.le_of_ble_eq_true rfl | omega) only [AXS, AXB, J.dst, reduceIte, Nat.reduceEqDiff, Nat.reduceAdd, Nat.reduceMul, Nat.reduceLT, Nat.reduceLeDiff]); rw [f18c19_eq]; (try simp (config := { maxSteps := 1000000 }) (disch := first | exact Nat.le_of_ble_eq_true rfl | omega) only [AXS, AXB, J.dst, reduceIte, Nat.reduceEqDiff, Nat.reduceAdd, Nat.reduceMul, Nat.reduceLT, Nat.reduceLeDiff, f18r12, B5.cel, ePr, hra]); rw [f18c20_eq]; (try simp (config := { maxSteps := 1000000 }) (disch := first | exact Nat.le_of_ble_eq_true rfl | omega) only [AXS, AXB, J.dst, reduceIte, Nat.reduceEqDiff, Nat.reduceAdd, Nat.reduceMul, Nat.reduceLT, Nat.reduceLeDiff, B5.cel, ePr, hra])
      refine ⟨fun hh => ?_, fun hh => ?_⟩
      · have hjl : j < pa.records.length := by have := of_decide_eq_true hh; omega
        obtain ⟨x, hx⟩ := get_ex hjl
        obtain ⟨c1, o1, k1, _, hrow1⟩ := hra'.elem eOut_len hx
        obtain ⟨c2, o2, k2, _, hrow2⟩ := hrb'.elem eOut_len (prefix_at l5 hx)
        have q1 := hrow1.lt (by rw [eOut_len]; omega)
        have q2 := hrow2.lt (by rw [eOut_len]; omega)
        have q5 := B5.lt
        have q6 := B6.lt
        try simp (config := { maxSteps := 1000000 }) (disch := first | exact Nat.le_of_ble_eq_true rfl | omega) only [AXS, AXB, J.dst, reduceIte, Nat.reduceEqDiff, Nat.reduceAdd, Nat.reduceMul, Nat.reduceLT, Nat.reduceLeDiff]
        rw [f18c21_eq, f18c22_eq]
        refine drw_lt ?_
        simp (config := { maxSteps := 1000000 }) (disch := first | exact Nat.le_of_ble_eq_true rfl | omega) only [AXS, AXB, J.dst, reduceIte, Nat.reduceEqDiff, Nat.reduceAdd, Nat.reduceMul, Nat.reduceLT, Nat.reduceLeDiff, f18r13, B5.cel, B6.cel, ePr, hra, hrb, k1, k2, (row_out hrow1).1, (row_out hrow2).1, eqA_outS]
        refine ⟨q6, by omega, by omega, q2, q5, by omega, by omega, q1, ?_⟩
        (try simp (config := { maxSteps := 1000000 }) (disch := first | exact Nat.le_of_ble_eq_true rfl | omega) only [AXS, AXB, J.dst, reduceIte, Nat.reduceEqDiff, Nat.reduceAdd, Nat.reduceMul, Nat.reduceLT, Nat.reduceLeDiff]); rw [f18c23_eq]; (try simp (config := { maxSteps := 1000000 }) (disch := first | exact Nat.le_of_ble_eq_true rfl | omega) only [AXS, AXB, J.dst, reduceIte, Nat.reduceEqDiff, Nat.reduceAdd, Nat.reduceMul, Nat.reduceLT, Nat.reduceLeDiff])
        (try simp (config := { maxSteps := 1000000 }) (disch := first | exact Nat.le_of_ble_eq_true rfl | omega) only [AXS, AXB, J.dst, reduceIte, Nat.reduceEqDiff, Nat.reduceAdd, Nat.reduceMul, Nat.reduceLT, Nat.reduceLeDiff]); rw [f18c25_eq]; (try simp (config := { maxSteps := 1000000 }) (disch := first | exact Nat.le_of_ble_eq_true rfl | omega) only [AXS, AXB, J.dst, reduceIte, Nat.reduceEqDiff, Nat.reduceAdd, Nat.reduceMul, Nat.reduceLT, Nat.reduceLeDiff, f18r15])
        rw [i64_wrap (by omega) (by omega)]
        exact hnx2 (m2 - 1) _ _ (by omega) ⟨rfl, j + 1, by omega, rfl⟩
      · refine hex2 _ _ ?_
        clear hh hj hnx2 hex2
        (try simp (config := { maxSteps := 1000000 }) (disch := first | exact Nat.le_of_ble_eq_true rfl | omega) only [AXS, AXB, J.dst, reduceIte, Nat.reduceEqDiff, Nat.reduceAdd, Nat.reduceMul, Nat.reduceLT, Nat.reduceLeDiff]); rw [f18c26_eq]; (try simp (config := { maxSteps := 1000000 }) (disch := first | exact Nat.le_of_ble_eq_true rfl | omega) only [AXS, AXB, J.dst, reduceIte, Nat.reduceEqDiff, Nat.reduceAdd, Nat.reduceMul, Nat.reduceLT, Nat.reduceLeDiff, f18r16])
        rw [f18c27_eq]
        refine loop_in1 (fun m σ h'' => h'' = h' ∧ ∃ j : Nat, j + m = pa.done.length ∧ σ = [(3, .slice (some ⟨ba, oa, none⟩) (l.length + 1) co), (4, vi (k + 1 : Nat)), (5, ptr b5 0), (6, ptr b6 0), (8, vi j)]) pa.done.length ⟨rfl, 0, by omega, rfl⟩ ?_
        rintro m3 σ h'' ⟨rfl, j, hj, rfl⟩ Q3 hnx3 hex3 hrt3 _
        (try simp (config := { maxSteps := 1000000 }) (disch := first | exact Nat.le_of_ble_eq_true rfl | omega) only [AXS, AXB, J.dst, reduceIte, Nat.reduceEqDiff, Nat.reduceAdd, Nat.reduceMul, Nat.reduceLT, Nat.reduceLeDiff]); rw [f18c28_eq]; (try simp (config := { maxSteps := 1000000 }) (disch := first | exact Nat.le_of_ble_eq_true rfl | omega) only [AXS, AXB, J.dst, reduceIte, Nat.reduceEqDiff, Nat.reduceAdd, Nat.reduceMul, Nat.reduceLT, Nat.reduceLeDiff, f18r17, B5.cel, ePr, hda]); rw [f18c29_eq]; (try simp (config := { maxSteps := 1000000 }) (disch := first | exact Nat.le_of_ble_eq_true rfl | omega) only [AXS, AXB, J.dst, reduceIte, Nat.reduceEqDiff, Nat.reduceAdd, Nat.reduceMul, Nat.reduceLT, Nat.reduceLeDiff, B5.cel, ePr, hda])
        refine ⟨fun hh => ?_, fun hh => ?_⟩
        · have hjl : j < pa.done.length := by have := of_decide_eq_true hh; omega
          obtain ⟨x, hx⟩ := get_ex hjl
          obtain ⟨c1, o1, k1, _, hrow1⟩ := hda'.elem eOut_len hx
          obtain ⟨c2, o2, k2, _, hrow2⟩ := hdb'.elem eOut_len (prefix_at l6 hx)
          have q1 := hrow1.lt (by rw [eOut_len]; omega)
          have q2 := hrow2.lt (by rw [eOut_len]; omega)
          have q5 := B5.lt
          have q6 := B6.lt
          try simp (config := { maxSteps := 1000000 }) (disch := first | exact Nat.le_of_ble_eq_true rfl | omega) only [AXS, AXB, J.dst, reduceIte, Nat.reduceEqDiff, Nat.reduceAdd, Nat.reduceMul, Nat.reduceLT, Nat.reduceLeDiff]
          rw [f18c30_eq, f18c31_eq]
          refine drw_lt ?_
          simp (config := { maxSteps := 1000000 }) (disch := first | exact Nat.le_of_ble_eq_true rfl | omega) only [AXS, AXB, J.dst, reduceIte, Nat.reduceEqDiff, Nat.reduceAdd, Nat.reduceMul, Nat.reduceLT, Nat.reduceLeDiff, f18r18, B5.cel, B6.cel, ePr, hda, hdb, k1, k2, (row_out hrow1).1, (row_out hrow2).1, eqA_outS]
          refine ⟨q6, by omega, by omega, q2, q5, by omega, by omega, q1, ?_⟩
          (try simp (config := { maxSteps := 1000000 }) (disch := first | exact Nat.le_of_ble_eq_true rfl | omega) only [AXS, AXB, J.dst, reduceIte, Nat.reduceEqDiff, Nat.reduceAdd, Nat.reduceMul, Nat.reduceLT, Nat.reduceLeDiff]); rw [f18c32_eq]; (try simp (config := { maxSteps := 1000000 }) (disch := first | exact Nat.le_of_ble_eq_true rfl | omega) only [AXS, AXB, J.dst, reduceIte, Nat.reduceEqDiff, Nat.reduceAdd, Nat.reduceMul, Nat.reduceLT, Nat.reduceLeDiff])
          (try simp (config := { maxSteps := 1000000 }) (disch := first | exact Nat.le_of_ble_eq_true rfl | omega) only [AXS, AXB, J.dst, reduceIte, Nat.reduceEqDiff, Nat.reduceAdd, Nat.reduceMul, Nat.reduceLT, Nat.reduceLeDiff]); rw [f18c34_eq]; (try simp (config := { maxSteps := 1000000 }) (disch := first | exact Nat.le_of_ble_eq_true rfl | omega) only [AXS, AXB, J.dst, reduceIte, Nat.reduceEqDiff, Nat.reduceAdd, Nat.reduceMul, Nat.reduceLT, Nat.reduceLeDiff, f18r20])
          rw [i64_wrap (by omega) (by omega)]
          exact hnx3 (m3 - 1) _ _ (by omega) ⟨rfl, j + 1, by omega, rfl⟩
        · refine hex3 _ _ ?_
          (try simp (config := { maxSteps := 1000000 }) (disch := first | exact Nat.le_of_ble_eq_true rfl | omega) only [AXS, AXB, J.dst, reduceIte, Nat.reduceEqDiff, Nat.reduceAdd, Nat.reduceMul, Nat.reduceLT, Nat.reduceLeDiff]); rw [f18c35_eq]; (try simp (config := { maxSteps := 1000000 }) (disch := first | exact Nat.le_of_ble_eq_true rfl | omega) only [AXS, AXB, J.dst, reduceIte, Nat.reduceEqDiff, Nat.reduceAdd, Nat.reduceMul, Nat.reduceLT, Nat.reduceLeDiff, f18r21])
          rw [i64_wrap (by omega) (by omega)]
          exact hnx (m - 1) _ _ (by omega) ⟨x4.trans x48, k + 1, by omega, by rw [e0]; rfl⟩
    refine ⟨by omega, by omega, hba, by omega, by omega, hba, ?_, ?_⟩
    · refine wL_newD (Nat.le_refl _) ?_; rintro b5 h5 x5 s5 hb5 B5
      try simp (config := { maxSteps := 1000000 }) (disch := first | exact Nat.le_of_ble_eq_true rfl | omega) only [AXS, AXB, J.dst, reduceIte, Nat.reduceEqDiff, Nat.reduceAdd, Nat.reduceMul, Nat.reduceLT, Nat.reduceLeDiff]
      refine wL_newD x5.size ?_; rintro b6 h6 x6 s6 hb6 B6
      try simp (config := { maxSteps := 1000000 }) (disch := first | exact Nat.le_of_ble_eq_true rfl | omega) only [AXS, AXB, J.dst, reduceIte, Nat.reduceEqDiff, Nat.reduceAdd, Nat.reduceMul, Nat.reduceLT, Nat.reduceLeDiff]
      refine wL_stD rfl rfl (by omega) rfl (B5.ext x6) (by decide) (ePr_one va) ?_
      rintro h7 u7 (C5 : Blk _ _ _ (ePr va))
      try simp (config := { maxSteps := 1000000 }) (disch := first | exact Nat.le_of_ble_eq_true rfl | omega) only [AXS, AXB, J.dst, reduceIte, Nat.reduceEqDiff, Nat.reduceAdd, Nat.reduceMul, Nat.reduceLT, Nat.reduceLeDiff]
      refine wL_stD rfl rfl (by omega) rfl (u7.blk B6 (by omega)) (by decide) (ePr_one vb) ?_
      rintro h8 u8 (C6 : Blk _ _ _ (ePr vb))
      try simp (config := { maxSteps := 1000000 }) (disch := first | exact Nat.le_of_ble_eq_true rfl | omega) only [AXS, AXB, J.dst, reduceIte, Nat.reduceEqDiff, Nat.reduceAdd, Nat.reduceMul, Nat.reduceLT, Nat.reduceLeDiff]
      exact app h8 b5 b6 (u8.ext (u7.ext (x5.trans x6) (by omega)) (by omega)) (u8.blk C5 (by omega)) C6
    · refine wL_newD (Nat.le_refl _) ?_; rintro b6 h5 x5 s5 hb6 B6
      try simp (config := { maxSteps := 1000000 }) (disch := first | exact Nat.le_of_ble_eq_true rfl | omega) only [AXS, AXB, J.dst, reduceIte, Nat.reduceEqDiff, Nat.reduceAdd, Nat.reduceMul, Nat.reduceLT, Nat.reduceLeDiff]
      refine wL_newD x5.size ?_; rintro b5 h6 x6 s6 hb5 B5
      try simp (config := { maxSteps := 1000000 }) (disch := first | exact Nat.le_of_ble_eq_true rfl | omega) only [AXS, AXB, J.dst, reduceIte, Nat.reduceEqDiff, Nat.reduceAdd, Nat.reduceMul, Nat.reduceLT, Nat.reduceLeDiff]
      refine wL_stD rfl rfl (by omega) rfl B5 (by decide) (ePr_one va) ?_
      rintro h7 u7 (C5 : Blk _ _ _ (ePr va))
      try simp (config := { maxSteps := 1000000 }) (disch := first | exact Nat.le_of_ble_eq_true rfl | omega) only [AXS, AXB, J.dst, reduceIte, Nat.reduceEqDiff, Nat.reduceAdd, Nat.reduceMul, Nat.reduceLT, Nat.reduceLeDiff]
      refine wL_stD rfl rfl (by omega) rfl (u7.blk (B6.ext x6) (by omega)) (by decide) (ePr_one vb) ?_
      rintro h8 u8 (C6 : Blk _ _ _ (ePr vb))
      try simp (config := { maxSteps := 1000000 }) (disch := first | exact Nat.le_of_ble_eq_true rfl | omega) only [AXS, AXB, J.dst, reduceIte, Nat.reduceEqDiff, Nat.reduceAdd, Nat.reduceMul, Nat.reduceLT, Nat.reduceLeDiff]
      exact app h8 b5 b6 (u8.ext (u7.ext (x5.trans x6) (by omega)) (by omega)) (u8.blk C5 (by omega)) C6
  · refine hex _ _ ?_
    (try simp (config := { maxSteps := 1000000 }) (disch := first | exact Nat.le_of_ble_eq_true rfl | omega) only [AXS, AXB, J.dst, reduceIte, Nat.reduceEqDiff, Nat.reduceAdd, Nat.reduceMul, Nat.reduceLT, Nat.reduceLeDiff]); rw [f18c36_eq]; (try simp (config := { maxSteps := 1000000 }) (disch := first | exact Nat.le_of_ble_eq_true rfl | omega) only [AXS, AXB, J.dst, reduceIte, Nat.reduceEqDiff, Nat.reduceAdd, Nat.reduceMul, Nat.reduceLT, Nat.reduceLeDiff, f18r22])
    exact hR _ (x03.trans x4)
end Go.Proofs.Ytefghfgmkndikaa
