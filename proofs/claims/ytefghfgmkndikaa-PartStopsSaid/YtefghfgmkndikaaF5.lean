/-
  The walks and plain laws under the laws of one package: texts of mine put together, what they do not use left out (wip/tools/prune.py).
-/
import Derived.Test.YtefghfgmkndikaaF4
set_option linter.unusedSimpArgs false
set_option linter.unusedVariables false
namespace Go.AX
open Go
/-- Parts in a row of the call's own, their lists apart from it. -/
def OwnP (lo : Nat) (h : Heap) (a : Option Addr) (n c : Nat) (ps : List Prt) : Prop :=
  ∃ vs, Own lo h 116 9 a n c (vs.flatMap ePr) ∧ n = ps.length ∧ All2 (PrR (fun b => lo ≤ b ∧ b < h.size ∧ some b ≠ ob a) h) vs ps
theorem PrR.to {B B' : Nat → Prop} {h h' : Heap} {v : PrV} {p : Prt} (r : PrR B h v p) (H : ∀ b, B b → B' b ∧ h'[b]? = h[b]?) : PrR B' h' v p :=
  ⟨r.s, r.cn, r.cc, r.rn, r.dn, (let ⟨vs, h1, h2⟩ := r.cells; ⟨vs, h1.imp fun _ _ r => r.to H, h2.to H⟩), r.records.to H, r.done.to H⟩
theorem OwnP.ext {lo : Nat} {h h' : Heap} {a : Option Addr} {n c : Nat} {ps : List Prt} (O : OwnP lo h a n c ps) (x : Ext h h') : OwnP lo h' a n c ps := by
  obtain ⟨vs, h1, h2, h3⟩ := O
  exact ⟨vs, h1.ext x, h2, h3.imp fun _ _ r => r.to fun b hb => ⟨⟨hb.1, Nat.lt_of_lt_of_le hb.2.1 x.size, hb.2.2⟩, x.at_ b hb.2.1⟩⟩
theorem OwnP.ob {lo : Nat} {h : Heap} {a : Option Addr} {n c : Nat} {ps : List Prt} (O : OwnP lo h a n c ps) : ∀ k, ob a = some k → lo ≤ k ∧ k < h.size := by
  obtain ⟨vs, h1, _⟩ := O
  exact h1.ob
theorem OwnP.elem {lo : Nat} {h : Heap} {a : Option Addr} {n c : Nat} {ps : List Prt} (O : OwnP lo h a n c ps) {i : Nat} {p : Prt} (hi : ps[i]? = some p) : ∃ b o v, a = some ⟨b, o, none⟩ ∧ Row h b (o + i * 9) (ePr v) ∧ PrR (fun b => lo ≤ b ∧ b < h.size) h v p := by
  obtain ⟨vs, h1, h2, h3⟩ := O
  obtain ⟨v, hv, hr⟩ := h3.get hi
  obtain ⟨b, o, e1, e2, e3⟩ := (SlF.of_own h1 (by rw [h2, h3.length])).elem ePr_len hv
  exact ⟨b, o, v, e1, e3, hr.imp fun b hb => ⟨hb.1, hb.2.1⟩⟩
theorem row_pr {h : Heap} {b o : Nat} {v : PrV} (r : Row h b o (ePr v)) : rd h b o 9 = some (ePr v) := r.rd0 9 (Nat.le_refl _)
theorem OwnP.push {lo : Nat} {h h' : Heap} {a a' : Option Addr} {n c' : Nat} {ps : List Prt} {v : PrV} {x : Prt} {vs : List PrV} (h2 : n = ps.length) (h3 : All2 (PrR (fun b => lo ≤ b ∧ b < h.size ∧ some b ≠ AX.ob a) h) vs ps)
    (r : PrR (fun b => lo ≤ b ∧ b < h.size ∧ some b ≠ AX.ob a) h v x) (O : Own lo h' 116 9 a' (n + 1) c' (vs.flatMap ePr ++ ePr v)) (G : Gr (AX.ob a) h h') (A : AX.ob a' = AX.ob a ∨ ∃ k, AX.ob a' = some k ∧ h.size ≤ k) : OwnP lo h' a' (n + 1) c' (ps ++ [x]) := by
  have hto : ∀ b, (lo ≤ b ∧ b < h.size ∧ some b ≠ AX.ob a) → (lo ≤ b ∧ b < h'.size ∧ some b ≠ AX.ob a') ∧ h'[b]? = h[b]? := by
    rintro b ⟨b1, b2, b3⟩
    refine ⟨⟨b1, Nat.lt_of_lt_of_le b2 G.size, ?_⟩, G.at_ b b2 b3⟩
    rcases A with e | ⟨k, e, hk⟩
    · rw [e]; exact b3
    · rw [e]; intro e'; cases e'; omega
  refine ⟨vs ++ [v], ?_, by simp [h2], (h3.imp fun _ _ r => r.to hto).append (.cons (r.to hto) .nil)⟩
  rw [List.flatMap_append]
  simpa using O
end Go.AX
namespace Go.Proofs.Ytefghfgmkndikaa
open Go Go.AX
theorem slT130 : slT Try.prog 130 116 9 120 = true := by kernel_rfl
/-- The states of a run. -/
def allP (l : List Cmd) (k : Nat) : List Prt := (List.range (k + 1)).map fun i => runP (l.take i)
theorem allP_at {l : List Cmd} {k i : Nat} (h : i ≤ k) : (allP l k)[i]? = some (runP (l.take i)) := by simp [allP, List.getElem?_map, List.getElem?_range (show i < k + 1 by omega)]
theorem allP_len (l : List Cmd) (k : Nat) : (allP l k).length = k + 1 := by simp [allP]
theorem allP_succ (l : List Cmd) (k : Nat) : allP l (k + 1) = allP l k ++ [runP (l.take (k + 1))] := by unfold allP; rw [List.range_succ, List.map_append]; rfl
theorem run_succ {l : List Cmd} {k : Nat} {c : Cmd} (h : l[k]? = some c) : runP (l.take (k + 1)) = stepP (runP (l.take k)) c := by
  unfold runP; rw [List.take_add_one, h]; simp [List.foldl_append]
theorem take_lt {l : List Cmd} (h : ∀ c ∈ l, Lt100 c) (k : Nat) : ∀ c ∈ l.take k, Lt100 c := fun c hc => h c (List.mem_of_mem_take hc)
theorem runs_good {l : List Cmd} (h : ∀ c ∈ l, Lt100 c) (k : Nat) (hk : k ≤ l.length) : GdP (100 * k) (runP (l.take k)) := by
  have := runG (l.take k) emptyG (take_lt h k)
  rw [List.length_take, Nat.min_eq_left hk, Nat.zero_add] at this
  exact this
set_option maxHeartbeats 1000000 in
theorem run_ok (l : List Cmd) (h : Heap) {B : Nat → Prop} {a : Option Addr} {n : Nat} (S : SlM B h a l) (F : ∀ c ∈ l, Lt100 c) (hl : l.length ≤ 1000) {R : Value → Heap → Prop}
    (hR : ∀ a' c' h', OwnP h.size h' a' (l.length + 1) c' (allP l l.length) → Ext h h' → R (.slice a' (l.length + 1) c') h') : CallsH Try.prog 65 [.slice a l.length n] h R := by
  have hbig : big = 1000000 := rfl
  refine f65ok (by simp) ?_
  (try simp (config := { maxSteps := 1000000 }) (disch := first | exact Nat.le_of_ble_eq_true rfl | omega) only [AXS, AXB, J.dst, reduceIte, Nat.reduceEqDiff, Nat.reduceAdd, Nat.reduceMul, Nat.reduceLT, Nat.reduceLeDiff]); rw [f65c0_eq]; (try simp (config := { maxSteps := 1000000 }) (disch := first | exact Nat.le_of_ble_eq_true rfl | omega) only [AXS, AXB, J.dst, reduceIte, Nat.reduceEqDiff, Nat.reduceAdd, Nat.reduceMul, Nat.reduceLT, Nat.reduceLeDiff, f65r0]); rw [f65c1_eq]; (try simp (config := { maxSteps := 1000000 }) (disch := first | exact Nat.le_of_ble_eq_true rfl | omega) only [AXS, AXB, J.dst, reduceIte, Nat.reduceEqDiff, Nat.reduceAdd, Nat.reduceMul, Nat.reduceLT, Nat.reduceLeDiff, f65r1])
  refine wL_bslN rfl ?_; rintro b1 h1 x1 s1 hb1 (B1 : Blk _ _ _ (ePr ⟨⟨0, 0, ⟨0, 0⟩, 0, 0⟩, none, 0, 0, none, 0, 0, none, 0, 0⟩))
  (try simp (config := { maxSteps := 1000000 }) (disch := first | exact Nat.le_of_ble_eq_true rfl | omega) only [AXS, AXB, J.dst, reduceIte, Nat.reduceEqDiff, Nat.reduceAdd, Nat.reduceMul, Nat.reduceLT, Nat.reduceLeDiff]); rw [f65c2_eq]; (try simp (config := { maxSteps := 1000000 }) (disch := first | exact Nat.le_of_ble_eq_true rfl | omega) only [AXS, AXB, J.dst, reduceIte, Nat.reduceEqDiff, Nat.reduceAdd, Nat.reduceMul, Nat.reduceLT, Nat.reduceLeDiff, f65r2])
  have O1 : OwnP h.size h1 (some ⟨b1, 0, none⟩) 1 1 (allP l 0) := by
    refine ⟨[⟨⟨0, 0, ⟨0, 0⟩, 0, 0⟩, none, 0, 0, none, 0, 0, none, 0, 0⟩], Own.of_blk (by omega) B1 (by simp [ePr_len]) (Nat.le_refl _) (by decide) (by simp [ePr]), rfl, .cons ⟨rfl, rfl, Nat.le_refl _, rfl, rfl, ⟨[], .nil, .nil⟩, .nil, .nil⟩ .nil⟩
  rw [f65c3_eq]
  refine loop_in (fun m σ h' => Ext h h' ∧ ∃ (k c' : Nat) (a' : Option Addr), k + m = l.length ∧ OwnP h.size h' a' (k + 1) c' (allP l k) ∧ σ = [(0, .slice a l.length n), (3, .slice a' (k + 1 : Nat) c'), (4, vi k)]) l.length
    ⟨x1, 0, 1, _, by omega, O1, rfl⟩ ?_
  rintro m σ h2 ⟨x2, k, c', a', hk, O, rfl⟩ Q' hnx hex hrt _
  (try simp (config := { maxSteps := 1000000 }) (disch := first | exact Nat.le_of_ble_eq_true rfl | omega) only [AXS, AXB, J.dst, reduceIte, Nat.reduceEqDiff, Nat.reduceAdd, Nat.reduceMul, Nat.reduceLT, Nat.reduceLeDiff]); rw [f65c4_eq]; (try simp (config := { maxSteps := 1000000 }) (disch := first | exact Nat.le_of_ble_eq_true rfl | omega) only [AXS, AXB, J.dst, reduceIte, Nat.reduceEqDiff, Nat.reduceAdd, Nat.reduceMul, Nat.reduceLT, Nat.reduceLeDiff, f65r3]); rw [f65c5_eq]; (try simp (config := { maxSteps := 1000000 }) (disch := first | exact Nat.le_of_ble_eq_true rfl | omega) only [AXS, AXB, J.dst, reduceIte, Nat.reduceEqDiff, Nat.reduceAdd, Nat.reduceMul, Nat.reduceLT, Nat.reduceLeDiff])
  refine ⟨fun hh => ?_, fun hh => ?_⟩
  · have hkl : k < l.length := by have := of_decide_eq_true hh; omega
    obtain ⟨c, hx⟩ := get_ex hkl
    obtain ⟨b', o, cv, rfl, _, hrow, hcr⟩ := (S.ext x2).elem hx
    obtain ⟨b3, o3, pv, rfl, hrow3, hpr⟩ := O.elem (allP_at (Nat.le_refl k))
    try simp (config := { maxSteps := 1000000 }) (disch := first | exact Nat.le_of_ble_eq_true rfl | omega) only [AXS, AXB, J.dst, reduceIte, Nat.reduceEqDiff, Nat.reduceAdd, Nat.reduceMul, Nat.reduceLT, Nat.reduceLeDiff]
    rw [f65c6_eq]
    have hw : IntKind.i64.wrap (((k + 1 : Nat) : Int) - 1) = (k : Int) := by rw [i64_wrap (by omega) (by omega)]; omega
    (try simp (config := { maxSteps := 1000000 }) (disch := first | exact Nat.le_of_ble_eq_true rfl | omega) only [AXS, AXB, J.dst, reduceIte, Nat.reduceEqDiff, Nat.reduceAdd, Nat.reduceMul, Nat.reduceLT, Nat.reduceLeDiff]); rw [f65c7_eq]; (try simp (config := { maxSteps := 1000000 }) (disch := first | exact Nat.le_of_ble_eq_true rfl | omega) only [AXS, AXB, J.dst, reduceIte, Nat.reduceEqDiff, Nat.reduceAdd, Nat.reduceMul, Nat.reduceLT, Nat.reduceLeDiff, f65r4, hw, row_pr hrow3])
    refine ⟨by omega, by omega, ?_⟩
    refine wL_newN ?_; rintro b5 h3 x3 s3 hb5 B5
    try simp (config := { maxSteps := 1000000 }) (disch := first | exact Nat.le_of_ble_eq_true rfl | omega) only [AXS, AXB, J.dst, reduceIte, Nat.reduceEqDiff, Nat.reduceAdd, Nat.reduceMul, Nat.reduceLT, Nat.reduceLeDiff]
    refine wL_stN rfl rfl rfl B5 (by decide) (ePr_one pv) ?_
    rintro h4 u4 (B4 : Blk _ _ _ (ePr pv))
    have x24 := u4.ext x3 (by omega)
    have x4 := x2.trans x24
    have y4 := x24.size
    have hpr4 := hpr.ext x24
    have hcr4 := hcr.ext x24
    have hrow4 := hrow.ext x24
    have hg := runs_good F k (by omega)
    have app : ∀ hz b6 pv', Ext h4 hz → Blk hz b6 116 (ePr pv') → PrR (fun b => h4.size ≤ b ∧ b < hz.size) hz pv' (stepP (runP (l.take k)) c) →
        wC Try.prog f65c9 (X.inBlock 1 (X.then (fun σ h => wC Try.prog f65c10 Q' σ h) Q')) [(0, .slice (some ⟨b', o, none⟩) l.length n), (3, .slice (some ⟨b3, o3, none⟩) (k + 1 : Nat) c'), (4, vi k), (6, ptr b6 0)] hz := by
      intro hz b6 pv' xz B6 P6
      have xa := x4.trans xz
      have ya := xa.size
      have yz := xz.size
      have hO := O.ob
      obtain ⟨vs, h1', h2', h3'⟩ := O.ext (x24.trans xz)
      (try simp (config := { maxSteps := 1000000 }) (disch := first | exact Nat.le_of_ble_eq_true rfl | omega) only [AXS, AXB, J.dst, reduceIte, Nat.reduceEqDiff, Nat.reduceAdd, Nat.reduceMul, Nat.reduceLT, Nat.reduceLeDiff]); rw [f65c9_eq]; (try simp (config := { maxSteps := 1000000 }) (disch := first | exact Nat.le_of_ble_eq_true rfl | omega) only [AXS, AXB, J.dst, reduceIte, Nat.reduceEqDiff, Nat.reduceAdd, Nat.reduceMul, Nat.reduceLT, Nat.reduceLeDiff, f65r6, B6.rd, ePr])
      refine wL_bslN rfl ?_; rintro b7 h7 x7 s7 hb7 (B7 : Blk _ _ _ (ePr pv'))
      try simp (config := { maxSteps := 1000000 }) (disch := first | exact Nat.le_of_ble_eq_true rfl | omega) only [AXS, AXB, J.dst, reduceIte, Nat.reduceEqDiff, Nat.reduceAdd, Nat.reduceMul, Nat.reduceLT, Nat.reduceLeDiff]
      rw [wL_raw]
      refine raw_append slT130 rfl rfl rfl (h1'.ext x7) (news := ePr pv') (by rw [ePr_len]) (.inr ⟨b7, 0, rfl, B7.row⟩) (ePr_one _) (by unfold maxLen; omega) (by omega) (by have := x7.size; omega) ?_
      intro a8 c8 h8 O8 G8 A8
      refine ⟨trivial, ?_⟩
      have hb3 := hO b3 rfl
      have OP := OwnP.push (by rw [allP_len]) (h3'.imp fun _ _ r => r.to (B' := fun b => h.size ≤ b ∧ b < h7.size ∧ some b ≠ ob (some ⟨b3, o3, none⟩)) fun b hb => ⟨⟨hb.1, Nat.lt_of_lt_of_le hb.2.1 x7.size, hb.2.2⟩, x7.at_ b hb.2.1⟩)
        (P6.to (B' := fun b => h.size ≤ b ∧ b < h7.size ∧ some b ≠ ob (some ⟨b3, o3, none⟩)) fun b hb => ⟨⟨by omega, by omega, fun e => absurd (show b = b3 by simpa [AX.ob] using e) (by omega)⟩, x7.at_ b hb.2⟩) O8 G8 A8
      rw [← run_succ hx, ← allP_succ] at OP
      (try simp (config := { maxSteps := 1000000 }) (disch := first | exact Nat.le_of_ble_eq_true rfl | omega) only [AXS, AXB, J.dst, reduceIte, Nat.reduceEqDiff, Nat.reduceAdd, Nat.reduceMul, Nat.reduceLT, Nat.reduceLeDiff]); rw [f65c10_eq]; (try simp (config := { maxSteps := 1000000 }) (disch := first | exact Nat.le_of_ble_eq_true rfl | omega) only [AXS, AXB, J.dst, reduceIte, Nat.reduceEqDiff, Nat.reduceAdd, Nat.reduceMul, Nat.reduceLT, Nat.reduceLeDiff, f65r7])
      rw [i64_wrap (by omega) (by omega)]
      exact hnx (m - 1) _ _ (by omega) ⟨G8.ext (xa.trans x7) (fun j hj => by cases hj; exact hb3.1), k + 1, c8, a8, by omega, OP, rfl⟩
    have X := Ext.refl h4
    have hb5 := B4.lt
    have hb'l := hrow4.lt (by rw [eCm_len]; omega)
    have hL := F c (List.mem_of_getElem? hx)
    have hnw : 100 * k + (ownM (runP (l.take k)) c).writes.length ≤ 900000 := by have := hL.2; show 100 * k + c.writes.length ≤ _; omega
    have hsp : (ownM (runP (l.take k)) c).spans.length ≤ big := by have := hL.1; show c.spans.length ≤ _; omega
    try simp (config := { maxSteps := 1000000 }) (disch := first | exact Nat.le_of_ble_eq_true rfl | omega) only [AXS, AXB, J.dst, reduceIte, Nat.reduceEqDiff, Nat.reduceAdd, Nat.reduceMul, Nat.reduceLT, Nat.reduceLeDiff]
    rw [f65c8_eq]
    refine drt_lt ?_
    simp only [f65r5, wT_one, wT_alt, wT_nil]
    simp (config := { maxSteps := 1000000 }) (disch := first | exact Nat.le_of_ble_eq_true rfl | omega) only [AXS, AXB, J.dst, reduceIte, Nat.reduceEqDiff, Nat.reduceAdd, Nat.reduceMul, Nat.reduceLT, Nat.reduceLeDiff, B4.rd, ePr, row_cm hrow4]
    refine ⟨hb5, hb5, by omega, by omega, hb'l, ?_⟩
    all_goals try (with_reducible refine And.intro ?_ ?_)
    all_goals try (with_reducible refine And.intro ?_ ?_)
    all_goals try (with_reducible refine And.intro ?_ ?_)
    all_goals first
      | (refine own_okP pv _ cv c false _ hpr.s (hcr4.ext X) hg.e0 hg.e1 ?_; intro cv' hy C' ey; refine ⟨kp_ext X.size ey, ?_⟩; have zy := ey.size; (try replace B6 := B6.ext ey); (try replace B7 := B7.ext ey); replace X := X.trans ey; (try simp (config := { maxSteps := 1000000 }) (disch := first | exact Nat.le_of_ble_eq_true rfl | omega) only [AXS, AXB, J.dst, reduceIte, Nat.reduceEqDiff, Nat.reduceAdd, Nat.reduceMul, Nat.reduceLT, Nat.reduceLeDiff]))
      | (refine apply_ok (n := 100 * k) pv _ cv' (ownM (runP (l.take k)) c) _ (hpr4.ext X) C' hg.sz hnw hsp hg.e0 ?_; intro pv' rv hy O' K' ey; refine ⟨kp_ext X.size ey, ?_⟩; have zy := ey.size; have P' := O'.prr; (try replace B6 := B6.ext ey); (try replace B7 := B7.ext ey); replace X := X.trans ey; (try simp (config := { maxSteps := 1000000 }) (disch := first | exact Nat.le_of_ble_eq_true rfl | omega) only [AXS, AXB, J.dst, reduceIte, Nat.reduceEqDiff, Nat.reduceAdd, Nat.reduceMul, Nat.reduceLT, Nat.reduceLeDiff]))
      | (refine wL_newD (t := 116) X.size ?_; rintro b6 hy ey sy hb6 B6; have zy := ey.size; (try replace B7 := B7.ext ey); (try replace C' := C'.ext ey); (try replace P' := P'.ext ey); replace X := X.trans ey; (try simp (config := { maxSteps := 1000000 }) (disch := first | exact Nat.le_of_ble_eq_true rfl | omega) only [AXS, AXB, J.dst, reduceIte, Nat.reduceEqDiff, Nat.reduceAdd, Nat.reduceMul, Nat.reduceLT, Nat.reduceLeDiff]))
      | (refine wL_newD (t := 47) X.size ?_; rintro b7 hy ey sy hb7 B7; have zy := ey.size; (try replace B6 := B6.ext ey); (try replace C' := C'.ext ey); (try replace P' := P'.ext ey); replace X := X.trans ey; (try simp (config := { maxSteps := 1000000 }) (disch := first | exact Nat.le_of_ble_eq_true rfl | omega) only [AXS, AXB, J.dst, reduceIte, Nat.reduceEqDiff, Nat.reduceAdd, Nat.reduceMul, Nat.reduceLT, Nat.reduceLeDiff]))
    all_goals try (with_reducible refine And.intro ?_ ?_)
    all_goals try (with_reducible refine And.intro ?_ ?_)
    all_goals try (with_reducible refine And.intro ?_ ?_)
    all_goals first
      | (refine own_okP pv _ cv c false _ hpr.s (hcr4.ext X) hg.e0 hg.e1 ?_; intro cv' hy C' ey; refine ⟨kp_ext X.size ey, ?_⟩; have zy := ey.size; (try replace B6 := B6.ext ey); (try replace B7 := B7.ext ey); replace X := X.trans ey; (try simp (config := { maxSteps := 1000000 }) (disch := first | exact Nat.le_of_ble_eq_true rfl | omega) only [AXS, AXB, J.dst, reduceIte, Nat.reduceEqDiff, Nat.reduceAdd, Nat.reduceMul, Nat.reduceLT, Nat.reduceLeDiff]))
      | (refine apply_ok (n := 100 * k) pv _ cv' (ownM (runP (l.take k)) c) _ (hpr4.ext X) C' hg.sz hnw hsp hg.e0 ?_; intro pv' rv hy O' K' ey; refine ⟨kp_ext X.size ey, ?_⟩; have zy := ey.size; have P' := O'.prr; (try replace B6 := B6.ext ey); (try replace B7 := B7.ext ey); replace X := X.trans ey; (try simp (config := { maxSteps := 1000000 }) (disch := first | exact Nat.le_of_ble_eq_true rfl | omega) only [AXS, AXB, J.dst, reduceIte, Nat.reduceEqDiff, Nat.reduceAdd, Nat.reduceMul, Nat.reduceLT, Nat.reduceLeDiff]))
      | (refine wL_newD (t := 116) X.size ?_; rintro b6 hy ey sy hb6 B6; have zy := ey.size; (try replace B7 := B7.ext ey); (try replace C' := C'.ext ey); (try replace P' := P'.ext ey); replace X := X.trans ey; (try simp (config := { maxSteps := 1000000 }) (disch := first | exact Nat.le_of_ble_eq_true rfl | omega) only [AXS, AXB, J.dst, reduceIte, Nat.reduceEqDiff, Nat.reduceAdd, Nat.reduceMul, Nat.reduceLT, Nat.reduceLeDiff]))
      | (refine wL_newD (t := 47) X.size ?_; rintro b7 hy ey sy hb7 B7; have zy := ey.size; (try replace B6 := B6.ext ey); (try replace C' := C'.ext ey); (try replace P' := P'.ext ey); replace X := X.trans ey; (try simp (config := { maxSteps := 1000000 }) (disch := first | exact Nat.le_of_ble_eq_true rfl | omega) only [AXS, AXB, J.dst, reduceIte, Nat.reduceEqDiff, Nat.reduceAdd, Nat.reduceMul, Nat.reduceLT, Nat.reduceLeDiff]))
    all_goals try (with_reducible refine And.intro ?_ ?_)
    all_goals try (with_reducible refine And.intro ?_ ?_)
    all_goals try (with_reducible refine And.intro ?_ ?_)
    all_goals first
      | (refine own_okP pv _ cv c false _ hpr.s (hcr4.ext X) hg.e0 hg.e1 ?_; intro cv' hy C' ey; refine ⟨kp_ext X.size ey, ?_⟩; have zy := ey.size; (try replace B6 := B6.ext ey); (try replace B7 := B7.ext ey); replace X := X.trans ey; (try simp (config := { maxSteps := 1000000 }) (disch := first | exact Nat.le_of_ble_eq_true rfl | omega) only [AXS, AXB, J.dst, reduceIte, Nat.reduceEqDiff, Nat.reduceAdd, Nat.reduceMul, Nat.reduceLT, Nat.reduceLeDiff]))
      | (refine apply_ok (n := 100 * k) pv _ cv' (ownM (runP (l.take k)) c) _ (hpr4.ext X) C' hg.sz hnw hsp hg.e0 ?_; intro pv' rv hy O' K' ey; refine ⟨kp_ext X.size ey, ?_⟩; have zy := ey.size; have P' := O'.prr; (try replace B6 := B6.ext ey); (try replace B7 := B7.ext ey); replace X := X.trans ey; (try simp (config := { maxSteps := 1000000 }) (disch := first | exact Nat.le_of_ble_eq_true rfl | omega) only [AXS, AXB, J.dst, reduceIte, Nat.reduceEqDiff, Nat.reduceAdd, Nat.reduceMul, Nat.reduceLT, Nat.reduceLeDiff]))
      | (refine wL_newD (t := 116) X.size ?_; rintro b6 hy ey sy hb6 B6; have zy := ey.size; (try replace B7 := B7.ext ey); (try replace C' := C'.ext ey); (try replace P' := P'.ext ey); replace X := X.trans ey; (try simp (config := { maxSteps := 1000000 }) (disch := first | exact Nat.le_of_ble_eq_true rfl | omega) only [AXS, AXB, J.dst, reduceIte, Nat.reduceEqDiff, Nat.reduceAdd, Nat.reduceMul, Nat.reduceLT, Nat.reduceLeDiff]))
      | (refine wL_newD (t := 47) X.size ?_; rintro b7 hy ey sy hb7 B7; have zy := ey.size; (try replace B6 := B6.ext ey); (try replace C' := C'.ext ey); (try replace P' := P'.ext ey); replace X := X.trans ey; (try simp (config := { maxSteps := 1000000 }) (disch := first | exact Nat.le_of_ble_eq_true rfl | omega) only [AXS, AXB, J.dst, reduceIte, Nat.reduceEqDiff, Nat.reduceAdd, Nat.reduceMul, Nat.reduceLT, Nat.reduceLeDiff]))
    all_goals try (with_reducible refine And.intro ?_ ?_)
    all_goals try (with_reducible refine And.intro ?_ ?_)
    all_goals try (with_reducible refine And.intro ?_ ?_)
    all_goals first
      | (refine own_okP pv _ cv c false _ hpr.s (hcr4.ext X) hg.e0 hg.e1 ?_; intro cv' hy C' ey; refine ⟨kp_ext X.size ey, ?_⟩; have zy := ey.size; (try replace B6 := B6.ext ey); (try replace B7 := B7.ext ey); replace X := X.trans ey; (try simp (config := { maxSteps := 1000000 }) (disch := first | exact Nat.le_of_ble_eq_true rfl | omega) only [AXS, AXB, J.dst, reduceIte, Nat.reduceEqDiff, Nat.reduceAdd, Nat.reduceMul, Nat.reduceLT, Nat.reduceLeDiff]))
      | (refine apply_ok (n := 100 * k) pv _ cv' (ownM (runP (l.take k)) c) _ (hpr4.ext X) C' hg.sz hnw hsp hg.e0 ?_; intro pv' rv hy O' K' ey; refine ⟨kp_ext X.size ey, ?_⟩; have zy := ey.size; have P' := O'.prr; (try replace B6 := B6.ext ey); (try replace B7 := B7.ext ey); replace X := X.trans ey; (try simp (config := { maxSteps := 1000000 }) (disch := first | exact Nat.le_of_ble_eq_true rfl | omega) only [AXS, AXB, J.dst, reduceIte, Nat.reduceEqDiff, Nat.reduceAdd, Nat.reduceMul, Nat.reduceLT, Nat.reduceLeDiff]))
      | (refine wL_newD (t := 116) X.size ?_; rintro b6 hy ey sy hb6 B6; have zy := ey.size; (try replace B7 := B7.ext ey); (try replace C' := C'.ext ey); (try replace P' := P'.ext ey); replace X := X.trans ey; (try simp (config := { maxSteps := 1000000 }) (disch := first | exact Nat.le_of_ble_eq_true rfl | omega) only [AXS, AXB, J.dst, reduceIte, Nat.reduceEqDiff, Nat.reduceAdd, Nat.reduceMul, Nat.reduceLT, Nat.reduceLeDiff]))
      | (refine wL_newD (t := 47) X.size ?_; rintro b7 hy ey sy hb7 B7; have zy := ey.size; (try replace B6 := B6.ext ey); (try replace C' := C'.ext ey); (try replace P' := P'.ext ey); replace X := X.trans ey; (try simp (config := { maxSteps := 1000000 }) (disch := first | exact Nat.le_of_ble_eq_true rfl | omega) only [AXS, AXB, J.dst, reduceIte, Nat.reduceEqDiff, Nat.reduceAdd, Nat.reduceMul, Nat.reduceLT, Nat.reduceLeDiff]))
    all_goals
      refine wL_stD rfl rfl (by omega) rfl B6 (by decide) (ePr_one pv') ?_
      rintro hz uz (D6 : Blk _ _ _ (ePr pv'))
      try simp (config := { maxSteps := 1000000 }) (disch := first | exact Nat.le_of_ble_eq_true rfl | omega) only [AXS, AXB, J.dst, reduceIte, Nat.reduceEqDiff, Nat.reduceAdd, Nat.reduceMul, Nat.reduceLT, Nat.reduceLeDiff]
      refine wL_stD rfl rfl (by omega) rfl (uz.blk B7 (by omega)) (by decide) (eRp_one rv) ?_
      rintro hw uw (D7 : Blk _ _ _ (eRp rv))
      try simp (config := { maxSteps := 1000000 }) (disch := first | exact Nat.le_of_ble_eq_true rfl | omega) only [AXS, AXB, J.dst, reduceIte, Nat.reduceEqDiff, Nat.reduceAdd, Nat.reduceMul, Nat.reduceLT, Nat.reduceLeDiff]
      have ez := uz.size
      have ew := uw.size
      refine app hw b6 pv' (uw.ext (uz.ext X (by omega)) (by omega)) (uw.blk D6 (by omega)) ((P'.at_ (h' := hz) fun b hb => uz.ne b (by omega)).to fun b hb => ⟨⟨by omega, by omega⟩, uw.ne b (by omega)⟩)
  · have hkl : k = l.length := by have := of_decide_eq_false hh; omega
    subst hkl
    refine hex _ _ ?_
    (try simp (config := { maxSteps := 1000000 }) (disch := first | exact Nat.le_of_ble_eq_true rfl | omega) only [AXS, AXB, J.dst, reduceIte, Nat.reduceEqDiff, Nat.reduceAdd, Nat.reduceMul, Nat.reduceLT, Nat.reduceLeDiff]); rw [f65c11_eq]; (try simp (config := { maxSteps := 1000000 }) (disch := first | exact Nat.le_of_ble_eq_true rfl | omega) only [AXS, AXB, J.dst, reduceIte, Nat.reduceEqDiff, Nat.reduceAdd, Nat.reduceMul, Nat.reduceLT, Nat.reduceLeDiff, f65r8])
    exact hR _ _ _ O x2
end Go.Proofs.Ytefghfgmkndikaa
namespace Go.AX
open Go
theorem raw_map {P : Program} {o : Oper} {σ : Env} {h : Heap} {K : Value → Heap → Prop} {t : TypeId} (ho : o.op = .makeMap t none) (H : ∀ h', Ext h h' → h'.size = h.size + 1 → h'[h.size]? = some (.map #[] 0) → K (.map (some h.size)) h') : RawW P o σ h K := by
  refine ⟨?_, ?_, ?_⟩
  · rw [ho]; intro u hu
    simp only [Op.operands, Option.toArray, List.mem_toArray, List.not_mem_nil, Array.not_mem_empty] at hu
  · rw [ho]; intro cs b hh; cases hh
  · intro w hw
    subst hw
    have hrun : (Instr.makeMap t none).run P w = .ok (.map (some w.heap.size)) { w with heap := w.heap.push (.map #[] 0) } := rfl
    refine ⟨.value (.map (some w.heap.size)), _, { w with heap := w.heap.push (.map #[] 0) }, ?_, rfl, ?_, H _ ((Ext.refl w.heap).push _) (by simp) (by simp)⟩
    · simp [execOp, ho, hrun]
    · exact ⟨rfl, rfl, rfl⟩
end Go.AX
namespace Go.Proofs.Ytefghfgmkndikaa
open Go Go.AX
theorem once_none (h : Heap) {a : Option Addr} {c : Nat} {R : Value → Heap → Prop} (hR : ∀ h', Ext h h' → R (.bool true) h') : CallsH Try.prog 102 [.slice a (0 : Nat) c] h R := by
  refine f102ok (by simp) ?_
  (try simp (config := { maxSteps := 1000000 }) (disch := first | exact Nat.le_of_ble_eq_true rfl | omega) only [AXS, AXB, J.dst, reduceIte, Nat.reduceEqDiff, Nat.reduceAdd, Nat.reduceMul, Nat.reduceLT, Nat.reduceLeDiff]); rw [f102c0_eq]; (try simp (config := { maxSteps := 1000000 }) (disch := first | exact Nat.le_of_ble_eq_true rfl | omega) only [AXS, AXB, J.dst, reduceIte, Nat.reduceEqDiff, Nat.reduceAdd, Nat.reduceMul, Nat.reduceLT, Nat.reduceLeDiff, f102r0]); rw [f102c1_eq]; (try simp (config := { maxSteps := 1000000 }) (disch := first | exact Nat.le_of_ble_eq_true rfl | omega) only [AXS, AXB, J.dst, reduceIte, Nat.reduceEqDiff, Nat.reduceAdd, Nat.reduceMul, Nat.reduceLT, Nat.reduceLeDiff, f102r1])
  rw [wL_raw]
  refine raw_map rfl ?_
  intro h1 x1 _ _
  refine ⟨trivial, ?_⟩
  (try simp (config := { maxSteps := 1000000 }) (disch := first | exact Nat.le_of_ble_eq_true rfl | omega) only [AXS, AXB, J.dst, reduceIte, Nat.reduceEqDiff, Nat.reduceAdd, Nat.reduceMul, Nat.reduceLT, Nat.reduceLeDiff]); rw [f102c2_eq]; (try simp (config := { maxSteps := 1000000 }) (disch := first | exact Nat.le_of_ble_eq_true rfl | omega) only [AXS, AXB, J.dst, reduceIte, Nat.reduceEqDiff, Nat.reduceAdd, Nat.reduceMul, Nat.reduceLT, Nat.reduceLeDiff, f102r2])
  rw [f102c3_eq]
  refine loop_in (fun n σ h' => h' = h1 ∧ σ = [(3, .map (some h.size)), (7, .slice a (0 : Nat) c), (8, vi (0 : Nat)), (9, vi (0 : Nat))]) 0 ⟨rfl, rfl⟩ ?_
  rintro n σ h' ⟨rfl, rfl⟩ Q' hnx hex hrt _
  (try simp (config := { maxSteps := 1000000 }) (disch := first | exact Nat.le_of_ble_eq_true rfl | omega) only [AXS, AXB, J.dst, reduceIte, Nat.reduceEqDiff, Nat.reduceAdd, Nat.reduceMul, Nat.reduceLT, Nat.reduceLeDiff]); rw [f102c4_eq]; (try simp (config := { maxSteps := 1000000 }) (disch := first | exact Nat.le_of_ble_eq_true rfl | omega) only [AXS, AXB, J.dst, reduceIte, Nat.reduceEqDiff, Nat.reduceAdd, Nat.reduceMul, Nat.reduceLT, Nat.reduceLeDiff, f102r3]); rw [f102c5_eq]; (try simp (config := { maxSteps := 1000000 }) (disch := first | exact Nat.le_of_ble_eq_true rfl | omega) only [AXS, AXB, J.dst, reduceIte, Nat.reduceEqDiff, Nat.reduceAdd, Nat.reduceMul, Nat.reduceLT, Nat.reduceLeDiff])
  refine ⟨fun hh => ?_, fun hh => ?_⟩
  · have := of_decide_eq_true hh; omega
  · refine hex _ _ ?_
    (try simp (config := { maxSteps := 1000000 }) (disch := first | exact Nat.le_of_ble_eq_true rfl | omega) only [AXS, AXB, J.dst, reduceIte, Nat.reduceEqDiff, Nat.reduceAdd, Nat.reduceMul, Nat.reduceLT, Nat.reduceLeDiff]); rw [f102c13_eq]; (try simp (config := { maxSteps := 1000000 }) (disch := first | exact Nat.le_of_ble_eq_true rfl | omega) only [AXS, AXB, J.dst, reduceIte, Nat.reduceEqDiff, Nat.reduceAdd, Nat.reduceMul, Nat.reduceLT, Nat.reduceLeDiff, f102r9])
    exact hR _ x1
theorem mayP_none {B : Nat → Prop} {n : Nat} (pv : PrV) (p : Prt) (h : Heap) (S : PrR B h pv p) (g : GdP n p) (hn : n ≤ 900000) (hr : p.records = []) (hd : p.done = []) (hl : p.s.low ≤ p.s.closed ∨ p.s.low = 0) {R : Value → Heap → Prop}
    (hR : ∀ h', Ext h h' → R (.bool true) h') : CallsH Try.prog 60 [.agg (ePr pv).toArray] h R := by
  have hrn := S.rn
  have hdn := S.dn
  rw [hr] at hrn
  rw [hd] at hdn
  have hm : mostEpoch = 1099511627776 := rfl
  have e0 := g.e0
  have e1 := g.e1
  have hs := S.s
  refine f60ok (by simp) ?_
  (try simp (config := { maxSteps := 1000000 }) (disch := first | exact Nat.le_of_ble_eq_true rfl | omega) only [AXS, AXB, J.dst, reduceIte, Nat.reduceEqDiff, Nat.reduceAdd, Nat.reduceMul, Nat.reduceLT, Nat.reduceLeDiff]); rw [f60c0_eq]; (try simp (config := { maxSteps := 1000000 }) (disch := first | exact Nat.le_of_ble_eq_true rfl | omega) only [AXS, AXB, J.dst, reduceIte, Nat.reduceEqDiff, Nat.reduceAdd, Nat.reduceMul, Nat.reduceLT, Nat.reduceLeDiff, f60r0])
  refine wL_boxN rfl ?_; rintro b1 h1 x1 s1 hb1 (B1 : Blk _ _ _ (ePr pv))
  try simp (config := { maxSteps := 1000000 }) (disch := first | exact Nat.le_of_ble_eq_true rfl | omega) only [AXS, AXB, J.dst, reduceIte, Nat.reduceEqDiff, Nat.reduceAdd, Nat.reduceMul, Nat.reduceLT, Nat.reduceLeDiff]
  rw [f60c1_eq]
  simp (config := { maxSteps := 1000000 }) (disch := first | exact Nat.le_of_ble_eq_true rfl | omega) only [AXJ, AXS, AXB, J.dst, reduceIte, Nat.reduceEqDiff, Nat.reduceAdd, Nat.reduceMul, Nat.reduceLT, Nat.reduceLeDiff, f60r1, B1.cel, ePr, S.cn]
  refine mayG g.sz.cells hn (S.cells.ext x1) ?_
  intro h2 x2
  refine ⟨trivial, ?_⟩
  have B2 := B1.ext x2
  simp (config := { maxSteps := 1000000 }) (disch := first | exact Nat.le_of_ble_eq_true rfl | omega) only [AXJ, AXS, AXB, J.dst, reduceIte, Nat.reduceEqDiff, Nat.reduceAdd, Nat.reduceMul, Nat.reduceLT, Nat.reduceLeDiff, B2.cel, ePr, hrn, List.length_nil]
  refine once_none _ ?_
  intro h3 x3
  refine ⟨trivial, ?_⟩
  have B3 := B2.ext x3
  simp (config := { maxSteps := 1000000 }) (disch := first | exact Nat.le_of_ble_eq_true rfl | omega) only [AXJ, AXS, AXB, J.dst, reduceIte, Nat.reduceEqDiff, Nat.reduceAdd, Nat.reduceMul, Nat.reduceLT, Nat.reduceLeDiff, f60r1a, B3.cel, ePr, hdn, List.length_nil]
  refine once_none _ ?_
  intro h4 x4
  refine ⟨trivial, ?_⟩
  have B4 := B3.ext x4
  simp (config := { maxSteps := 1000000 }) (disch := first | exact Nat.le_of_ble_eq_true rfl | omega) only [AXJ, AXS, AXB, J.dst, reduceIte, Nat.reduceEqDiff, Nat.reduceAdd, Nat.reduceMul, Nat.reduceLT, Nat.reduceLeDiff]
  simp (config := { maxSteps := 1000000 }) (disch := first | exact Nat.le_of_ble_eq_true rfl | omega) only [AXJ, AXS, AXB, J.dst, reduceIte, Nat.reduceEqDiff, Nat.reduceAdd, Nat.reduceMul, Nat.reduceLT, Nat.reduceLeDiff, f60r1b, B4.cel, ePr, hs]
  simp (config := { maxSteps := 1000000 }) (disch := first | exact Nat.le_of_ble_eq_true rfl | omega) only [AXJ, AXS, AXB, J.dst, reduceIte, Nat.reduceEqDiff, Nat.reduceAdd, Nat.reduceMul, Nat.reduceLT, Nat.reduceLeDiff, f60r1c, B4.cel, ePr, hs]
  simp (config := { maxSteps := 1000000 }) (disch := first | exact Nat.le_of_ble_eq_true rfl | omega) only [AXJ, AXS, AXB, J.dst, reduceIte, Nat.reduceEqDiff, Nat.reduceAdd, Nat.reduceMul, Nat.reduceLT, Nat.reduceLeDiff, f60r1d, B4.cel, ePr, hs]
  simp (config := { maxSteps := 1000000 }) (disch := first | exact Nat.le_of_ble_eq_true rfl | omega) only [AXJ, AXS, AXB, J.dst, reduceIte, Nat.reduceEqDiff, Nat.reduceAdd, Nat.reduceMul, Nat.reduceLT, Nat.reduceLeDiff, f60r1e]
  have hfin : (decide (p.s.epoch ≥ 0) && decide (p.s.epoch ≤ 1099511627776) && (decide (p.s.low ≤ p.s.closed) || p.s.low == 0)) = true := by
    simp only [Bool.and_eq_true, Bool.or_eq_true, decide_eq_true_eq, beq_iff_eq]
    exact ⟨⟨e0, by omega⟩, hl⟩
  rw [hfin]
  exact hR _ (((x1.trans x2).trans x3).trans x4)
def pg1 : Cmd := ⟨⟨1, 1, 2, 0, ⟨0, 0, 0, 0⟩, ⟨0, 0⟩, 0, false⟩, [], []⟩
def pg2 : Cmd := ⟨⟨3, 1, 0, 0, ⟨1, 0, 0, 0⟩, ⟨5, 0⟩, 0, false⟩, [], [⟨⟨#[107]⟩, false, ⟨#[120]⟩⟩]⟩
def pg3 : Cmd := ⟨⟨2, 1, 0, 0, ⟨0, 0, 0, 0⟩, ⟨9, 0⟩, 0, false⟩, [⟨⟨#[97]⟩, ⟨#[122]⟩⟩], []⟩
theorem pg_facts : (applyP emptyP pg1).2.s.err = 0 ∧ (applyP emptyP pg1).1.s.holder = 2 ∧ (applyP (applyP emptyP pg1).1 pg2).2.s.err = 0 ∧ (applyP (applyP (applyP emptyP pg1).1 pg2).1 pg3).2.s.err = 20 ∧
    (applyP (applyP emptyP pg1).1 pg2).1.records = [] ∧ (applyP (applyP emptyP pg1).1 pg2).1.done = [] ∧ (applyP (applyP emptyP pg1).1 pg2).1.s.low = 0 := by
  refine ⟨rfl, rfl, by decide, ?_, by decide, by decide, by decide⟩
  kernel_rfl
def zPr : PrV := ⟨⟨0, 0, ⟨0, 0⟩, 0, 0⟩, none, 0, 0, none, 0, 0, none, 0, 0⟩
theorem zPr_ok {B : Nat → Prop} (h : Heap) : PrR B h zPr emptyP := ⟨rfl, rfl, Nat.le_refl _, rfl, rfl, ⟨[], .nil, .nil⟩, .nil, .nil⟩
theorem begunP_ok (h : Heap) {R : Value → Heap → Prop} (hR : ∀ h', Ext h h' → R (.bool true) h') : CallsH Try.prog 52 [] h R := by
  have hbig : big = 1000000 := rfl
  obtain ⟨f1, f2, f3, f4, f5, f6, f7⟩ := pg_facts
  have g0 := emptyG
  have g1 := applyG (c := pg1) g0 ⟨by decide, by decide⟩
  have g2 := applyG (c := pg2) g1 ⟨by decide, by decide⟩
  refine f52ok (by simp) ?_
  (try simp (config := { maxSteps := 1000000 }) (disch := first | exact Nat.le_of_ble_eq_true rfl | omega) only [AXS, AXB, J.dst, reduceIte, Nat.reduceEqDiff, Nat.reduceAdd, Nat.reduceMul, Nat.reduceLT, Nat.reduceLeDiff]); rw [f52c0_eq]; (try simp (config := { maxSteps := 1000000 }) (disch := first | exact Nat.le_of_ble_eq_true rfl | omega) only [AXS, AXB, J.dst, reduceIte, Nat.reduceEqDiff, Nat.reduceAdd, Nat.reduceMul, Nat.reduceLT, Nat.reduceLeDiff, f52r0]); rw [f52c1_eq]; (try simp (config := { maxSteps := 1000000 }) (disch := first | exact Nat.le_of_ble_eq_true rfl | omega) only [AXS, AXB, J.dst, reduceIte, Nat.reduceEqDiff, Nat.reduceAdd, Nat.reduceMul, Nat.reduceLT, Nat.reduceLeDiff, f52r1])
  refine apply_ok (B := fun _ => True) (B' := fun _ => True) zPr emptyP ⟨pg1.s, none, 0, 0, none, 0, 0⟩ pg1 _ (zPr_ok _) ⟨rfl, rfl, rfl, .nil, .nil⟩ g0.sz (by decide) (by decide) g0.e0 ?_
  intro p1 r1 h1 P1 K1 x1
  refine ⟨trivial, ?_⟩
  try simp (config := { maxSteps := 1000000 }) (disch := first | exact Nat.le_of_ble_eq_true rfl | omega) only [AXS, AXB, J.dst, reduceIte, Nat.reduceEqDiff, Nat.reduceAdd, Nat.reduceMul, Nat.reduceLT, Nat.reduceLeDiff]
  refine wL_newN ?_; rintro b1 h2 x2 s2 hb1 B1
  try simp (config := { maxSteps := 1000000 }) (disch := first | exact Nat.le_of_ble_eq_true rfl | omega) only [AXS, AXB, J.dst, reduceIte, Nat.reduceEqDiff, Nat.reduceAdd, Nat.reduceMul, Nat.reduceLT, Nat.reduceLeDiff]
  refine wL_newN ?_; rintro b2 h3 x3 s3 hb2 B2
  replace B1 := B1.ext x3
  try simp (config := { maxSteps := 1000000 }) (disch := first | exact Nat.le_of_ble_eq_true rfl | omega) only [AXS, AXB, J.dst, reduceIte, Nat.reduceEqDiff, Nat.reduceAdd, Nat.reduceMul, Nat.reduceLT, Nat.reduceLeDiff]
  refine wL_stN rfl rfl rfl B1 (by decide) (ePr_one p1) ?_
  rintro h4 u4 (B1 : Blk _ _ _ (ePr p1))
  try simp (config := { maxSteps := 1000000 }) (disch := first | exact Nat.le_of_ble_eq_true rfl | omega) only [AXS, AXB, J.dst, reduceIte, Nat.reduceEqDiff, Nat.reduceAdd, Nat.reduceMul, Nat.reduceLT, Nat.reduceLeDiff]
  refine wL_stN rfl rfl rfl (u4.blk B2 (by omega)) (by decide) (eRp_one r1) ?_
  rintro h5 u5 (B2 : Blk _ _ _ (eRp r1))
  replace B1 := u5.blk B1 (by omega)
  have x15 := u5.ext (u4.ext (x2.trans x3) (by omega)) (by omega)
  have y4 := u4.size
  have y5 := u5.size
  have P5 := P1.prr.ext x15
  have hr1 := K1.s
  (try simp (config := { maxSteps := 1000000 }) (disch := first | exact Nat.le_of_ble_eq_true rfl | omega) only [AXS, AXB, J.dst, reduceIte, Nat.reduceEqDiff, Nat.reduceAdd, Nat.reduceMul, Nat.reduceLT, Nat.reduceLeDiff]); rw [f52c2_eq]; (try simp (config := { maxSteps := 1000000 }) (disch := first | exact Nat.le_of_ble_eq_true rfl | omega) only [AXS, AXB, J.dst, reduceIte, Nat.reduceEqDiff, Nat.reduceAdd, Nat.reduceMul, Nat.reduceLT, Nat.reduceLeDiff, f52r2, B1.rd, ePr])
  refine wL_bslN rfl ?_; rintro b3 h6 x6 s6 hb3 (B3 : Blk _ _ _ (eWri ⟨⟨#[107]⟩, false, ⟨#[120]⟩⟩))
  try simp (config := { maxSteps := 1000000 }) (disch := first | exact Nat.le_of_ble_eq_true rfl | omega) only [AXS, AXB, J.dst, reduceIte, Nat.reduceEqDiff, Nat.reduceAdd, Nat.reduceMul, Nat.reduceLT, Nat.reduceLeDiff]
  refine apply_ok (B' := fun _ => True) p1 (applyP emptyP pg1).1 ⟨pg2.s, none, 0, 0, some ⟨b3, 0, none⟩, 1, 1⟩ pg2 _ (P5.ext x6) ⟨rfl, rfl, rfl, .nil, fun _ => ⟨b3, 0, rfl, trivial, B3.row⟩⟩ g1.sz (by decide) (by decide) g1.e0 ?_
  intro p2 r2 h7 P2 K2 x7
  refine ⟨trivial, ?_⟩
  replace B1 := B1.ext (x6.trans x7); replace B2 := B2.ext (x6.trans x7)
  have y6 := x6.size
  have y7 := x7.size
  try simp (config := { maxSteps := 1000000 }) (disch := first | exact Nat.le_of_ble_eq_true rfl | omega) only [AXS, AXB, J.dst, reduceIte, Nat.reduceEqDiff, Nat.reduceAdd, Nat.reduceMul, Nat.reduceLT, Nat.reduceLeDiff]
  refine wL_newN ?_; rintro b4 h8 x8 s8 hb4 B4
  try simp (config := { maxSteps := 1000000 }) (disch := first | exact Nat.le_of_ble_eq_true rfl | omega) only [AXS, AXB, J.dst, reduceIte, Nat.reduceEqDiff, Nat.reduceAdd, Nat.reduceMul, Nat.reduceLT, Nat.reduceLeDiff]
  refine wL_newN ?_; rintro b5 h9 x9 s9 hb5 B5
  replace B1 := B1.ext x8; replace B2 := B2.ext x8
  replace B1 := B1.ext x9; replace B2 := B2.ext x9; replace B4 := B4.ext x9
  try simp (config := { maxSteps := 1000000 }) (disch := first | exact Nat.le_of_ble_eq_true rfl | omega) only [AXS, AXB, J.dst, reduceIte, Nat.reduceEqDiff, Nat.reduceAdd, Nat.reduceMul, Nat.reduceLT, Nat.reduceLeDiff]
  refine wL_stN rfl rfl rfl B4 (by decide) (ePr_one p2) ?_
  rintro h10 u10 (B4 : Blk _ _ _ (ePr p2))
  try simp (config := { maxSteps := 1000000 }) (disch := first | exact Nat.le_of_ble_eq_true rfl | omega) only [AXS, AXB, J.dst, reduceIte, Nat.reduceEqDiff, Nat.reduceAdd, Nat.reduceMul, Nat.reduceLT, Nat.reduceLeDiff]
  refine wL_stN rfl rfl rfl (u10.blk B5 (by omega)) (by decide) (eRp_one r2) ?_
  rintro h11 u11 (B5 : Blk _ _ _ (eRp r2))
  replace B4 := u11.blk B4 (by omega)
  replace B1 := u11.blk (u10.blk B1 (by omega)) (by omega)
  replace B2 := u11.blk (u10.blk B2 (by omega)) (by omega)
  have x711 := u11.ext (u10.ext (x8.trans x9) (by omega)) (by omega)
  have y10 := u10.size
  have y11 := u11.size
  have P11 := P2.prr.ext x711
  have hr2 := K2.s
  (try simp (config := { maxSteps := 1000000 }) (disch := first | exact Nat.le_of_ble_eq_true rfl | omega) only [AXS, AXB, J.dst, reduceIte, Nat.reduceEqDiff, Nat.reduceAdd, Nat.reduceMul, Nat.reduceLT, Nat.reduceLeDiff]); rw [f52c3_eq]; (try simp (config := { maxSteps := 1000000 }) (disch := first | exact Nat.le_of_ble_eq_true rfl | omega) only [AXS, AXB, J.dst, reduceIte, Nat.reduceEqDiff, Nat.reduceAdd, Nat.reduceMul, Nat.reduceLT, Nat.reduceLeDiff, f52r3, B4.rd, ePr])
  refine wL_bslN rfl ?_; rintro b6 h12 x12 s12 hb6 (B6 : Blk _ _ _ (eSpn ⟨⟨#[97]⟩, ⟨#[122]⟩⟩))
  try simp (config := { maxSteps := 1000000 }) (disch := first | exact Nat.le_of_ble_eq_true rfl | omega) only [AXS, AXB, J.dst, reduceIte, Nat.reduceEqDiff, Nat.reduceAdd, Nat.reduceMul, Nat.reduceLT, Nat.reduceLeDiff]
  refine apply_ok (B' := fun _ => True) p2 (applyP (applyP emptyP pg1).1 pg2).1 ⟨pg3.s, some ⟨b6, 0, none⟩, 1, 1, none, 0, 0⟩ pg3 _ (P11.ext x12) ⟨rfl, rfl, rfl, fun _ => ⟨b6, 0, rfl, trivial, B6.row⟩, .nil⟩ g2.sz (by decide) (by decide) g2.e0 ?_
  intro p3 r3 h13 P3 K3 x13
  refine ⟨trivial, ?_⟩
  replace B1 := B1.ext (x12.trans x13); replace B2 := B2.ext (x12.trans x13); replace B4 := B4.ext (x12.trans x13); replace B5 := B5.ext (x12.trans x13)
  have y12 := x12.size
  have y13 := x13.size
  try simp (config := { maxSteps := 1000000 }) (disch := first | exact Nat.le_of_ble_eq_true rfl | omega) only [AXS, AXB, J.dst, reduceIte, Nat.reduceEqDiff, Nat.reduceAdd, Nat.reduceMul, Nat.reduceLT, Nat.reduceLeDiff]
  refine wL_newN ?_; rintro b7 h14 x14 s14 hb7 B7
  try simp (config := { maxSteps := 1000000 }) (disch := first | exact Nat.le_of_ble_eq_true rfl | omega) only [AXS, AXB, J.dst, reduceIte, Nat.reduceEqDiff, Nat.reduceAdd, Nat.reduceMul, Nat.reduceLT, Nat.reduceLeDiff]
  refine wL_newN ?_; rintro b8 h15 xb15 s15 hb8 B8
  replace B1 := B1.ext x14; replace B2 := B2.ext x14; replace B4 := B4.ext x14; replace B5 := B5.ext x14
  replace B1 := B1.ext xb15; replace B2 := B2.ext xb15; replace B4 := B4.ext xb15; replace B5 := B5.ext xb15; replace B7 := B7.ext xb15
  try simp (config := { maxSteps := 1000000 }) (disch := first | exact Nat.le_of_ble_eq_true rfl | omega) only [AXS, AXB, J.dst, reduceIte, Nat.reduceEqDiff, Nat.reduceAdd, Nat.reduceMul, Nat.reduceLT, Nat.reduceLeDiff]
  refine wL_stN rfl rfl rfl B7 (by decide) (ePr_one p3) ?_
  rintro h16 u16 (B7 : Blk _ _ _ (ePr p3))
  try simp (config := { maxSteps := 1000000 }) (disch := first | exact Nat.le_of_ble_eq_true rfl | omega) only [AXS, AXB, J.dst, reduceIte, Nat.reduceEqDiff, Nat.reduceAdd, Nat.reduceMul, Nat.reduceLT, Nat.reduceLeDiff]
  refine wL_stN rfl rfl rfl (u16.blk B8 (by omega)) (by decide) (eRp_one r3) ?_
  rintro h17 u17 (B8 : Blk _ _ _ (eRp r3))
  replace B1 := u17.blk (u16.blk B1 (by omega)) (by omega)
  replace B2 := u17.blk (u16.blk B2 (by omega)) (by omega)
  replace B4 := u17.blk (u16.blk B4 (by omega)) (by omega)
  replace B5 := u17.blk (u16.blk B5 (by omega)) (by omega)
  have x1117 := u17.ext (u16.ext (((x12.trans x13).trans x14).trans xb15) (by omega)) (by omega)
  have P17 := P11.ext x1117
  have hp1 := P1.s
  have hr3 := K3.s
  try simp (config := { maxSteps := 1000000 }) (disch := first | exact Nat.le_of_ble_eq_true rfl | omega) only [AXS, AXB, J.dst, reduceIte, Nat.reduceEqDiff, Nat.reduceAdd, Nat.reduceMul, Nat.reduceLT, Nat.reduceLeDiff]
  rw [f52c4_eq]
  simp (config := { maxSteps := 1000000 }) (disch := first | exact Nat.le_of_ble_eq_true rfl | omega) only [AXJ, AXS, AXB, J.dst, reduceIte, Nat.reduceEqDiff, Nat.reduceAdd, Nat.reduceMul, Nat.reduceLT, Nat.reduceLeDiff, f52r4, B2.cel, eRp, hr1, f1, B1.cel, ePr, hp1, f2]
  simp (config := { maxSteps := 1000000 }) (disch := first | exact Nat.le_of_ble_eq_true rfl | omega) only [AXJ, AXS, AXB, J.dst, reduceIte, Nat.reduceEqDiff, Nat.reduceAdd, Nat.reduceMul, Nat.reduceLT, Nat.reduceLeDiff, f52r4a, B5.cel, eRp, hr2, f3]
  simp (config := { maxSteps := 1000000 }) (disch := first | exact Nat.le_of_ble_eq_true rfl | omega) only [AXJ, AXS, AXB, J.dst, reduceIte, Nat.reduceEqDiff, Nat.reduceAdd, Nat.reduceMul, Nat.reduceLT, Nat.reduceLeDiff, f52r4b, B8.cel, eRp, hr3, f4]
  simp (config := { maxSteps := 1000000 }) (disch := first | exact Nat.le_of_ble_eq_true rfl | omega) only [AXJ, AXS, AXB, J.dst, reduceIte, Nat.reduceEqDiff, Nat.reduceAdd, Nat.reduceMul, Nat.reduceLT, Nat.reduceLeDiff, f52r4c, B4.rd, ePr]
  refine mayP_none p2 (applyP (applyP emptyP pg1).1 pg2).1 _ P17 g2 (by decide) f5 f6 (.inr f7) ?_
  intro h18 x18
  refine ⟨trivial, ?_⟩
  try simp (config := { maxSteps := 1000000 }) (disch := first | exact Nat.le_of_ble_eq_true rfl | omega) only [AXJ, AXS, AXB, J.dst, reduceIte, Nat.reduceEqDiff, Nat.reduceAdd, Nat.reduceMul, Nat.reduceLT, Nat.reduceLeDiff]
  try simp (config := { maxSteps := 1000000 }) (disch := first | exact Nat.le_of_ble_eq_true rfl | omega) only [AXJ, AXS, AXB, J.dst, reduceIte, Nat.reduceEqDiff, Nat.reduceAdd, Nat.reduceMul, Nat.reduceLT, Nat.reduceLeDiff, f52r4d]
  exact hR _ ((((x1.trans (x15.trans (x6.trans x7))).trans x711).trans x1117).trans x18)
end Go.Proofs.Ytefghfgmkndikaa
namespace Go.Proofs.Ytefghfgmkndikaa
open Go Go.AX
/-- b is a state that came behind a. -/
structure Later (a b : Prt) : Prop where
  closed : a.s.closed ≤ b.s.closed
  low : a.s.low ≤ b.s.low
  epoch : a.s.epoch ≤ b.s.epoch
  floor : Stamp.lt b.s.floor a.s.floor = false
  records : a.records <+: b.records
  done : a.done <+: b.done
theorem Later.refl (p : Prt) : Later p p := ⟨Int.le_refl _, Int.le_refl _, Int.le_refl _, Stamp.lt_irrefl _, List.prefix_rfl, List.prefix_rfl⟩
end Go.Proofs.Ytefghfgmkndikaa
namespace Go.Proofs.Ytefghfgmkndikaa
open Go Go.AX Go.ChangeShapes Go.WideShapes Go.RowKit Go.Deep
section
variable {H : Type} {enc : TypeId × Value → H} {w : World} {base : Nat}
theorem drop_split {α : Type} (l : List α) (a k b : Nat) (h : b = a + k) : l.drop a = (l.drop a).take k ++ l.drop b := by
  subst h
  rw [← List.drop_drop, List.take_append_drop]
theorem kdI {cs : List Value} (h0 : All2 kdV [.i .i64] cs) : ∃ x : Int, cs = [vi x] := by
  obtain ⟨c0, m0, rfl, ⟨x, rfl, _⟩, h1⟩ := all2_cons h0
  have := all2_nil h1; subst this
  exact ⟨x, rfl⟩
theorem kdB {cs : List Value} (h0 : All2 kdV [.b] cs) : ∃ x : Bool, cs = [.bool x] := by
  obtain ⟨c0, m0, rfl, ⟨x, rfl⟩, h1⟩ := all2_cons h0
  have := all2_nil h1; subst this
  exact ⟨x, rfl⟩
theorem sz43 : Try.prog.cellsOf 43 = 14 := by kernel_rfl
theorem sz3 : Try.prog.cellsOf 3 = 1 := by kernel_rfl
theorem sz2 : Try.prog.cellsOf 2 = 1 := by kernel_rfl
theorem sz37 : Try.prog.cellsOf 37 = 4 := by kernel_rfl
theorem sz39 : Try.prog.cellsOf 39 = 2 := by kernel_rfl
theorem sz40 : Try.prog.cellsOf 40 = 1 := by kernel_rfl
theorem sz41 : Try.prog.cellsOf 41 = 1 := by kernel_rfl
theorem sz94 : Try.prog.cellsOf 94 = 2 := by kernel_rfl
theorem sz70 : Try.prog.cellsOf 70 = 3 := by kernel_rfl
theorem flat3 : flatT Try.prog 20 3 = some [.i .i64] := by kernel_rfl
theorem flat2 : flatT Try.prog 20 2 = some [.i .i64] := by kernel_rfl
theorem flat4 : flatT Try.prog 20 4 = some [.b] := by kernel_rfl
theorem und40 : Try.prog.underlying 40 = some (.slice 94) := by kernel_rfl
theorem und41 : Try.prog.underlying 41 = some (.slice 70) := by kernel_rfl
theorem und111 : Try.prog.underlying 111 = some (.slice 43) := by kernel_rfl
theorem fld43 : isStrF Try.prog 43 [(3, 0), (3, 1), (3, 2), (3, 3), (37, 4), (39, 8), (2, 10), (4, 11), (40, 12), (41, 13)] = true := by kernel_rfl
set_option maxRecDepth 100000 in
theorem trod_cmd {n : Nat} {cs : List Value} {y : DataW H × List MemPlace} (h : DataW.trod enc Try.prog w 0 (fun _ => true) true n 43 cs = some y) :
    ∃ v, cs = eCm v ∧ ∃ c, CmR (fun b => b < w.heap.size) w.heap v c ∧ c.spans.length ≤ maxLen ∧ c.writes.length ≤ maxLen := by
  obtain ⟨hlen, hf⟩ := trod_fields fld43 h
  obtain ⟨n0, y0, h0⟩ := hf (3, 0) (by simp)
  obtain ⟨n1, y1, h1⟩ := hf (3, 1) (by simp)
  obtain ⟨n2, y2, h2⟩ := hf (3, 2) (by simp)
  obtain ⟨n3, y3, h3⟩ := hf (3, 3) (by simp)
  obtain ⟨n4, y4, h4⟩ := hf (37, 4) (by simp)
  obtain ⟨n5, y5, h5⟩ := hf (39, 8) (by simp)
  obtain ⟨n6, y6, h6⟩ := hf (2, 10) (by simp)
  obtain ⟨n7, y7, h7⟩ := hf (4, 11) (by simp)
  obtain ⟨n8, y8, h8⟩ := hf (40, 12) (by simp)
  obtain ⟨n9, y9, h9⟩ := hf (41, 13) (by simp)
  simp only [sz3, sz37, sz39, sz2, sz4, sz40, sz41] at h0 h1 h2 h3 h4 h5 h6 h7 h8 h9
  rw [sz43] at hlen
  obtain ⟨kind, e0⟩ := kdI (flatT_trod _ _ _ _ _ _ flat3 h0)
  obtain ⟨epoch, e1⟩ := kdI (flatT_trod _ _ _ _ _ _ flat3 h1)
  obtain ⟨node, e2⟩ := kdI (flatT_trod _ _ _ _ _ _ flat3 h2)
  obtain ⟨home, e3⟩ := kdI (flatT_trod _ _ _ _ _ _ flat3 h3)
  obtain ⟨by_, e4⟩ := kdTry (flatT_trod _ _ _ _ _ _ flat37 h4)
  obtain ⟨at_, e5⟩ := kdStamp (flatT_trod _ _ _ _ _ _ flat39 h5)
  obtain ⟨wall, e6⟩ := kdI (flatT_trod _ _ _ _ _ _ flat2 h6)
  obtain ⟨yes, e7⟩ := kdB (flatT_trod _ _ _ _ _ _ flat4 h7)
  obtain ⟨sa, sn, sc, ss, e8, hs1, hs2, hs3, S⟩ := open_flat und40 flat94 sz94 (by decide) (fun _ => kdSpn) eSpn_len h8
  obtain ⟨wa, wn, wc, ws, e9, hw1, hw2, hw3, W⟩ := open_flat und41 flat70 sz70 (by decide) (fun _ => kdWri) eWri_len h9
  have hcs : cs = (cs.drop 0).take 1 ++ ((cs.drop 1).take 1 ++ ((cs.drop 2).take 1 ++ ((cs.drop 3).take 1 ++ ((cs.drop 4).take 4 ++ ((cs.drop 8).take 2 ++ ((cs.drop 10).take 1 ++ ((cs.drop 11).take 1 ++ ((cs.drop 12).take 1 ++ (cs.drop 13).take 1)))))))) := by
    have e : (cs.drop 13).take 1 = cs.drop 13 := by rw [List.take_of_length_le]; rw [List.length_drop]; omega
    rw [e, ← drop_split cs 12 1 13 rfl, ← drop_split cs 11 1 12 rfl, ← drop_split cs 10 1 11 rfl, ← drop_split cs 8 2 10 rfl, ← drop_split cs 4 4 8 rfl, ← drop_split cs 3 1 4 rfl, ← drop_split cs 2 1 3 rfl, ← drop_split cs 1 1 2 rfl, ← drop_split cs 0 1 1 rfl, List.drop_zero]
  rw [e0, e1, e2, e3, e4, e5, e6, e7, e8, e9] at hcs
  refine ⟨⟨⟨kind, epoch, node, home, by_, at_, wall, yes⟩, sa, sn, sc, wa, wn, wc⟩, hcs, ⟨⟨kind, epoch, node, home, by_, at_, wall, yes⟩, ss, ws⟩, ⟨rfl, hs1.symm, hw1.symm, S, W⟩, ?_, ?_⟩
  · show ss.length ≤ maxLen; omega
  · show ws.length ≤ maxLen; omega
set_option maxRecDepth 100000 in
theorem argCmds {v : Value} {d : DataW H} {p : List MemPlace} (hv : Value.okWide Try.prog w .any base 111 v) (h : DataW.Trod enc Try.prog w 0 (fun _ => true) true 111 v d p) :
    ∃ a c l, v = .slice a l.length c ∧ LenM l ∧ SlM (fun b => b < w.heap.size) w.heap a l := by
  obtain ⟨a0, n0, c0, rfl⟩ := okWide_slice und111 hv
  obtain ⟨fuel, hf⟩ := h
  obtain ⟨a, n, c, ds, h1, h2, h3, h4, S, hQ⟩ := open_rows (e := eCm) (Q := fun v => ∃ c, CmR (fun b => b < w.heap.size) w.heap v c ∧ c.spans.length ≤ maxLen ∧ c.writes.length ≤ maxLen) und111 sz43 (by decide) (fun n cs y h => trod_cmd h) eCm_len hf
  obtain ⟨cs, hcs⟩ := all2_ex hQ
  have : a0 = a ∧ n0 = n ∧ c0 = c := by simpa [Value.cells] using h1
  obtain ⟨rfl, rfl, rfl⟩ := this
  have hl := hcs.length
  subst h2
  refine ⟨a0, c0, cs, by rw [hl], ⟨by omega, ?_⟩, ⟨ds, hcs.imp fun _ _ r => r.1, S⟩⟩
  clear S hQ hl
  intro c hc
  obtain ⟨i, hi, rfl⟩ := List.mem_iff_getElem.1 hc
  obtain ⟨v, _, hr⟩ := hcs.get (List.getElem?_eq_getElem hi)
  exact hr.2
end
end Go.Proofs.Ytefghfgmkndikaa
namespace Go.Proofs.Ytefghfgmkndikaa
open Go.AX
set_option maxRecDepth 100000
section
variable {Q : X → Env → Heap → Prop} {σ : Env} {h : Heap}
end
section
variable {Q : X → Env → Heap → Prop} {σ : Env} {h : Heap}
end
section
variable {Q : X → Env → Heap → Prop} {σ : Env} {h : Heap}
end
section
variable {Q : X → Env → Heap → Prop} {σ : Env} {h : Heap}
end
section
variable {Q : X → Env → Heap → Prop} {σ : Env} {h : Heap}
end
section
variable {Q : X → Env → Heap → Prop} {σ : Env} {h : Heap}
end
def f64r0 : List I := [.op (.box 3 37 (.tmp 1)),
  .op (.new 4 126 [.int .i64 0, .int .i64 0, .int .i64 0, .int .i64 0, .int .i64 0, .int .i64 0, .bool false]),
  .op (.mov 5 (.const (.bool false))),
  .kp [0, 3, 4]]
def f64r1 : List I := [.op (.mov 6 (.const (.int .i64 0))),
  .kp [0, 3, 4, 6]]
def f64r2 : List I := [.op (.mov 7 (.tmp 6)),
  .op (.mov 8 (.tmp 0)),
  .op (.len 9 true (.tmp 8)),
  .op (.bin 10 .lss (.tmp 7) (.tmp 9)),
  .kp [0, 3, 4, 6, 10]]
def f64r3 : List I := [.op (.mov 13 (.tmp 0)),
  .op (.mov 14 (.tmp 6)),
  .op (.iad 15 7 (.tmp 13) (.tmp 14)),
  .op (.fad 16 0 (.tmp 15)),
  .op (.ld 17 (some 4) (.tmp 16)),
  .op (.ld 18 (some 4) (.tmp 3)),
  .op (.eqa 19 false [.i .i64, .i .i64, .i .i64, .i .i64] (.tmp 17) (.tmp 18)),
  .kp [0, 3, 4, 6, 19]]
def f64r4 : List I := [.op (.mov 20 (.tmp 0)),
  .op (.mov 21 (.tmp 6)),
  .op (.iad 22 7 (.tmp 20) (.tmp 21)),
  .op (.ld 23 (some 7) (.tmp 22)),
  .op (.st 7 (.tmp 4) (.tmp 23)),
  .op (.mov 5 (.const (.bool true))),
  .kp [4, 5]]
def f64r5 : List I := [.op (.mov 11 (.tmp 6)),
  .op (.bin 12 .add (.tmp 11) (.const (.int .i64 1))),
  .op (.mov 6 (.tmp 12)),
  .kp [0, 3, 4, 6]]
def f64r6 : List I := [.op (.bld 24 [.int .i64 0, .int .i64 0, .int .i64 0, .int .i64 0, .int .i64 0, .int .i64 0, .bool false] []),
  .op (.st 7 (.tmp 4) (.tmp 24)),
  .op (.mov 5 (.const (.bool false))),
  .kp [4, 5]]
def f64c8 : C := (.seq (.reg f64r4) .ret)
def f64c7 : C := (.cond (.tmp 19) f64c8 .skip)
def f64c6 : C := (.seq (.drw f64r3) f64c7)
def f64c9 : C := (.reg f64r5)
def f64c5 : C := (.seq (.block 1 f64c6) f64c9)
def f64c4 : C := (.seq (.cond (.tmp 10) .skip (.exit 0)) f64c5)
def f64c3 : C := (.seq (.reg f64r2) f64c4)
def f64c10 : C := (.seq (.reg f64r6) .ret)
def f64c2 : C := (.seq (.block 0 (.loop f64c3)) f64c10)
def f64c1 : C := (.seq (.reg f64r1) f64c2)
def f64c0 : C := (.seq (.reg f64r0) f64c1)
theorem f64cmp : cmpF Try.prog Try.f64 [.l [.o 0, .o 1, .o 2, .kp [0, 3, 4]],
  .l [.o 0, .kp [0, 3, 4, 6]],
  .l [.o 0, .o 1, .o 2, .o 3, .kp [0, 3, 4, 6, 10]],
  .l [.o 0, .o 1, .o 2, .o 3, .o 4, .o 5, .o 6, .kp [0, 3, 4, 6, 19]],
  .l [.o 0, .o 1, .o 2, .o 3, .o 4, .o 5, .kp [4, 5]],
  .l [.o 0, .o 1, .o 2, .kp [0, 3, 4, 6]],
  .l [.o 0, .o 1, .o 2, .kp [4, 5]]] = some (f64c0, [.cell 4 7, .tmp 5]) := by kernel_rfl
theorem f64ok {args : List Value} {h : Heap} {R : Value → Heap → Prop} (hn : args.length ≤ 25) (H : wC Try.prog f64c0 (endW [.cell 4 7, .tmp 5] R) (envOf 0 args) h) : CallsH Try.prog 64 args h R :=
  fn_ok2 Try.func64 f64cmp hn H
section
variable {Q : X → Env → Heap → Prop} {σ : Env} {h : Heap}
theorem f64c8_eq : wC Try.prog f64c8 Q σ h = (wL Try.prog none f64r4 0 (fun σ h => Q .ret σ h) σ h) := rfl
theorem f64c7_eq : wC Try.prog f64c7 Q σ h = (bd (evO σ (.tmp 19)) fun v => bd (asB v) fun t => br t (wC Try.prog f64c8 Q σ h) (Q .normal σ h)) := rfl
theorem f64c6_eq : wC Try.prog f64c6 Q σ h = (drwW Try.prog f64r3 (fun σ h => wC Try.prog f64c7 Q σ h) σ h) := rfl
theorem f64c9_eq : wC Try.prog f64c9 Q σ h = (wL Try.prog none f64r5 0 (fun σ h => Q .normal σ h) σ h) := rfl
theorem f64c5_eq : wC Try.prog f64c5 Q σ h = (wC Try.prog f64c6 (X.inBlock 1 (X.then (fun σ h => wC Try.prog f64c9 Q σ h) Q)) σ h) := rfl
theorem f64c4_eq : wC Try.prog f64c4 Q σ h = (bd (evO σ (.tmp 10)) fun v => bd (asB v) fun t => br t (wC Try.prog f64c5 Q σ h) (Q (.exit 0) σ h)) := rfl
theorem f64c3_eq : wC Try.prog f64c3 Q σ h = (wL Try.prog none f64r2 0 (fun σ h => wC Try.prog f64c4 Q σ h) σ h) := rfl
theorem f64c10_eq : wC Try.prog f64c10 Q σ h = (wL Try.prog none f64r6 0 (fun σ h => Q .ret σ h) σ h) := rfl
theorem f64c2_eq : wC Try.prog f64c2 Q σ h = (loopW (wC Try.prog f64c3) (X.inBlock 0 (X.then (fun σ h => wC Try.prog f64c10 Q σ h) Q)) σ h) := rfl
theorem f64c1_eq : wC Try.prog f64c1 Q σ h = (wL Try.prog none f64r1 0 (fun σ h => wC Try.prog f64c2 Q σ h) σ h) := rfl
theorem f64c0_eq : wC Try.prog f64c0 Q σ h = (wL Try.prog none f64r0 0 (fun σ h => wC Try.prog f64c1 Q σ h) σ h) := rfl
end
section
variable {Q : X → Env → Heap → Prop} {σ : Env} {h : Heap}
end
section
variable {Q : X → Env → Heap → Prop} {σ : Env} {h : Heap}
end
section
variable {Q : X → Env → Heap → Prop} {σ : Env} {h : Heap}
end
section
variable {Q : X → Env → Heap → Prop} {σ : Env} {h : Heap}
end
section
variable {Q : X → Env → Heap → Prop} {σ : Env} {h : Heap}
end
section
variable {Q : X → Env → Heap → Prop} {σ : Env} {h : Heap}
end
section
variable {Q : X → Env → Heap → Prop} {σ : Env} {h : Heap}
end
section
variable {Q : X → Env → Heap → Prop} {σ : Env} {h : Heap}
end
end Go.Proofs.Ytefghfgmkndikaa
namespace Go.Proofs.Ytefghfgmkndikaa
open Go Go.AX
end Go.Proofs.Ytefghfgmkndikaa
namespace Go.Proofs.Ytefghfgmkndikaa
open Go Go.AX
end Go.Proofs.Ytefghfgmkndikaa
namespace Go.Proofs.Ytefghfgmkndikaa
open Go Go.AX
theorem findO_none {l : List Out} {by_ : Try4} (H : ∀ (j : Nat) (o : Out), j < l.length → l[j]? = some o → ¬ o.by_ = by_) : findO l by_ = none := by
  unfold findO
  rw [List.find?_eq_none]
  intro o ho
  obtain ⟨j, hj, rfl⟩ := List.mem_iff_getElem.1 ho
  simpa using H j _ hj (List.getElem?_eq_getElem hj)
theorem findO_at {l : List Out} {by_ : Try4} {k : Nat} {x : Out} (hx : l[k]? = some x) (he : x.by_ = by_) (H : ∀ (j : Nat) (o : Out), j < k → l[j]? = some o → ¬ o.by_ = by_) : findO l by_ = some x := by
  unfold findO
  have hk : k < l.length := by
    rcases Nat.lt_or_ge k l.length with h | h
    · exact h
    · rw [List.getElem?_eq_none h] at hx; cases hx
  rw [List.find?_eq_some_iff_getElem]
  refine ⟨by simpa using he, k, hk, ?_, ?_⟩
  · rw [List.getElem?_eq_getElem hk] at hx; cases hx; rfl
  · intro j hj
    simpa using H j _ hj (List.getElem?_eq_getElem (by omega))
theorem rfindO_ok {B : Nat → Prop} {a : Option Addr} {c : Nat} (l : List Out) (by_ : Try4) (h : Heap) (S : SlF B h eOut a l) (hn : l.length ≤ maxLen) {R : Value → Heap → Prop}
    (hR : ∀ h', Ext h h' → R (.tuple #[.agg (eOut ((findO l by_).getD noOut)).toArray, .bool (findO l by_).isSome]) h') : CallsH Try.prog 64 [.slice a l.length c, .agg (eTry by_).toArray] h R := by
  unfold maxLen at hn
  refine f64ok (by simp) ?_
  (try simp (config := { maxSteps := 1000000 }) (disch := first | exact Nat.le_of_ble_eq_true rfl | omega) only [AXS, AXB, J.dst, reduceIte, Nat.reduceEqDiff, Nat.reduceAdd, Nat.reduceMul, Nat.reduceLT, Nat.reduceLeDiff]); rw [f64c0_eq]; (try simp (config := { maxSteps := 1000000 }) (disch := first | exact Nat.le_of_ble_eq_true rfl | omega) only [AXS, AXB, J.dst, reduceIte, Nat.reduceEqDiff, Nat.reduceAdd, Nat.reduceMul, Nat.reduceLT, Nat.reduceLeDiff, f64r0])
  refine wL_boxN rfl ?_; rintro b1 h1 x1 s1 hb1 (B1 : Blk _ _ _ (eTry by_))
  refine wL_newN ?_; rintro b2 h2 x2 s2 hb2 B2
  replace B1 := B1.ext x2
  have x02 := x1.trans x2
  (try simp (config := { maxSteps := 1000000 }) (disch := first | exact Nat.le_of_ble_eq_true rfl | omega) only [AXS, AXB, J.dst, reduceIte, Nat.reduceEqDiff, Nat.reduceAdd, Nat.reduceMul, Nat.reduceLT, Nat.reduceLeDiff]); rw [f64c1_eq]; (try simp (config := { maxSteps := 1000000 }) (disch := first | exact Nat.le_of_ble_eq_true rfl | omega) only [AXS, AXB, J.dst, reduceIte, Nat.reduceEqDiff, Nat.reduceAdd, Nat.reduceMul, Nat.reduceLT, Nat.reduceLeDiff, f64r1])
  rw [f64c2_eq]
  refine loop_in (fun m σ h' => h' = h2 ∧ ∃ k : Nat, k + m = l.length ∧ (∀ (j : Nat) (o : Out), j < k → l[j]? = some o → ¬ o.by_ = by_) ∧ σ = [(0, .slice a l.length c), (3, ptr b1 0), (4, ptr b2 0), (6, vi k)]) l.length ⟨rfl, 0, by omega, by intros; omega, rfl⟩ ?_
  rintro m σ h' ⟨rfl, k, hk, hj, rfl⟩ Q' hnx hex hrt _
  (try simp (config := { maxSteps := 1000000 }) (disch := first | exact Nat.le_of_ble_eq_true rfl | omega) only [AXS, AXB, J.dst, reduceIte, Nat.reduceEqDiff, Nat.reduceAdd, Nat.reduceMul, Nat.reduceLT, Nat.reduceLeDiff]); rw [f64c3_eq]; (try simp (config := { maxSteps := 1000000 }) (disch := first | exact Nat.le_of_ble_eq_true rfl | omega) only [AXS, AXB, J.dst, reduceIte, Nat.reduceEqDiff, Nat.reduceAdd, Nat.reduceMul, Nat.reduceLT, Nat.reduceLeDiff, f64r2]); rw [f64c4_eq]; (try simp (config := { maxSteps := 1000000 }) (disch := first | exact Nat.le_of_ble_eq_true rfl | omega) only [AXS, AXB, J.dst, reduceIte, Nat.reduceEqDiff, Nat.reduceAdd, Nat.reduceMul, Nat.reduceLT, Nat.reduceLeDiff])
  refine ⟨fun hh => ?_, fun hh => ?_⟩
  · have hkl : k < l.length := by have := of_decide_eq_true hh; omega
    obtain ⟨x, hx⟩ := get_ex hkl
    obtain ⟨b, o, rfl, _, hrow⟩ := (S.ext x02).elem eOut_len hx
    have q1 := hrow.lt (by rw [eOut_len]; omega)
    have q2 := B1.lt
    (try simp (config := { maxSteps := 1000000 }) (disch := first | exact Nat.le_of_ble_eq_true rfl | omega) only [AXS, AXB, J.dst, reduceIte, Nat.reduceEqDiff, Nat.reduceAdd, Nat.reduceMul, Nat.reduceLT, Nat.reduceLeDiff]); rw [f64c5_eq]; (try simp (config := { maxSteps := 1000000 }) (disch := first | exact Nat.le_of_ble_eq_true rfl | omega) only [AXS, AXB, J.dst, reduceIte, Nat.reduceEqDiff, Nat.reduceAdd, Nat.reduceMul, Nat.reduceLT, Nat.reduceLeDiff])
    rw [f64c6_eq]
    refine drw_lt ?_
    simp (config := { maxSteps := 1000000 }) (disch := first | exact Nat.le_of_ble_eq_true rfl | omega) only [AXS, AXB, J.dst, reduceIte, Nat.reduceEqDiff, Nat.reduceAdd, Nat.reduceMul, Nat.reduceLT, Nat.reduceLeDiff, f64r3, row_out hrow, B1.rd, eTry, eqA_try]
    refine ⟨by omega, by omega, by omega, by omega, ?_⟩
    rw [f64c7_eq]
    simp (config := { maxSteps := 1000000 }) (disch := first | exact Nat.le_of_ble_eq_true rfl | omega) only [AXS, AXB, J.dst, reduceIte, Nat.reduceEqDiff, Nat.reduceAdd, Nat.reduceMul, Nat.reduceLT, Nat.reduceLeDiff]
    refine ⟨fun h7 => ?_, fun h7 => ?_⟩
    · have he : x.by_ = by_ := of_decide_eq_true h7
      (try simp (config := { maxSteps := 1000000 }) (disch := first | exact Nat.le_of_ble_eq_true rfl | omega) only [AXS, AXB, J.dst, reduceIte, Nat.reduceEqDiff, Nat.reduceAdd, Nat.reduceMul, Nat.reduceLT, Nat.reduceLeDiff]); rw [f64c8_eq]; (try simp (config := { maxSteps := 1000000 }) (disch := first | exact Nat.le_of_ble_eq_true rfl | omega) only [AXS, AXB, J.dst, reduceIte, Nat.reduceEqDiff, Nat.reduceAdd, Nat.reduceMul, Nat.reduceLT, Nat.reduceLeDiff, f64r4, row_out hrow])
      refine ⟨by omega, by omega, ?_⟩
      refine wL_stN rfl rfl rfl B2 (by decide) (eOut_one x) ?_
      rintro h3 u3 (B3 : Blk _ _ _ (eOut x))
      try simp (config := { maxSteps := 1000000 }) (disch := first | exact Nat.le_of_ble_eq_true rfl | omega) only [AXS, AXB, J.dst, reduceIte, Nat.reduceEqDiff, Nat.reduceAdd, Nat.reduceMul, Nat.reduceLT, Nat.reduceLeDiff]
      refine hrt _ _ ?_
      simp (config := { maxSteps := 1000000 }) (disch := first | exact Nat.le_of_ble_eq_true rfl | omega) only [AXS, AXB, J.dst, reduceIte, Nat.reduceEqDiff, Nat.reduceAdd, Nat.reduceMul, Nat.reduceLT, Nat.reduceLeDiff, B3.rd, eOut]
      have := hR h3 (u3.ext x02 (by omega))
      rw [findO_at hx he hj] at this
      exact this
    · have he : ¬ x.by_ = by_ := of_decide_eq_false h7
      (try simp (config := { maxSteps := 1000000 }) (disch := first | exact Nat.le_of_ble_eq_true rfl | omega) only [AXS, AXB, J.dst, reduceIte, Nat.reduceEqDiff, Nat.reduceAdd, Nat.reduceMul, Nat.reduceLT, Nat.reduceLeDiff]); rw [f64c9_eq]; (try simp (config := { maxSteps := 1000000 }) (disch := first | exact Nat.le_of_ble_eq_true rfl | omega) only [AXS, AXB, J.dst, reduceIte, Nat.reduceEqDiff, Nat.reduceAdd, Nat.reduceMul, Nat.reduceLT, Nat.reduceLeDiff, f64r5])
      rw [i64_wrap (by omega) (by omega)]
      refine hnx (m - 1) _ _ (by omega) ⟨rfl, k + 1, by omega, ?_, rfl⟩
      intro j o' hj' ho'
      rcases Nat.lt_or_ge j k with hlt | hge
      · exact hj j o' hlt ho'
      · have : j = k := by omega
        subst this
        rw [hx] at ho'; cases ho'; exact he
  · have hkl : k = l.length := by have := of_decide_eq_false hh; omega
    subst hkl
    refine hex _ _ ?_
    (try simp (config := { maxSteps := 1000000 }) (disch := first | exact Nat.le_of_ble_eq_true rfl | omega) only [AXS, AXB, J.dst, reduceIte, Nat.reduceEqDiff, Nat.reduceAdd, Nat.reduceMul, Nat.reduceLT, Nat.reduceLeDiff]); rw [f64c10_eq]; (try simp (config := { maxSteps := 1000000 }) (disch := first | exact Nat.le_of_ble_eq_true rfl | omega) only [AXS, AXB, J.dst, reduceIte, Nat.reduceEqDiff, Nat.reduceAdd, Nat.reduceMul, Nat.reduceLT, Nat.reduceLeDiff, f64r6])
    refine wL_stN rfl rfl rfl B2 (by decide) (eOut_one noOut) ?_
    rintro h3 u3 (B3 : Blk _ _ _ (eOut noOut))
    try simp (config := { maxSteps := 1000000 }) (disch := first | exact Nat.le_of_ble_eq_true rfl | omega) only [AXS, AXB, J.dst, reduceIte, Nat.reduceEqDiff, Nat.reduceAdd, Nat.reduceMul, Nat.reduceLT, Nat.reduceLeDiff]
    simp (config := { maxSteps := 1000000 }) (disch := first | exact Nat.le_of_ble_eq_true rfl | omega) only [AXS, AXB, J.dst, reduceIte, Nat.reduceEqDiff, Nat.reduceAdd, Nat.reduceMul, Nat.reduceLT, Nat.reduceLeDiff, B3.rd, eOut]
    have := hR h3 (u3.ext x02 (by omega))
    rw [findO_none hj] at this
    exact this
/-- A command of the part's own epoch that is no lease. -/
theorem applyP_own (p : Prt) (c : Cmd) (hk : ¬ c.s.kind = 1) (h0 : ¬ p.s.epoch = 0) (he : c.s.epoch = p.s.epoch) : applyP p c = (if (doesP p c).2.s.err = 0 then doesP p c else (p, (doesP p c).2)) := by
  have hn : ¬ (p.s.epoch = 0 ∨ c.s.epoch ≠ p.s.epoch) := fun h => h.elim h0 (fun h => h he)
  unfold applyP
  simp only [if_neg hk, if_neg hn]
theorem applyP_2 (p : Prt) (c : Cmd) (hk : ¬ c.s.kind = 1) (h0 : ¬ p.s.epoch = 0) (he : c.s.epoch = p.s.epoch) : (applyP p c).2 = (doesP p c).2 := by
  rw [applyP_own p c hk h0 he]; split <;> rfl
theorem does_prep (p : Prt) (c : Cmd) (hk : c.s.kind = 3) : doesP p c = prepP p c := by
  unfold doesP; rw [if_neg (by omega), if_pos hk]
end Go.Proofs.Ytefghfgmkndikaa
namespace Go.Proofs.Ytefghfgmkndikaa
open Go.AX
set_option maxRecDepth 100000
def f22r0 : List I := [.op (.box 5 37 (.tmp 1)),
  .op (.box 6 39 (.tmp 2)),
  .op (.box 7 70 (.tmp 3)),
  .op (.mov 8 (.const (.bool false))),
  .kp [0, 5, 6, 7]]
def f22r1 : List I := [.op (.call (some 17) 52 []),
  .op (.un 18 .not (.tmp 17)),
  .kp [0, 5, 6, 7, 18]]
def f22r2 : List I := [.op (.mov 8 (.const (.bool false))),
  .kp [8]]
def f22r3a : List I := [.op (.mov 28 (.tmp 27)),
  .sc 28 false 4,
  .g 28 false (.fad 29 2 (.tmp 7)),
  .g 28 false (.ld 30 none (.tmp 29)),
  .g 28 false (.len 31 false (.tmp 30)),
  .g 28 false (.bin 32 .gtr (.tmp 31) (.const (.int .i64 500))),
  .op (.pick 33 (.tmp 28) (.const (.bool true)) (.tmp 32)),
  .kp [33, 0, 5, 6, 7]]
def f22r3 : List I := .op (.mov 19 (.tmp 0)) ::
  .op (.call (some 20) 53 [(.tmp 19), (.const (.int .i64 40))]) ::
  .op (.un 21 .not (.tmp 20)) ::
  .op (.mov 22 (.tmp 21)) ::
  .sc 22 false 4 ::
  .g 22 false (.fad 23 0 (.tmp 7)) ::
  .g 22 false (.ld 24 none (.tmp 23)) ::
  .g 22 false (.len 25 false (.tmp 24)) ::
  .g 22 false (.bin 26 .gtr (.tmp 25) (.const (.int .i64 500))) ::
  .op (.pick 27 (.tmp 22) (.const (.bool true)) (.tmp 26)) ::
  .kp [27, 0, 5, 6, 7] ::
  f22r3a
def f22r4 : List I := [.op (.mov 8 (.const (.bool true))),
  .kp [8]]
def f22r5 : List I := [.op (.mov 34 (.tmp 0)),
  .op (.call (some 35) 65 [(.tmp 34)]),
  .op (.mov 9 (.tmp 35)),
  .kp [5, 6, 7, 9]]
def f22r6 : List I := [.op (.mov 36 (.tmp 9)),
  .op (.mov 37 (.tmp 9)),
  .op (.len 38 true (.tmp 37)),
  .op (.bin 39 .sub (.tmp 38) (.const (.int .i64 1))),
  .op (.iad 40 9 (.tmp 36) (.tmp 39)),
  .op (.ld 41 (some 9) (.tmp 40)),
  .op (.new 10 116 [.int .i64 0, .int .i64 0, .int .i64 0, .int .i64 0, .int .i64 0, .int .i64 0, .slice none 0 0, .slice none 0 0, .slice none 0 0]),
  .op (.st 9 (.tmp 10) (.tmp 41)),
  .kp [5, 6, 7, 10]]
def f22r7 : List I := [.op (.fad 42 0 (.tmp 10)),
  .op (.ld 43 none (.tmp 42)),
  .op (.bin 44 .eql (.tmp 43) (.const (.int .i64 0))),
  .kp [5, 6, 7, 10, 44]]
def f22r8 : List I := [.op (.mov 8 (.const (.bool true))),
  .kp [8]]
def f22r9 : List I := [.op (.ld 46 (some 9) (.tmp 10)),
  .op (.fad 47 0 (.tmp 10)),
  .op (.ld 48 none (.tmp 47)),
  .op (.ld 49 (some 4) (.tmp 5)),
  .op (.ld 50 (some 2) (.tmp 6)),
  .op (.ld 51 (some 3) (.tmp 7)),
  .op (.bsl 52 70 1 [.string ⟨#[]⟩, .bool false, .string ⟨#[]⟩] [(0, 3, (.tmp 51))]),
  .op (.bld 53 [.int .i64 0, .int .i64 0, .int .i64 0, .int .i64 0, .int .i64 0, .int .i64 0, .int .i64 0, .int .i64 0, .int .i64 0, .int .i64 0, .int .i64 0, .bool false, .slice none 0 0, .slice none 0 0] [(0, 1, (.const (.int .i64 3))), (1, 1, (.tmp 48)), (4, 4, (.tmp 49)), (8, 2, (.tmp 50)), (13, 1, (.tmp 52))]),
  .op (.call (some 54) 56 [(.tmp 46), (.tmp 53)]),
  .op (.mov 45 (.tmp 54)),
  .kp [5, 6, 7, 10, 45],
  .op (.ext 55 (.tmp 45) 0),
  .op (.ext 56 (.tmp 45) 1),
  .op (.new 11 116 [.int .i64 0, .int .i64 0, .int .i64 0, .int .i64 0, .int .i64 0, .int .i64 0, .slice none 0 0, .slice none 0 0, .slice none 0 0]),
  .op (.new 12 47 [.int .i64 0, .slice none 0 0, .int .i64 0, .int .i64 0, .int .i64 0, .int .i64 0, .int .i64 0, .int .i64 0, .int .i64 0, .int .i64 0, .bool false]),
  .op (.st 9 (.tmp 11) (.tmp 55)),
  .op (.st 11 (.tmp 12) (.tmp 56)),
  .kp [5, 6, 7, 10, 12]]
def f22r10 : List I := [.op (.fad 58 8 (.tmp 10)),
  .op (.ld 59 none (.tmp 58)),
  .op (.ld 60 (some 4) (.tmp 5)),
  .op (.call (some 61) 64 [(.tmp 59), (.tmp 60)]),
  .op (.mov 57 (.tmp 61)),
  .op (.ext 62 (.tmp 57) 0),
  .op (.ext 63 (.tmp 57) 1),
  .op (.new 13 126 [.int .i64 0, .int .i64 0, .int .i64 0, .int .i64 0, .int .i64 0, .int .i64 0, .bool false]),
  .op (.st 7 (.tmp 13) (.tmp 62)),
  .op (.mov 14 (.tmp 63)),
  .kp [5, 6, 7, 10, 12, 14]]
def f22r11 : List I := [.op (.fad 65 6 (.tmp 10)),
  .op (.ld 66 none (.tmp 65)),
  .op (.fad 67 0 (.tmp 7)),
  .op (.ld 68 none (.tmp 67)),
  .op (.call (some 69) 71 [(.tmp 66), (.tmp 68)]),
  .op (.mov 64 (.tmp 69)),
  .op (.ext 70 (.tmp 64) 0),
  .op (.ext 71 (.tmp 64) 1),
  .op (.new 15 72 [.int .i64 0, .int .i64 0, .int .i64 0, .int .i64 0, .int .i64 0, .int .i64 0, .int .i64 0, .bool false, .string ⟨#[]⟩]),
  .op (.st 9 (.tmp 15) (.tmp 70)),
  .kp [5, 6, 10, 12, 14, 15, 71],
  .op (.mov 16 (.tmp 71)),
  .kp [5, 6, 10, 12, 14, 15, 16]]
def f22r12 : List I := [.op (.mov 73 (.tmp 14)),
  .op (.mov 72 (.tmp 73)),
  .kp [5, 6, 10, 12, 15, 16, 72]]
def f22r13 : List I := [.op (.fad 74 0 (.tmp 12)),
  .op (.ld 75 none (.tmp 74)),
  .op (.bin 76 .eql (.tmp 75) (.const (.int .i64 26))),
  .op (.mov 8 (.tmp 76)),
  .kp [8]]
def f22r14 : List I := [.op (.fad 78 6 (.tmp 10)),
  .op (.ld 79 none (.tmp 78)),
  .op (.ld 80 (some 4) (.tmp 5)),
  .op (.call (some 81) 70 [(.tmp 79), (.tmp 80)]),
  .op (.mov 77 (.tmp 81)),
  .kp [6, 10, 12, 15, 16, 77]]
def f22r15 : List I := [.op (.fad 82 0 (.tmp 12)),
  .op (.ld 83 none (.tmp 82)),
  .op (.bin 84 .eql (.tmp 83) (.const (.int .i64 0))),
  .op (.mov 8 (.tmp 84)),
  .kp [8]]
def f22r16 : List I := [.op (.fad 86 0 (.tmp 6)),
  .op (.ld 87 none (.tmp 86)),
  .op (.fad 88 4 (.tmp 10)),
  .op (.ld 89 none (.tmp 88)),
  .op (.bin 90 .leq (.tmp 87) (.tmp 89)),
  .op (.mov 85 (.tmp 90)),
  .kp [6, 10, 12, 15, 16, 85]]
def f22r17a : List I := [.op (.mov 8 (.tmp 100)),
  .kp [8]]
def f22r17 : List I := .op (.fad 91 0 (.tmp 12)) ::
  .op (.ld 92 none (.tmp 91)) ::
  .op (.bin 93 .eql (.tmp 92) (.const (.int .i64 21))) ::
  .op (.mov 94 (.tmp 93)) ::
  .sc 94 true 5 ::
  .g 94 true (.fad 95 9 (.tmp 12)) ::
  .g 94 true (.ld 96 none (.tmp 95)) ::
  .g 94 true (.fad 97 4 (.tmp 10)) ::
  .g 94 true (.ld 98 none (.tmp 97)) ::
  .g 94 true (.bin 99 .eql (.tmp 96) (.tmp 98)) ::
  .op (.pick 100 (.tmp 94) (.tmp 99) (.const (.bool false))) ::
  .kp [100] ::
  f22r17a
def f22r18 : List I := [.op (.ld 102 (some 2) (.tmp 6)),
  .op (.fad 103 2 (.tmp 10)),
  .op (.ld 104 (some 2) (.tmp 103)),
  .op (.call (some 105) 42 [(.tmp 102), (.tmp 104)]),
  .op (.mov 101 (.tmp 105)),
  .kp [10, 12, 15, 16, 101]]
def f22r19a : List I := [.op (.mov 8 (.tmp 115)),
  .kp [8]]
def f22r19 : List I := .op (.fad 106 0 (.tmp 12)) ::
  .op (.ld 107 none (.tmp 106)) ::
  .op (.bin 108 .eql (.tmp 107) (.const (.int .i64 22))) ::
  .op (.mov 109 (.tmp 108)) ::
  .sc 109 true 5 ::
  .g 109 true (.fad 110 7 (.tmp 12)) ::
  .g 109 true (.ld 111 (some 2) (.tmp 110)) ::
  .g 109 true (.fad 112 2 (.tmp 10)) ::
  .g 109 true (.ld 113 (some 2) (.tmp 112)) ::
  .g 109 true (.eqa 114 false [.i .i64, .i .i64] (.tmp 111) (.tmp 113)) ::
  .op (.pick 115 (.tmp 109) (.tmp 114) (.const (.bool false))) ::
  .kp [115] ::
  f22r19a
def f22r20 : List I := [.op (.mov 117 (.tmp 16)),
  .op (.mov 116 (.tmp 117)),
  .kp [12, 15, 116]]
def f22r21c : List I := [.op (.mov 8 (.tmp 141)),
  .kp [8]]
def f22r21b : List I := .op (.mov 135 (.tmp 134)) ::
  .sc 135 true 5 ::
  .g 135 true (.fad 136 6 (.tmp 12)) ::
  .g 135 true (.ld 137 none (.tmp 136)) ::
  .g 135 true (.fad 138 4 (.tmp 15)) ::
  .g 135 true (.ld 139 none (.tmp 138)) ::
  .g 135 true (.bin 140 .eql (.tmp 137) (.tmp 139)) ::
  .op (.pick 141 (.tmp 135) (.tmp 140) (.const (.bool false))) ::
  .kp [141] ::
  f22r21c
def f22r21a : List I := .op (.mov 128 (.tmp 127)) ::
  .sc 128 true 5 ::
  .g 128 true (.fad 129 7 (.tmp 12)) ::
  .g 128 true (.ld 130 (some 2) (.tmp 129)) ::
  .g 128 true (.fad 131 5 (.tmp 15)) ::
  .g 128 true (.ld 132 (some 2) (.tmp 131)) ::
  .g 128 true (.eqa 133 false [.i .i64, .i .i64] (.tmp 130) (.tmp 132)) ::
  .op (.pick 134 (.tmp 128) (.tmp 133) (.const (.bool false))) ::
  .kp [134, 12, 15] ::
  f22r21b
def f22r21 : List I := .op (.fad 118 0 (.tmp 12)) ::
  .op (.ld 119 none (.tmp 118)) ::
  .op (.bin 120 .eql (.tmp 119) (.const (.int .i64 20))) ::
  .op (.mov 121 (.tmp 120)) ::
  .sc 121 true 5 ::
  .g 121 true (.fad 122 2 (.tmp 12)) ::
  .g 121 true (.ld 123 (some 4) (.tmp 122)) ::
  .g 121 true (.fad 124 0 (.tmp 15)) ::
  .g 121 true (.ld 125 (some 4) (.tmp 124)) ::
  .g 121 true (.eqa 126 false [.i .i64, .i .i64, .i .i64, .i .i64] (.tmp 123) (.tmp 125)) ::
  .op (.pick 127 (.tmp 121) (.tmp 126) (.const (.bool false))) ::
  .kp [127, 12, 15] ::
  f22r21a
def f22r22 : List I := [.op (.fad 142 0 (.tmp 12)),
  .op (.ld 143 none (.tmp 142)),
  .op (.bin 144 .eql (.tmp 143) (.const (.int .i64 0))),
  .op (.mov 8 (.tmp 144)),
  .kp [8]]
def f22c3 : C := (.seq (.reg f22r2) .ret)
def f22c6 : C := (.seq (.reg f22r4) .ret)
def f22c11 : C := (.seq (.reg f22r8) .ret)
def f22c18 : C := (.seq (.reg f22r13) .ret)
def f22c21 : C := (.seq (.reg f22r15) .ret)
def f22c24 : C := (.seq (.reg f22r17) .ret)
def f22c27 : C := (.seq (.reg f22r19) .ret)
def f22c30 : C := (.seq (.reg f22r21) .ret)
def f22c29 : C := (.cond (.tmp 116) f22c30 .skip)
def f22c28 : C := (.seq (.reg f22r20) f22c29)
def f22c26 : C := (.cond (.tmp 101) f22c27 f22c28)
def f22c25 : C := (.seq (.reg f22r18) f22c26)
def f22c23 : C := (.cond (.tmp 85) f22c24 f22c25)
def f22c22 : C := (.seq (.reg f22r16) f22c23)
def f22c20 : C := (.cond (.tmp 77) f22c21 f22c22)
def f22c19 : C := (.seq (.reg f22r14) f22c20)
def f22c17 : C := (.cond (.tmp 72) f22c18 f22c19)
def f22c16 : C := (.seq (.reg f22r12) f22c17)
def f22c31 : C := (.seq (.reg f22r22) .ret)
def f22c15 : C := (.seq (.block 0 f22c16) f22c31)
def f22c14 : C := (.seq (.reg f22r11) f22c15)
def f22c13 : C := (.seq (.reg f22r10) f22c14)
def f22c12 : C := (.seq (.reg f22r9) f22c13)
def f22c10 : C := (.seq (.cond (.tmp 44) f22c11 .skip) f22c12)
def f22c9 : C := (.seq (.reg f22r7) f22c10)
def f22c8 : C := (.seq (.reg f22r6) f22c9)
def f22c7 : C := (.seq (.reg f22r5) f22c8)
def f22c5 : C := (.seq (.cond (.tmp 33) f22c6 .skip) f22c7)
def f22c4 : C := (.seq (.reg f22r3) f22c5)
def f22c2 : C := (.seq (.cond (.tmp 18) f22c3 .skip) f22c4)
def f22c1 : C := (.seq (.reg f22r1) f22c2)
def f22c0 : C := (.seq (.reg f22r0) f22c1)
theorem f22cmp : cmpF Try.prog Try.f22 [.l [.o 0, .o 1, .o 2, .o 3, .kp [0, 5, 6, 7]],
  .l [.o 0, .o 1, .kp [0, 5, 6, 7, 18]],
  .l [.o 0, .kp [8]],
  .l [.o 0, .o 1, .o 2, .o 3, .sc 22 false 4, .o 4, .o 5, .o 6, .o 7, .o 8, .kp [27, 0, 5, 6, 7], .o 9, .sc 28 false 4, .o 10, .o 11, .o 12, .o 13, .o 14, .kp [33, 0, 5, 6, 7]],
  .l [.o 0, .kp [8]],
  .l [.o 0, .o 1, .o 2, .kp [5, 6, 7, 9]],
  .l [.o 0, .o 1, .o 2, .o 3, .o 4, .o 5, .o 6, .o 7, .kp [5, 6, 7, 10]],
  .l [.o 0, .o 1, .o 2, .kp [5, 6, 7, 10, 44]],
  .l [.o 0, .kp [8]],
  .l [.o 0, .o 1, .o 2, .o 3, .o 4, .o 5, .o 6, .o 7, .o 8, .o 9, .kp [5, 6, 7, 10, 45], .o 10, .o 11, .o 12, .o 13, .o 14, .o 15, .kp [5, 6, 7, 10, 12]],
  .l [.o 0, .o 1, .o 2, .o 3, .o 4, .o 5, .o 6, .o 7, .o 8, .o 9, .kp [5, 6, 7, 10, 12, 14]],
  .l [.o 0, .o 1, .o 2, .o 3, .o 4, .o 5, .o 6, .o 7, .o 8, .o 9, .kp [5, 6, 10, 12, 14, 15, 71], .o 10, .kp [5, 6, 10, 12, 14, 15, 16]],
  .l [.o 0, .o 1, .kp [5, 6, 10, 12, 15, 16, 72]],
  .l [.o 0, .o 1, .o 2, .o 3, .kp [8]],
  .l [.o 0, .o 1, .o 2, .o 3, .o 4, .kp [6, 10, 12, 15, 16, 77]],
  .l [.o 0, .o 1, .o 2, .o 3, .kp [8]],
  .l [.o 0, .o 1, .o 2, .o 3, .o 4, .o 5, .kp [6, 10, 12, 15, 16, 85]],
  .l [.o 0, .o 1, .o 2, .o 3, .sc 94 true 5, .o 4, .o 5, .o 6, .o 7, .o 8, .o 9, .kp [100], .o 10, .kp [8]],
  .l [.o 0, .o 1, .o 2, .o 3, .o 4, .kp [10, 12, 15, 16, 101]],
  .l [.o 0, .o 1, .o 2, .o 3, .sc 109 true 5, .o 4, .o 5, .o 6, .o 7, .o 8, .o 9, .kp [115], .o 10, .kp [8]],
  .l [.o 0, .o 1, .kp [12, 15, 116]],
  .l [.o 0, .o 1, .o 2, .o 3, .sc 121 true 5, .o 4, .o 5, .o 6, .o 7, .o 8, .o 9, .kp [127, 12, 15], .o 10, .sc 128 true 5, .o 11, .o 12, .o 13, .o 14, .o 15, .o 16, .kp [134, 12, 15], .o 17, .sc 135 true 5, .o 18, .o 19, .o 20, .o 21, .o 22, .o 23, .kp [141], .o 24, .kp [8]],
  .l [.o 0, .o 1, .o 2, .o 3, .kp [8]]] = some (f22c0, [.tmp 8]) := by kernel_rfl
theorem f22ok {args : List Value} {h : Heap} {R : Value → Heap → Prop} (hn : args.length ≤ 145) (H : wC Try.prog f22c0 (endW [.tmp 8] R) (envOf 0 args) h) : CallsH Try.prog 22 args h R :=
  fn_ok2 Try.func22 f22cmp hn H
section
variable {Q : X → Env → Heap → Prop} {σ : Env} {h : Heap}
theorem f22c6_eq : wC Try.prog f22c6 Q σ h = (wL Try.prog none f22r4 0 (fun σ h => Q .ret σ h) σ h) := rfl
theorem f22c11_eq : wC Try.prog f22c11 Q σ h = (wL Try.prog none f22r8 0 (fun σ h => Q .ret σ h) σ h) := rfl
theorem f22c18_eq : wC Try.prog f22c18 Q σ h = (wL Try.prog none f22r13 0 (fun σ h => Q .ret σ h) σ h) := rfl
theorem f22c21_eq : wC Try.prog f22c21 Q σ h = (wL Try.prog none f22r15 0 (fun σ h => Q .ret σ h) σ h) := rfl
theorem f22c24_eq : wC Try.prog f22c24 Q σ h = (wL Try.prog none f22r17 0 (fun σ h => Q .ret σ h) σ h) := rfl
theorem f22c27_eq : wC Try.prog f22c27 Q σ h = (wL Try.prog none f22r19 0 (fun σ h => Q .ret σ h) σ h) := rfl
theorem f22c30_eq : wC Try.prog f22c30 Q σ h = (wL Try.prog none f22r21 0 (fun σ h => Q .ret σ h) σ h) := rfl
theorem f22c29_eq : wC Try.prog f22c29 Q σ h = (bd (evO σ (.tmp 116)) fun v => bd (asB v) fun t => br t (wC Try.prog f22c30 Q σ h) (Q .normal σ h)) := rfl
theorem f22c28_eq : wC Try.prog f22c28 Q σ h = (wL Try.prog none f22r20 0 (fun σ h => wC Try.prog f22c29 Q σ h) σ h) := rfl
theorem f22c26_eq : wC Try.prog f22c26 Q σ h = (bd (evO σ (.tmp 101)) fun v => bd (asB v) fun t => br t (wC Try.prog f22c27 Q σ h) (wC Try.prog f22c28 Q σ h)) := rfl
theorem f22c25_eq : wC Try.prog f22c25 Q σ h = (wL Try.prog none f22r18 0 (fun σ h => wC Try.prog f22c26 Q σ h) σ h) := rfl
theorem f22c23_eq : wC Try.prog f22c23 Q σ h = (bd (evO σ (.tmp 85)) fun v => bd (asB v) fun t => br t (wC Try.prog f22c24 Q σ h) (wC Try.prog f22c25 Q σ h)) := rfl
theorem f22c22_eq : wC Try.prog f22c22 Q σ h = (wL Try.prog none f22r16 0 (fun σ h => wC Try.prog f22c23 Q σ h) σ h) := rfl
theorem f22c20_eq : wC Try.prog f22c20 Q σ h = (bd (evO σ (.tmp 77)) fun v => bd (asB v) fun t => br t (wC Try.prog f22c21 Q σ h) (wC Try.prog f22c22 Q σ h)) := rfl
theorem f22c19_eq : wC Try.prog f22c19 Q σ h = (wL Try.prog none f22r14 0 (fun σ h => wC Try.prog f22c20 Q σ h) σ h) := rfl
theorem f22c17_eq : wC Try.prog f22c17 Q σ h = (bd (evO σ (.tmp 72)) fun v => bd (asB v) fun t => br t (wC Try.prog f22c18 Q σ h) (wC Try.prog f22c19 Q σ h)) := rfl
theorem f22c16_eq : wC Try.prog f22c16 Q σ h = (wL Try.prog none f22r12 0 (fun σ h => wC Try.prog f22c17 Q σ h) σ h) := rfl
theorem f22c31_eq : wC Try.prog f22c31 Q σ h = (wL Try.prog none f22r22 0 (fun σ h => Q .ret σ h) σ h) := rfl
theorem f22c15_eq : wC Try.prog f22c15 Q σ h = (wC Try.prog f22c16 (X.inBlock 0 (X.then (fun σ h => wC Try.prog f22c31 Q σ h) Q)) σ h) := rfl
theorem f22c14_eq : wC Try.prog f22c14 Q σ h = (wL Try.prog none f22r11 0 (fun σ h => wC Try.prog f22c15 Q σ h) σ h) := rfl
theorem f22c13_eq : wC Try.prog f22c13 Q σ h = (wL Try.prog none f22r10 0 (fun σ h => wC Try.prog f22c14 Q σ h) σ h) := rfl
theorem f22c12_eq : wC Try.prog f22c12 Q σ h = (wL Try.prog none f22r9 0 (fun σ h => wC Try.prog f22c13 Q σ h) σ h) := rfl
theorem f22c10_eq : wC Try.prog f22c10 Q σ h = (bd (evO σ (.tmp 44)) fun v => bd (asB v) fun t => br t (wC Try.prog f22c11 (X.then (fun σ h => wC Try.prog f22c12 Q σ h) Q) σ h) (wC Try.prog f22c12 Q σ h)) := rfl
theorem f22c9_eq : wC Try.prog f22c9 Q σ h = (wL Try.prog none f22r7 0 (fun σ h => wC Try.prog f22c10 Q σ h) σ h) := rfl
theorem f22c8_eq : wC Try.prog f22c8 Q σ h = (wL Try.prog none f22r6 0 (fun σ h => wC Try.prog f22c9 Q σ h) σ h) := rfl
theorem f22c7_eq : wC Try.prog f22c7 Q σ h = (wL Try.prog none f22r5 0 (fun σ h => wC Try.prog f22c8 Q σ h) σ h) := rfl
theorem f22c5_eq : wC Try.prog f22c5 Q σ h = (bd (evO σ (.tmp 33)) fun v => bd (asB v) fun t => br t (wC Try.prog f22c6 (X.then (fun σ h => wC Try.prog f22c7 Q σ h) Q) σ h) (wC Try.prog f22c7 Q σ h)) := rfl
theorem f22c4_eq : wC Try.prog f22c4 Q σ h = (wL Try.prog none f22r3 0 (fun σ h => wC Try.prog f22c5 Q σ h) σ h) := rfl
theorem f22c2_eq : wC Try.prog f22c2 Q σ h = (bd (evO σ (.tmp 18)) fun v => bd (asB v) fun t => br t (wC Try.prog f22c3 (X.then (fun σ h => wC Try.prog f22c4 Q σ h) Q) σ h) (wC Try.prog f22c4 Q σ h)) := rfl
theorem f22c1_eq : wC Try.prog f22c1 Q σ h = (wL Try.prog none f22r1 0 (fun σ h => wC Try.prog f22c2 Q σ h) σ h) := rfl
theorem f22c0_eq : wC Try.prog f22c0 Q σ h = (wL Try.prog none f22r0 0 (fun σ h => wC Try.prog f22c1 Q σ h) σ h) := rfl
end
end Go.Proofs.Ytefghfgmkndikaa
namespace Go.Proofs.Ytefghfgmkndikaa
open Go Go.AX
set_option maxHeartbeats 4000000 in
theorem stops_ok {B : Nat → Prop} {a : Option Addr} {n : Nat} (l : List Cmd) (by_ : Try4) (t : Stamp) (w : Wri) (h : Heap) (S : SlM B h a l) (F : LenM l) {R : Value → Heap → Prop}
    (hR : ∀ h', Ext h h' → R (.bool true) h') : CallsH Try.prog 22 [.slice a l.length n, .agg (eTry by_).toArray, .agg (eStamp t).toArray, .agg (eWri w).toArray] h R := by
  have hbig : big = 1000000 := rfl
  have hm : mostEpoch = 1099511627776 := rfl
  refine f22ok (by simp) ?_
  (try simp (config := { maxSteps := 1000000 }) (disch := first | exact Nat.le_of_ble_eq_true rfl | omega) only [AXS, AXB, J.dst, reduceIte, Nat.reduceEqDiff, Nat.reduceAdd, Nat.reduceMul, Nat.reduceLT, Nat.reduceLeDiff]); rw [f22c0_eq]; (try simp (config := { maxSteps := 1000000 }) (disch := first | exact Nat.le_of_ble_eq_true rfl | omega) only [AXS, AXB, J.dst, reduceIte, Nat.reduceEqDiff, Nat.reduceAdd, Nat.reduceMul, Nat.reduceLT, Nat.reduceLeDiff, f22r0])
  refine wL_boxN rfl ?_; rintro b1 h1 x1 s1 hb1 (B1 : Blk _ _ _ (eTry by_))
  refine wL_boxN rfl ?_; rintro b2 h2 x2 s2 hb2 (B2 : Blk _ _ _ (eStamp t))
  refine wL_boxN rfl ?_; rintro b3 h3 x3 s3 hb3 (B3 : Blk _ _ _ (eWri w))
  replace B1 := B1.ext x2; replace B1 := B1.ext x3; replace B2 := B2.ext x3
  have x03 := (x1.trans x2).trans x3
  (try simp (config := { maxSteps := 1000000 }) (disch := first | exact Nat.le_of_ble_eq_true rfl | omega) only [AXS, AXB, J.dst, reduceIte, Nat.reduceEqDiff, Nat.reduceAdd, Nat.reduceMul, Nat.reduceLT, Nat.reduceLeDiff]); rw [f22c1_eq]; (try simp (config := { maxSteps := 1000000 }) (disch := first | exact Nat.le_of_ble_eq_true rfl | omega) only [AXS, AXB, J.dst, reduceIte, Nat.reduceEqDiff, Nat.reduceAdd, Nat.reduceMul, Nat.reduceLT, Nat.reduceLeDiff, f22r1])
  refine begunP_ok _ ?_
  intro h4 x4
  refine ⟨trivial, ?_⟩
  replace B1 := B1.ext x4; replace B2 := B2.ext x4; replace B3 := B3.ext x4
  have x04 := x03.trans x4
  (try simp (config := { maxSteps := 1000000 }) (disch := first | exact Nat.le_of_ble_eq_true rfl | omega) only [AXS, AXB, J.dst, reduceIte, Nat.reduceEqDiff, Nat.reduceAdd, Nat.reduceMul, Nat.reduceLT, Nat.reduceLeDiff]); rw [f22c2_eq]; (try simp (config := { maxSteps := 1000000 }) (disch := first | exact Nat.le_of_ble_eq_true rfl | omega) only [AXS, AXB, J.dst, reduceIte, Nat.reduceEqDiff, Nat.reduceAdd, Nat.reduceMul, Nat.reduceLT, Nat.reduceLeDiff])
  rw [f22c4_eq]
  simp (config := { maxSteps := 1000000 }) (disch := first | exact Nat.le_of_ble_eq_true rfl | omega) only [AXJ, AXS, AXB, J.dst, reduceIte, Nat.reduceEqDiff, Nat.reduceAdd, Nat.reduceMul, Nat.reduceLT, Nat.reduceLeDiff, f22r3]
  refine lightP_ok l 40 _ (S.ext x04) F ?_
  intro bl h5 hbl x5
  refine ⟨trivial, ?_⟩
  replace B1 := B1.ext x5; replace B2 := B2.ext x5; replace B3 := B3.ext x5
  have x05 := x04.trans x5
  simp (config := { maxSteps := 1000000 }) (disch := first | exact Nat.le_of_ble_eq_true rfl | omega) only [AXJ, AXS, AXB, J.dst, reduceIte, Nat.reduceEqDiff, Nat.reduceAdd, Nat.reduceMul, Nat.reduceLT, Nat.reduceLeDiff, B3.cel, eWri]
  simp (config := { maxSteps := 1000000 }) (disch := first | exact Nat.le_of_ble_eq_true rfl | omega) only [AXJ, AXS, AXB, J.dst, reduceIte, Nat.reduceEqDiff, Nat.reduceAdd, Nat.reduceMul, Nat.reduceLT, Nat.reduceLeDiff, f22r3a, B3.cel, eWri]
  (try simp (config := { maxSteps := 1000000 }) (disch := first | exact Nat.le_of_ble_eq_true rfl | omega) only [AXS, AXB, J.dst, reduceIte, Nat.reduceEqDiff, Nat.reduceAdd, Nat.reduceMul, Nat.reduceLT, Nat.reduceLeDiff]); rw [f22c5_eq]; (try simp (config := { maxSteps := 1000000 }) (disch := first | exact Nat.le_of_ble_eq_true rfl | omega) only [AXS, AXB, J.dst, reduceIte, Nat.reduceEqDiff, Nat.reduceAdd, Nat.reduceMul, Nat.reduceLT, Nat.reduceLeDiff])
  refine ⟨fun hh => ?_, fun hh => ?_⟩
  · (try simp (config := { maxSteps := 1000000 }) (disch := first | exact Nat.le_of_ble_eq_true rfl | omega) only [AXS, AXB, J.dst, reduceIte, Nat.reduceEqDiff, Nat.reduceAdd, Nat.reduceMul, Nat.reduceLT, Nat.reduceLeDiff]); rw [f22c6_eq]; (try simp (config := { maxSteps := 1000000 }) (disch := first | exact Nat.le_of_ble_eq_true rfl | omega) only [AXS, AXB, J.dst, reduceIte, Nat.reduceEqDiff, Nat.reduceAdd, Nat.reduceMul, Nat.reduceLT, Nat.reduceLeDiff, f22r4])
    exact hR _ x05
  have hbt : bl = true := by
    cases bl with
    | true => rfl
    | false => simp at hh
  obtain ⟨hL, hF⟩ := hbl hbt
  clear hh hbl
  have hb3l := B3.lt
  (try simp (config := { maxSteps := 1000000 }) (disch := first | exact Nat.le_of_ble_eq_true rfl | omega) only [AXS, AXB, J.dst, reduceIte, Nat.reduceEqDiff, Nat.reduceAdd, Nat.reduceMul, Nat.reduceLT, Nat.reduceLeDiff]); rw [f22c7_eq]; (try simp (config := { maxSteps := 1000000 }) (disch := first | exact Nat.le_of_ble_eq_true rfl | omega) only [AXS, AXB, J.dst, reduceIte, Nat.reduceEqDiff, Nat.reduceAdd, Nat.reduceMul, Nat.reduceLT, Nat.reduceLeDiff, f22r5])
  refine run_ok l _ (S.ext x05) hF (by omega) ?_
  intro ao co h6 O x6
  refine ⟨trivial, ?_⟩
  replace B1 := B1.ext x6; replace B2 := B2.ext x6; replace B3 := B3.ext x6
  have x06 := x05.trans x6
  obtain ⟨ba, oa, va, rfl, hrowa, hpa⟩ := O.elem (allP_at (Nat.le_refl l.length))
  have hg := runs_good hF l.length (Nat.le_refl _)
  rw [List.take_length] at hpa hg
  have hw : IntKind.i64.wrap (((l.length + 1 : Nat) : Int) - 1) = (l.length : Int) := by rw [i64_wrap (by omega) (by omega)]; omega
  (try simp (config := { maxSteps := 1000000 }) (disch := first | exact Nat.le_of_ble_eq_true rfl | omega) only [AXS, AXB, J.dst, reduceIte, Nat.reduceEqDiff, Nat.reduceAdd, Nat.reduceMul, Nat.reduceLT, Nat.reduceLeDiff]); rw [f22c8_eq]; (try simp (config := { maxSteps := 1000000 }) (disch := first | exact Nat.le_of_ble_eq_true rfl | omega) only [AXS, AXB, J.dst, reduceIte, Nat.reduceEqDiff, Nat.reduceAdd, Nat.reduceMul, Nat.reduceLT, Nat.reduceLeDiff, f22r6, hw, row_pr hrowa])
  refine ⟨by omega, by omega, ?_⟩
  refine wL_newN ?_; rintro b4 h7 x7 s7 hb4 B4
  replace B1 := B1.ext x7; replace B2 := B2.ext x7; replace B3 := B3.ext x7
  try simp (config := { maxSteps := 1000000 }) (disch := first | exact Nat.le_of_ble_eq_true rfl | omega) only [AXS, AXB, J.dst, reduceIte, Nat.reduceEqDiff, Nat.reduceAdd, Nat.reduceMul, Nat.reduceLT, Nat.reduceLeDiff]
  refine wL_stN rfl rfl rfl B4 (by decide) (ePr_one va) ?_
  rintro h8 u8 (B4 : Blk _ _ _ (ePr va))
  have z5 := x5.size
  have z6 := x6.size
  have z7 := x7.size
  have z8 := u8.size
  have x68 := u8.ext x7 (by omega)
  have x08 := x06.trans x68
  have y1 := B1.lt
  have y2 := B2.lt
  have y3 := B3.lt
  replace B1 := u8.blk B1 (by omega)
  replace B2 := u8.blk B2 (by omega)
  replace B3 := u8.blk B3 (by omega)
  have hp8 := hpa.ext x68
  have hvs := hpa.s
  generalize runP l = p at *
  (try simp (config := { maxSteps := 1000000 }) (disch := first | exact Nat.le_of_ble_eq_true rfl | omega) only [AXS, AXB, J.dst, reduceIte, Nat.reduceEqDiff, Nat.reduceAdd, Nat.reduceMul, Nat.reduceLT, Nat.reduceLeDiff]); rw [f22c9_eq]; (try simp (config := { maxSteps := 1000000 }) (disch := first | exact Nat.le_of_ble_eq_true rfl | omega) only [AXS, AXB, J.dst, reduceIte, Nat.reduceEqDiff, Nat.reduceAdd, Nat.reduceMul, Nat.reduceLT, Nat.reduceLeDiff, f22r7, B4.cel, ePr, hvs])
  (try simp (config := { maxSteps := 1000000 }) (disch := first | exact Nat.le_of_ble_eq_true rfl | omega) only [AXS, AXB, J.dst, reduceIte, Nat.reduceEqDiff, Nat.reduceAdd, Nat.reduceMul, Nat.reduceLT, Nat.reduceLeDiff]); rw [f22c10_eq]; (try simp (config := { maxSteps := 1000000 }) (disch := first | exact Nat.le_of_ble_eq_true rfl | omega) only [AXS, AXB, J.dst, reduceIte, Nat.reduceEqDiff, Nat.reduceAdd, Nat.reduceMul, Nat.reduceLT, Nat.reduceLeDiff])
  refine ⟨fun he => ?_, fun he => ?_⟩
  · (try simp (config := { maxSteps := 1000000 }) (disch := first | exact Nat.le_of_ble_eq_true rfl | omega) only [AXS, AXB, J.dst, reduceIte, Nat.reduceEqDiff, Nat.reduceAdd, Nat.reduceMul, Nat.reduceLT, Nat.reduceLeDiff]); rw [f22c11_eq]; (try simp (config := { maxSteps := 1000000 }) (disch := first | exact Nat.le_of_ble_eq_true rfl | omega) only [AXS, AXB, J.dst, reduceIte, Nat.reduceEqDiff, Nat.reduceAdd, Nat.reduceMul, Nat.reduceLT, Nat.reduceLeDiff, f22r8])
    exact hR _ x08
  have he' : ¬ p.s.epoch = 0 := by simpa using he
  (try simp (config := { maxSteps := 1000000 }) (disch := first | exact Nat.le_of_ble_eq_true rfl | omega) only [AXS, AXB, J.dst, reduceIte, Nat.reduceEqDiff, Nat.reduceAdd, Nat.reduceMul, Nat.reduceLT, Nat.reduceLeDiff]); rw [f22c12_eq]; (try simp (config := { maxSteps := 1000000 }) (disch := first | exact Nat.le_of_ble_eq_true rfl | omega) only [AXS, AXB, J.dst, reduceIte, Nat.reduceEqDiff, Nat.reduceAdd, Nat.reduceMul, Nat.reduceLT, Nat.reduceLeDiff, f22r9, B4.rd, B4.cel, ePr, hvs, B1.rd, eTry, B2.rd, eStamp, B3.rd, eWri])
  refine wL_bslN rfl ?_; rintro b5 h9 x9 s9 hb5 (B5 : Blk _ _ _ (eWri w))
  replace B1 := B1.ext x9; replace B2 := B2.ext x9; replace B3 := B3.ext x9; replace B4 := B4.ext x9
  have x09 := x08.trans x9
  try simp (config := { maxSteps := 1000000 }) (disch := first | exact Nat.le_of_ble_eq_true rfl | omega) only [AXS, AXB, J.dst, reduceIte, Nat.reduceEqDiff, Nat.reduceAdd, Nat.reduceMul, Nat.reduceLT, Nat.reduceLeDiff]
  generalize hce : (⟨⟨3, p.s.epoch, 0, 0, by_, t, 0, false⟩, [], [w]⟩ : Cmd) = c
  have hC : CmR (fun _ => True) h9 ⟨⟨3, p.s.epoch, 0, 0, by_, t, 0, false⟩, none, 0, 0, some ⟨b5, 0, none⟩, 1, 1⟩ c := by
    subst hce
    exact ⟨rfl, rfl, rfl, .nil, fun _ => ⟨b5, 0, rfl, trivial, by simpa using B5.row⟩⟩
  have hap : (applyP p c).2 = (prepP p c).2 := by
    rw [applyP_2 p c (by subst hce; show ¬ (3 : Int) = 1; decide) he' (by subst hce; rfl), does_prep p c (by subst hce; rfl)]
  refine apply_ok (n := 100 * l.length) { va with s := p.s } p ⟨⟨3, p.s.epoch, 0, 0, by_, t, 0, false⟩, none, 0, 0, some ⟨b5, 0, none⟩, 1, 1⟩ c _ ⟨rfl, hp8.cn, hp8.cc, hp8.rn, hp8.dn, hp8.cells.ext x9, hp8.records.ext x9, hp8.done.ext x9⟩ hC hg.sz (by subst hce; show 100 * l.length + 1 ≤ _; omega) (by subst hce; show 0 ≤ _; omega) hg.e0 ?_
  intro pv' rv h10 P10 K10 x10
  refine ⟨trivial, ?_⟩
  try simp (config := { maxSteps := 1000000 }) (disch := first | exact Nat.le_of_ble_eq_true rfl | omega) only [AXS, AXB, J.dst, reduceIte, Nat.reduceEqDiff, Nat.reduceAdd, Nat.reduceMul, Nat.reduceLT, Nat.reduceLeDiff]
  refine wL_newN ?_; rintro b6 h11 x11 s11 hb6 B6
  try simp (config := { maxSteps := 1000000 }) (disch := first | exact Nat.le_of_ble_eq_true rfl | omega) only [AXS, AXB, J.dst, reduceIte, Nat.reduceEqDiff, Nat.reduceAdd, Nat.reduceMul, Nat.reduceLT, Nat.reduceLeDiff]
  refine wL_newN ?_; rintro b7 h12 x12 s12 hb7 B7
  replace B6 := B6.ext x12
  try simp (config := { maxSteps := 1000000 }) (disch := first | exact Nat.le_of_ble_eq_true rfl | omega) only [AXS, AXB, J.dst, reduceIte, Nat.reduceEqDiff, Nat.reduceAdd, Nat.reduceMul, Nat.reduceLT, Nat.reduceLeDiff]
  refine wL_stN rfl rfl rfl B6 (by decide) (ePr_one pv') ?_
  rintro h13 u13 (B6 : Blk _ _ _ (ePr pv'))
  try simp (config := { maxSteps := 1000000 }) (disch := first | exact Nat.le_of_ble_eq_true rfl | omega) only [AXS, AXB, J.dst, reduceIte, Nat.reduceEqDiff, Nat.reduceAdd, Nat.reduceMul, Nat.reduceLT, Nat.reduceLeDiff]
  refine wL_stN rfl rfl rfl (u13.blk B7 (by omega)) (by decide) (eRp_one rv) ?_
  rintro h14 u14 (B7 : Blk _ _ _ (eRp rv))
  have x914 := x10.trans (u14.ext (u13.ext (x11.trans x12) (by omega)) (by omega))
  replace B1 := B1.ext x914; replace B2 := B2.ext x914; replace B3 := B3.ext x914; replace B4 := B4.ext x914
  have x014 := x09.trans x914
  have w1 := B1.lt
  have w2 := B2.lt
  have w3 := B3.lt
  have w4 := B4.lt
  have w7 := B7.lt
  have hp14 := (hp8.ext x9).ext x914
  have hrv := K10.s
  rw [hap] at hrv
  clear hap K10 P10 hpa hp8 hC
  have g := hg.sz.cells
  have gd := hg.sz.done
  (try simp (config := { maxSteps := 1000000 }) (disch := first | exact Nat.le_of_ble_eq_true rfl | omega) only [AXS, AXB, J.dst, reduceIte, Nat.reduceEqDiff, Nat.reduceAdd, Nat.reduceMul, Nat.reduceLT, Nat.reduceLeDiff]); rw [f22c13_eq]; (try simp (config := { maxSteps := 1000000 }) (disch := first | exact Nat.le_of_ble_eq_true rfl | omega) only [AXS, AXB, J.dst, reduceIte, Nat.reduceEqDiff, Nat.reduceAdd, Nat.reduceMul, Nat.reduceLT, Nat.reduceLeDiff, f22r10, B4.cel, ePr, hp14.dn, B1.rd, eTry])
  refine rfindO_ok p.done by_ _ hp14.done (by unfold maxLen; omega) ?_
  intro h15 x15
  refine ⟨trivial, ?_⟩
  replace B1 := B1.ext x15; replace B2 := B2.ext x15; replace B3 := B3.ext x15; replace B4 := B4.ext x15; replace B7 := B7.ext x15
  try simp (config := { maxSteps := 1000000 }) (disch := first | exact Nat.le_of_ble_eq_true rfl | omega) only [AXS, AXB, J.dst, reduceIte, Nat.reduceEqDiff, Nat.reduceAdd, Nat.reduceMul, Nat.reduceLT, Nat.reduceLeDiff]
  refine wL_newN ?_; rintro b8 h16 x16 s16 hb8 B8
  replace B1 := B1.ext x16; replace B2 := B2.ext x16; replace B3 := B3.ext x16; replace B4 := B4.ext x16; replace B7 := B7.ext x16
  try simp (config := { maxSteps := 1000000 }) (disch := first | exact Nat.le_of_ble_eq_true rfl | omega) only [AXS, AXB, J.dst, reduceIte, Nat.reduceEqDiff, Nat.reduceAdd, Nat.reduceMul, Nat.reduceLT, Nat.reduceLeDiff]
  refine wL_stN rfl rfl rfl B8 (by decide) (eOut_one _) ?_
  rintro h17 u17 -
  have x1417 := x15.trans (u17.ext x16 (by omega))
  have v15 := x15.size
  have v16 := x16.size
  have v17 := u17.size
  replace B1 := u17.blk B1 (by omega)
  replace B2 := u17.blk B2 (by omega)
  replace B3 := u17.blk B3 (by omega)
  replace B4 := u17.blk B4 (by omega)
  replace B7 := u17.blk B7 (by omega)
  have x017 := x014.trans x1417
  have hp17 := hp14.ext x1417
  (try simp (config := { maxSteps := 1000000 }) (disch := first | exact Nat.le_of_ble_eq_true rfl | omega) only [AXS, AXB, J.dst, reduceIte, Nat.reduceEqDiff, Nat.reduceAdd, Nat.reduceMul, Nat.reduceLT, Nat.reduceLeDiff]); rw [f22c14_eq]; (try simp (config := { maxSteps := 1000000 }) (disch := first | exact Nat.le_of_ble_eq_true rfl | omega) only [AXS, AXB, J.dst, reduceIte, Nat.reduceEqDiff, Nat.reduceAdd, Nat.reduceMul, Nat.reduceLT, Nat.reduceLeDiff, f22r11, B4.cel, ePr, hp17.cn, B3.cel, eWri])
  refine rheldG g (by omega) hp17.cells w.key ?_
  intro h18 x18
  refine ⟨trivial, ?_⟩
  replace B1 := B1.ext x18; replace B2 := B2.ext x18; replace B3 := B3.ext x18; replace B4 := B4.ext x18; replace B7 := B7.ext x18
  try simp (config := { maxSteps := 1000000 }) (disch := first | exact Nat.le_of_ble_eq_true rfl | omega) only [AXS, AXB, J.dst, reduceIte, Nat.reduceEqDiff, Nat.reduceAdd, Nat.reduceMul, Nat.reduceLT, Nat.reduceLeDiff]
  refine wL_newN ?_; rintro b9 h19 x19 s19 hb9 B9
  replace B1 := B1.ext x19; replace B2 := B2.ext x19; replace B3 := B3.ext x19; replace B4 := B4.ext x19; replace B7 := B7.ext x19
  try simp (config := { maxSteps := 1000000 }) (disch := first | exact Nat.le_of_ble_eq_true rfl | omega) only [AXS, AXB, J.dst, reduceIte, Nat.reduceEqDiff, Nat.reduceAdd, Nat.reduceMul, Nat.reduceLT, Nat.reduceLeDiff]
  refine wL_stN rfl rfl rfl B9 (by decide) (eLck_one _) ?_
  rintro h20 u20 (B9 : Blk _ _ _ (eLck (heldK p.cells w.key).1))
  have x1720 := x18.trans (u20.ext x19 (by omega))
  have v18 := x18.size
  have v19 := x19.size
  replace B1 := u20.blk B1 (by omega)
  replace B2 := u20.blk B2 (by omega)
  replace B3 := u20.blk B3 (by omega)
  replace B4 := u20.blk B4 (by omega)
  replace B7 := u20.blk B7 (by omega)
  have x020 := x017.trans x1720
  have hp20 := hp17.ext x1720
  have hcby : c.s.by_ = by_ := by rw [← hce]
  have hcat : c.s.at_ = t := by rw [← hce]
  have hcw : c.writes = [w] := by rw [← hce]
  try simp (config := { maxSteps := 1000000 }) (disch := first | exact Nat.le_of_ble_eq_true rfl | omega) only [AXS, AXB, J.dst, reduceIte, Nat.reduceEqDiff, Nat.reduceAdd, Nat.reduceMul, Nat.reduceLT, Nat.reduceLeDiff]
  rw [f22c15_eq]
  (try simp (config := { maxSteps := 1000000 }) (disch := first | exact Nat.le_of_ble_eq_true rfl | omega) only [AXS, AXB, J.dst, reduceIte, Nat.reduceEqDiff, Nat.reduceAdd, Nat.reduceMul, Nat.reduceLT, Nat.reduceLeDiff]); rw [f22c16_eq]; (try simp (config := { maxSteps := 1000000 }) (disch := first | exact Nat.le_of_ble_eq_true rfl | omega) only [AXS, AXB, J.dst, reduceIte, Nat.reduceEqDiff, Nat.reduceAdd, Nat.reduceMul, Nat.reduceLT, Nat.reduceLeDiff, f22r12]); rw [f22c17_eq]; (try simp (config := { maxSteps := 1000000 }) (disch := first | exact Nat.le_of_ble_eq_true rfl | omega) only [AXS, AXB, J.dst, reduceIte, Nat.reduceEqDiff, Nat.reduceAdd, Nat.reduceMul, Nat.reduceLT, Nat.reduceLeDiff])
  refine ⟨fun q1 => ?_, fun q1 => ?_⟩
  · obtain ⟨o, ho⟩ := Option.isSome_iff_exists.1 q1
    have hr : rv.s = { okS with err := 26, yes := o.yes } := by
      rw [hrv]; unfold prepP; rw [hcby, ho]
    (try simp (config := { maxSteps := 1000000 }) (disch := first | exact Nat.le_of_ble_eq_true rfl | omega) only [AXS, AXB, J.dst, reduceIte, Nat.reduceEqDiff, Nat.reduceAdd, Nat.reduceMul, Nat.reduceLT, Nat.reduceLeDiff]); rw [f22c18_eq]; (try simp (config := { maxSteps := 1000000 }) (disch := first | exact Nat.le_of_ble_eq_true rfl | omega) only [AXS, AXB, J.dst, reduceIte, Nat.reduceEqDiff, Nat.reduceAdd, Nat.reduceMul, Nat.reduceLT, Nat.reduceLeDiff, f22r13, B7.cel, eRp, hr, okS, show ((26 : Int) == 26) = true from rfl])
    exact hR _ x020
  have hno : findO p.done by_ = none := by simpa using q1
  (try simp (config := { maxSteps := 1000000 }) (disch := first | exact Nat.le_of_ble_eq_true rfl | omega) only [AXS, AXB, J.dst, reduceIte, Nat.reduceEqDiff, Nat.reduceAdd, Nat.reduceMul, Nat.reduceLT, Nat.reduceLeDiff]); rw [f22c19_eq]; (try simp (config := { maxSteps := 1000000 }) (disch := first | exact Nat.le_of_ble_eq_true rfl | omega) only [AXS, AXB, J.dst, reduceIte, Nat.reduceEqDiff, Nat.reduceAdd, Nat.reduceMul, Nat.reduceLT, Nat.reduceLeDiff, f22r14, B4.cel, ePr, hp20.cn, B1.rd, eTry])
  refine rmineG g (by omega) hp20.cells by_ ?_
  intro h21 x21
  refine ⟨trivial, ?_⟩
  replace B1 := B1.ext x21; replace B2 := B2.ext x21; replace B3 := B3.ext x21; replace B4 := B4.ext x21; replace B7 := B7.ext x21; replace B9 := B9.ext x21
  have x021 := x020.trans x21
  (try simp (config := { maxSteps := 1000000 }) (disch := first | exact Nat.le_of_ble_eq_true rfl | omega) only [AXS, AXB, J.dst, reduceIte, Nat.reduceEqDiff, Nat.reduceAdd, Nat.reduceMul, Nat.reduceLT, Nat.reduceLeDiff]); rw [f22c20_eq]; (try simp (config := { maxSteps := 1000000 }) (disch := first | exact Nat.le_of_ble_eq_true rfl | omega) only [AXS, AXB, J.dst, reduceIte, Nat.reduceEqDiff, Nat.reduceAdd, Nat.reduceMul, Nat.reduceLT, Nat.reduceLeDiff])
  refine ⟨fun q2 => ?_, fun q2 => ?_⟩
  · have hr : rv.s = okS := by
      rw [hrv]; unfold prepP; rw [hcby, hno]; simp only [q2, if_true]
    (try simp (config := { maxSteps := 1000000 }) (disch := first | exact Nat.le_of_ble_eq_true rfl | omega) only [AXS, AXB, J.dst, reduceIte, Nat.reduceEqDiff, Nat.reduceAdd, Nat.reduceMul, Nat.reduceLT, Nat.reduceLeDiff]); rw [f22c21_eq]; (try simp (config := { maxSteps := 1000000 }) (disch := first | exact Nat.le_of_ble_eq_true rfl | omega) only [AXS, AXB, J.dst, reduceIte, Nat.reduceEqDiff, Nat.reduceAdd, Nat.reduceMul, Nat.reduceLT, Nat.reduceLeDiff, f22r15, B7.cel, eRp, hr, okS, show ((0 : Int) == 0) = true from rfl])
    exact hR _ x021
  (try simp (config := { maxSteps := 1000000 }) (disch := first | exact Nat.le_of_ble_eq_true rfl | omega) only [AXS, AXB, J.dst, reduceIte, Nat.reduceEqDiff, Nat.reduceAdd, Nat.reduceMul, Nat.reduceLT, Nat.reduceLeDiff]); rw [f22c22_eq]; (try simp (config := { maxSteps := 1000000 }) (disch := first | exact Nat.le_of_ble_eq_true rfl | omega) only [AXS, AXB, J.dst, reduceIte, Nat.reduceEqDiff, Nat.reduceAdd, Nat.reduceMul, Nat.reduceLT, Nat.reduceLeDiff, f22r16, B2.cel, eStamp, B4.cel, ePr, hvs])
  (try simp (config := { maxSteps := 1000000 }) (disch := first | exact Nat.le_of_ble_eq_true rfl | omega) only [AXS, AXB, J.dst, reduceIte, Nat.reduceEqDiff, Nat.reduceAdd, Nat.reduceMul, Nat.reduceLT, Nat.reduceLeDiff]); rw [f22c23_eq]; (try simp (config := { maxSteps := 1000000 }) (disch := first | exact Nat.le_of_ble_eq_true rfl | omega) only [AXS, AXB, J.dst, reduceIte, Nat.reduceEqDiff, Nat.reduceAdd, Nat.reduceMul, Nat.reduceLT, Nat.reduceLeDiff])
  refine ⟨fun q3 => ?_, fun q3 => ?_⟩
  · have q3' : t.wall ≤ p.s.closed := of_decide_eq_true q3
    have hr : rv.s = { okS with err := 21, wall := p.s.closed } := by
      rw [hrv]; unfold prepP; rw [hcby, hno, hcat]; simp only [q2, Bool.false_eq_true, if_false, if_pos q3']
    try simp (config := { maxSteps := 1000000 }) (disch := first | exact Nat.le_of_ble_eq_true rfl | omega) only [AXS, AXB, J.dst, reduceIte, Nat.reduceEqDiff, Nat.reduceAdd, Nat.reduceMul, Nat.reduceLT, Nat.reduceLeDiff]
    rw [f22c24_eq]
    simp (config := { maxSteps := 1000000 }) (disch := first | exact Nat.le_of_ble_eq_true rfl | omega) only [AXJ, AXS, AXB, J.dst, reduceIte, Nat.reduceEqDiff, Nat.reduceAdd, Nat.reduceMul, Nat.reduceLT, Nat.reduceLeDiff, f22r17, B7.cel, eRp, hr, okS, B4.cel, ePr, hvs, show ((21 : Int) == 21) = true from rfl]
    try simp (config := { maxSteps := 1000000 }) (disch := first | exact Nat.le_of_ble_eq_true rfl | omega) only [AXJ, AXS, AXB, J.dst, reduceIte, Nat.reduceEqDiff, Nat.reduceAdd, Nat.reduceMul, Nat.reduceLT, Nat.reduceLeDiff, f22r17a]
    exact hR _ x021
  have q3' : ¬ t.wall ≤ p.s.closed := of_decide_eq_false q3
  (try simp (config := { maxSteps := 1000000 }) (disch := first | exact Nat.le_of_ble_eq_true rfl | omega) only [AXS, AXB, J.dst, reduceIte, Nat.reduceEqDiff, Nat.reduceAdd, Nat.reduceMul, Nat.reduceLT, Nat.reduceLeDiff]); rw [f22c25_eq]; (try simp (config := { maxSteps := 1000000 }) (disch := first | exact Nat.le_of_ble_eq_true rfl | omega) only [AXS, AXB, J.dst, reduceIte, Nat.reduceEqDiff, Nat.reduceAdd, Nat.reduceMul, Nat.reduceLT, Nat.reduceLeDiff, f22r18, B2.rd, eStamp, B4.rd, ePr, hvs])
  refine rless_ok t p.s.floor _ ?_
  intro h22 x22
  refine ⟨trivial, ?_⟩
  replace B1 := B1.ext x22; replace B2 := B2.ext x22; replace B3 := B3.ext x22; replace B4 := B4.ext x22; replace B7 := B7.ext x22; replace B9 := B9.ext x22
  have x022 := x021.trans x22
  (try simp (config := { maxSteps := 1000000 }) (disch := first | exact Nat.le_of_ble_eq_true rfl | omega) only [AXS, AXB, J.dst, reduceIte, Nat.reduceEqDiff, Nat.reduceAdd, Nat.reduceMul, Nat.reduceLT, Nat.reduceLeDiff]); rw [f22c26_eq]; (try simp (config := { maxSteps := 1000000 }) (disch := first | exact Nat.le_of_ble_eq_true rfl | omega) only [AXS, AXB, J.dst, reduceIte, Nat.reduceEqDiff, Nat.reduceAdd, Nat.reduceMul, Nat.reduceLT, Nat.reduceLeDiff])
  refine ⟨fun q4 => ?_, fun q4 => ?_⟩
  · have hr : rv.s = { okS with err := 22, at_ := p.s.floor } := by
      rw [hrv]; unfold prepP; rw [hcby, hno, hcat]; simp only [q2, Bool.false_eq_true, if_false, if_neg q3', q4, if_true]
    try simp (config := { maxSteps := 1000000 }) (disch := first | exact Nat.le_of_ble_eq_true rfl | omega) only [AXS, AXB, J.dst, reduceIte, Nat.reduceEqDiff, Nat.reduceAdd, Nat.reduceMul, Nat.reduceLT, Nat.reduceLeDiff]
    rw [f22c27_eq]
    simp (config := { maxSteps := 1000000 }) (disch := first | exact Nat.le_of_ble_eq_true rfl | omega) only [AXJ, AXS, AXB, J.dst, reduceIte, Nat.reduceEqDiff, Nat.reduceAdd, Nat.reduceMul, Nat.reduceLT, Nat.reduceLeDiff, f22r19, B7.cel, B7.rd, eRp, hr, okS, B4.rd, ePr, hvs, eqA_stamp, show ((22 : Int) == 22) = true from rfl]
    try simp (config := { maxSteps := 1000000 }) (disch := first | exact Nat.le_of_ble_eq_true rfl | omega) only [AXJ, AXS, AXB, J.dst, reduceIte, Nat.reduceEqDiff, Nat.reduceAdd, Nat.reduceMul, Nat.reduceLT, Nat.reduceLeDiff, f22r19a]
    exact hR _ x022
  (try simp (config := { maxSteps := 1000000 }) (disch := first | exact Nat.le_of_ble_eq_true rfl | omega) only [AXS, AXB, J.dst, reduceIte, Nat.reduceEqDiff, Nat.reduceAdd, Nat.reduceMul, Nat.reduceLT, Nat.reduceLeDiff]); rw [f22c28_eq]; (try simp (config := { maxSteps := 1000000 }) (disch := first | exact Nat.le_of_ble_eq_true rfl | omega) only [AXS, AXB, J.dst, reduceIte, Nat.reduceEqDiff, Nat.reduceAdd, Nat.reduceMul, Nat.reduceLT, Nat.reduceLeDiff, f22r20]); rw [f22c29_eq]; (try simp (config := { maxSteps := 1000000 }) (disch := first | exact Nat.le_of_ble_eq_true rfl | omega) only [AXS, AXB, J.dst, reduceIte, Nat.reduceEqDiff, Nat.reduceAdd, Nat.reduceMul, Nat.reduceLT, Nat.reduceLeDiff])
  refine ⟨fun q5 => ?_, fun q5 => ?_⟩
  · have hr : rv.s = (lockedR (heldK p.cells w.key).1).s := by
      rw [hrv]; unfold prepP; rw [hcby, hno, hcat, hcw]; simp only [q2, Bool.false_eq_true, if_false, if_neg q3', q4, List.find?_cons, q5]
    try simp (config := { maxSteps := 1000000 }) (disch := first | exact Nat.le_of_ble_eq_true rfl | omega) only [AXS, AXB, J.dst, reduceIte, Nat.reduceEqDiff, Nat.reduceAdd, Nat.reduceMul, Nat.reduceLT, Nat.reduceLeDiff]
    rw [f22c30_eq]
    simp (config := { maxSteps := 1000000 }) (disch := first | exact Nat.le_of_ble_eq_true rfl | omega) only [AXJ, AXS, AXB, J.dst, reduceIte, Nat.reduceEqDiff, Nat.reduceAdd, Nat.reduceMul, Nat.reduceLT, Nat.reduceLeDiff, f22r21, B7.cel, B7.rd, eRp, hr, lockedR, okS, B9.rd, eLck, eqA_try, show ((20 : Int) == 20) = true from rfl]
    simp (config := { maxSteps := 1000000 }) (disch := first | exact Nat.le_of_ble_eq_true rfl | omega) only [AXJ, AXS, AXB, J.dst, reduceIte, Nat.reduceEqDiff, Nat.reduceAdd, Nat.reduceMul, Nat.reduceLT, Nat.reduceLeDiff, f22r21a, B7.cel, B7.rd, eRp, hr, lockedR, okS, B9.rd, eLck, eqA_stamp]
    simp (config := { maxSteps := 1000000 }) (disch := first | exact Nat.le_of_ble_eq_true rfl | omega) only [AXJ, AXS, AXB, J.dst, reduceIte, Nat.reduceEqDiff, Nat.reduceAdd, Nat.reduceMul, Nat.reduceLT, Nat.reduceLeDiff, f22r21b, B7.cel, B7.rd, eRp, hr, lockedR, okS, B9.cel, eLck]
    try simp (config := { maxSteps := 1000000 }) (disch := first | exact Nat.le_of_ble_eq_true rfl | omega) only [AXJ, AXS, AXB, J.dst, reduceIte, Nat.reduceEqDiff, Nat.reduceAdd, Nat.reduceMul, Nat.reduceLT, Nat.reduceLeDiff, f22r21c]
    exact hR _ x022
  · have hr : rv.s = okS := by
      rw [hrv]; unfold prepP; rw [hcby, hno, hcat, hcw]; simp only [q2, Bool.false_eq_true, if_false, if_neg q3', q4, List.find?_cons, q5, List.find?_nil]
    (try simp (config := { maxSteps := 1000000 }) (disch := first | exact Nat.le_of_ble_eq_true rfl | omega) only [AXS, AXB, J.dst, reduceIte, Nat.reduceEqDiff, Nat.reduceAdd, Nat.reduceMul, Nat.reduceLT, Nat.reduceLeDiff]); rw [f22c31_eq]; (try simp (config := { maxSteps := 1000000 }) (disch := first | exact Nat.le_of_ble_eq_true rfl | omega) only [AXS, AXB, J.dst, reduceIte, Nat.reduceEqDiff, Nat.reduceAdd, Nat.reduceMul, Nat.reduceLT, Nat.reduceLeDiff, f22r22, B7.cel, eRp, hr, okS, show ((0 : Int) == 0) = true from rfl])
    exact hR _ x022
end Go.Proofs.Ytefghfgmkndikaa
