/-
  The walks and plain laws under the laws of one package: texts of mine put together, what they do not use left out (wip/tools/prune.py).
-/
import Derived.Test.YtefghfgmkndikaaK4
set_option linter.unusedSimpArgs false
set_option linter.unusedVariables false
namespace Go.Proofs.Ytefghfgmkndikaa
open Go Go.AX
theorem eWri_one (x : Wri) : ∀ v ∈ eWri x, v.oneCell' = true := by
  intro v hv; simp only [eWri, List.mem_cons, List.not_mem_nil, or_false] at hv
  rcases hv with rfl | rfl | rfl <;> rfl
theorem prep_ok {h0 h hc : Heap} {bp lo n : Nat} {pv : PrV} {p : Prt} {cv : CmV} {c : Cmd} {B : Nat → Prop} (I : InP h0 h bp pv p lo hc) (C0 : CmR B h0 cv c) (g : SzP n p) (hn : n + c.writes.length ≤ 900000) {R : Value → Heap → Prop}
    (hR : ∀ pv' rv h', OutP h0 h h' bp pv lo hc pv' (prepP p c).1 rv (prepP p c).2 → R (.agg (eRp rv).toArray) h') : CallsH Try.prog 127 [ptr bp 0, .agg (eCm cv).toArray] h R := by
  have hbig : big = 1000000 := rfl
  have hn' : n ≤ 900000 := by omega
  have C := C0.ext I.ext
  have hps := I.o.s
  have hcs := C.s
  have hz := I.sizes
  have hcn := I.o.cn
  have hdn := I.o.dn
  have gd := g.done
  have hap := fun b hb => I.apart (b := b) hb
  refine f127ok (by simp) ?_
  (try simp (config := { maxSteps := 1000000 }) (disch := first | exact Nat.le_of_ble_eq_true rfl | omega) only [AXS, AXB, J.dst, reduceIte, Nat.reduceEqDiff, Nat.reduceAdd, Nat.reduceMul, Nat.reduceLT, Nat.reduceLeDiff]); rw [f127c0_eq]; (try simp (config := { maxSteps := 1000000 }) (disch := first | exact Nat.le_of_ble_eq_true rfl | omega) only [AXS, AXB, J.dst, reduceIte, Nat.reduceEqDiff, Nat.reduceAdd, Nat.reduceMul, Nat.reduceLT, Nat.reduceLeDiff, f127r0])
  refine wL_boxN rfl ?_; rintro b1 h1 e1 s1 hb1 (B1 : Blk _ _ _ (eCm cv))
  refine wL_newN ?_; rintro b2 h2 e2 s2 hb2 B2
  replace B1 := B1.ext e2
  have e02 := e1.trans e2
  have I2 := I.exts e02
  have Bp := I2.b
  have app : ∀ h3 b5, Ext h2 h3 → Blk h3 b5 126 (eOut ((findO p.done c.s.by_).getD noOut)) →
      wC Try.prog f127c2 (endW [.cell 4 11] R) [(0, ptr bp 0), (3, ptr b1 0), (4, ptr b2 0), (5, ptr b5 0), (6, .bool (findO p.done c.s.by_).isSome)] h3 := by
    intro h3 b5 e3 B5
    have z1 := e02.size
    have z3 := e3.size
    have I3 := I2.exts e3
    have Bp3 := I3.b
    have C1 := B1.ext e3
    have C2 := B2.ext e3
    (try simp (config := { maxSteps := 1000000 }) (disch := first | exact Nat.le_of_ble_eq_true rfl | omega) only [AXS, AXB, J.dst, reduceIte, Nat.reduceEqDiff, Nat.reduceAdd, Nat.reduceMul, Nat.reduceLT, Nat.reduceLeDiff]); rw [f127c2_eq]; (try simp (config := { maxSteps := 1000000 }) (disch := first | exact Nat.le_of_ble_eq_true rfl | omega) only [AXS, AXB, J.dst, reduceIte, Nat.reduceEqDiff, Nat.reduceAdd, Nat.reduceMul, Nat.reduceLT, Nat.reduceLeDiff, f127r2]); rw [f127c3_eq]; (try simp (config := { maxSteps := 1000000 }) (disch := first | exact Nat.le_of_ble_eq_true rfl | omega) only [AXS, AXB, J.dst, reduceIte, Nat.reduceEqDiff, Nat.reduceAdd, Nat.reduceMul, Nat.reduceLT, Nat.reduceLeDiff])
    refine ⟨fun hh => ?_, fun hh => ?_⟩
    · obtain ⟨o, ho⟩ := Option.isSome_iff_exists.1 hh
      rw [ho, Option.getD_some] at B5
      have hl : prepP p c = (p, ⟨{ okS with err := 26, yes := o.yes }, []⟩) := by unfold prepP; rw [ho]
      (try simp (config := { maxSteps := 1000000 }) (disch := first | exact Nat.le_of_ble_eq_true rfl | omega) only [AXS, AXB, J.dst, reduceIte, Nat.reduceEqDiff, Nat.reduceAdd, Nat.reduceMul, Nat.reduceLT, Nat.reduceLeDiff]); rw [f127c4_eq]; (try simp (config := { maxSteps := 1000000 }) (disch := first | exact Nat.le_of_ble_eq_true rfl | omega) only [AXS, AXB, J.dst, reduceIte, Nat.reduceEqDiff, Nat.reduceAdd, Nat.reduceMul, Nat.reduceLT, Nat.reduceLeDiff, f127r3, B5.cel, eOut])
      refine wL_stN rfl rfl rfl C2 (by decide) (eRp_one ⟨{ okS with err := 26, yes := o.yes }, none, 0, 0⟩) ?_
      rintro h4 u4 (B4 : Blk _ _ _ (eRp ⟨{ okS with err := 26, yes := o.yes }, none, 0, 0⟩))
      simp (config := { maxSteps := 1000000 }) (disch := first | exact Nat.le_of_ble_eq_true rfl | omega) only [AXS, AXB, J.dst, reduceIte, Nat.reduceEqDiff, Nat.reduceAdd, Nat.reduceMul, Nat.reduceLT, Nat.reduceLeDiff, B4.rd, eRp]
      have := hR pv ⟨{ okS with err := 26, yes := o.yes }, none, 0, 0⟩ h4 (by rw [hl]; exact OutP.same I (e02.trans e3) (by omega) u4 _)
      exact this
    · have hno : findO p.done c.s.by_ = none := by simpa using hh
      clear B5
      (try simp (config := { maxSteps := 1000000 }) (disch := first | exact Nat.le_of_ble_eq_true rfl | omega) only [AXS, AXB, J.dst, reduceIte, Nat.reduceEqDiff, Nat.reduceAdd, Nat.reduceMul, Nat.reduceLT, Nat.reduceLeDiff]); rw [f127c5_eq]; (try simp (config := { maxSteps := 1000000 }) (disch := first | exact Nat.le_of_ble_eq_true rfl | omega) only [AXS, AXB, J.dst, reduceIte, Nat.reduceEqDiff, Nat.reduceAdd, Nat.reduceMul, Nat.reduceLT, Nat.reduceLeDiff])
      rw [f127c6_eq]
      refine drw_lt ?_
      simp (config := { maxSteps := 1000000 }) (disch := first | exact Nat.le_of_ble_eq_true rfl | omega) only [AXS, AXB, J.dst, reduceIte, Nat.reduceEqDiff, Nat.reduceAdd, Nat.reduceMul, Nat.reduceLT, Nat.reduceLeDiff, f127r4, Bp3.cel, ePr, C1.rd, eCm, hcs, hcn]
      refine ⟨by omega, by omega, ?_⟩
      refine mineG g.cells hn' I3.cells c.s.by_ ?_
      intro h4 e4
      refine ⟨kp_ext (Nat.le_refl _) e4, ?_⟩
      have I4 := I3.exts e4
      have Bp4 := I4.b
      have D1 := C1.ext e4
      have D2 := C2.ext e4
      have z4 := e4.size
      have e34 := e3.trans e4
      (try simp (config := { maxSteps := 1000000 }) (disch := first | exact Nat.le_of_ble_eq_true rfl | omega) only [AXS, AXB, J.dst, reduceIte, Nat.reduceEqDiff, Nat.reduceAdd, Nat.reduceMul, Nat.reduceLT, Nat.reduceLeDiff]); rw [f127c7_eq]; (try simp (config := { maxSteps := 1000000 }) (disch := first | exact Nat.le_of_ble_eq_true rfl | omega) only [AXS, AXB, J.dst, reduceIte, Nat.reduceEqDiff, Nat.reduceAdd, Nat.reduceMul, Nat.reduceLT, Nat.reduceLeDiff])
      refine ⟨fun hm => ?_, fun hm => ?_⟩
      · have hl : prepP p c = (p, ⟨okS, []⟩) := by unfold prepP; rw [hno]; simp only [if_pos hm]
        (try simp (config := { maxSteps := 1000000 }) (disch := first | exact Nat.le_of_ble_eq_true rfl | omega) only [AXS, AXB, J.dst, reduceIte, Nat.reduceEqDiff, Nat.reduceAdd, Nat.reduceMul, Nat.reduceLT, Nat.reduceLeDiff]); rw [f127c8_eq]; (try simp (config := { maxSteps := 1000000 }) (disch := first | exact Nat.le_of_ble_eq_true rfl | omega) only [AXS, AXB, J.dst, reduceIte, Nat.reduceEqDiff, Nat.reduceAdd, Nat.reduceMul, Nat.reduceLT, Nat.reduceLeDiff, f127r5])
        refine wL_stN rfl rfl rfl D2 (by decide) (eRp_one ⟨okS, none, 0, 0⟩) ?_
        rintro h5 u5 (B5 : Blk _ _ _ (eRp ⟨okS, none, 0, 0⟩))
        simp (config := { maxSteps := 1000000 }) (disch := first | exact Nat.le_of_ble_eq_true rfl | omega) only [AXS, AXB, J.dst, reduceIte, Nat.reduceEqDiff, Nat.reduceAdd, Nat.reduceMul, Nat.reduceLT, Nat.reduceLeDiff, B5.rd, eRp]
        have := hR pv ⟨okS, none, 0, 0⟩ h5 (by rw [hl]; exact OutP.same I (e02.trans e34) (by omega) u5 _)
        exact this
      · try simp (config := { maxSteps := 1000000 }) (disch := first | exact Nat.le_of_ble_eq_true rfl | omega) only [AXS, AXB, J.dst, reduceIte, Nat.reduceEqDiff, Nat.reduceAdd, Nat.reduceMul, Nat.reduceLT, Nat.reduceLeDiff]
        rw [f127c9_eq]
        refine drw_lt ?_
        simp (config := { maxSteps := 1000000 }) (disch := first | exact Nat.le_of_ble_eq_true rfl | omega) only [AXS, AXB, J.dst, reduceIte, Nat.reduceEqDiff, Nat.reduceAdd, Nat.reduceMul, Nat.reduceLT, Nat.reduceLeDiff, f127r6, Bp4.cel, ePr, D1.cel, eCm, hcs, hps]
        refine ⟨by omega, by omega, ?_⟩
        (try simp (config := { maxSteps := 1000000 }) (disch := first | exact Nat.le_of_ble_eq_true rfl | omega) only [AXS, AXB, J.dst, reduceIte, Nat.reduceEqDiff, Nat.reduceAdd, Nat.reduceMul, Nat.reduceLT, Nat.reduceLeDiff]); rw [f127c10_eq]; (try simp (config := { maxSteps := 1000000 }) (disch := first | exact Nat.le_of_ble_eq_true rfl | omega) only [AXS, AXB, J.dst, reduceIte, Nat.reduceEqDiff, Nat.reduceAdd, Nat.reduceMul, Nat.reduceLT, Nat.reduceLeDiff])
        have hm' : ¬ mineL p.cells c.s.by_ = true := by rw [hm]; simp
        refine ⟨fun hc1 => ?_, fun hc1 => ?_⟩
        · have hl : prepP p c = (p, ⟨{ okS with err := 21, wall := p.s.closed }, []⟩) := by unfold prepP; rw [hno]; simp only [if_neg hm', if_pos (of_decide_eq_true hc1)]
          (try simp (config := { maxSteps := 1000000 }) (disch := first | exact Nat.le_of_ble_eq_true rfl | omega) only [AXS, AXB, J.dst, reduceIte, Nat.reduceEqDiff, Nat.reduceAdd, Nat.reduceMul, Nat.reduceLT, Nat.reduceLeDiff]); rw [f127c11_eq]; (try simp (config := { maxSteps := 1000000 }) (disch := first | exact Nat.le_of_ble_eq_true rfl | omega) only [AXS, AXB, J.dst, reduceIte, Nat.reduceEqDiff, Nat.reduceAdd, Nat.reduceMul, Nat.reduceLT, Nat.reduceLeDiff, f127r7, Bp4.cel, ePr, hps])
          refine wL_stN rfl rfl rfl D2 (by decide) (eRp_one ⟨{ okS with err := 21, wall := p.s.closed }, none, 0, 0⟩) ?_
          rintro h5 u5 (B5 : Blk _ _ _ (eRp ⟨{ okS with err := 21, wall := p.s.closed }, none, 0, 0⟩))
          simp (config := { maxSteps := 1000000 }) (disch := first | exact Nat.le_of_ble_eq_true rfl | omega) only [AXS, AXB, J.dst, reduceIte, Nat.reduceEqDiff, Nat.reduceAdd, Nat.reduceMul, Nat.reduceLT, Nat.reduceLeDiff, B5.rd, eRp]
          have := hR pv ⟨{ okS with err := 21, wall := p.s.closed }, none, 0, 0⟩ h5 (by rw [hl]; exact OutP.same I (e02.trans e34) (by omega) u5 _)
          exact this
        · have hc1' := of_decide_eq_false hc1
          try simp (config := { maxSteps := 1000000 }) (disch := first | exact Nat.le_of_ble_eq_true rfl | omega) only [AXS, AXB, J.dst, reduceIte, Nat.reduceEqDiff, Nat.reduceAdd, Nat.reduceMul, Nat.reduceLT, Nat.reduceLeDiff]
          rw [f127c12_eq]
          refine drw_lt ?_
          simp (config := { maxSteps := 1000000 }) (disch := first | exact Nat.le_of_ble_eq_true rfl | omega) only [AXS, AXB, J.dst, reduceIte, Nat.reduceEqDiff, Nat.reduceAdd, Nat.reduceMul, Nat.reduceLT, Nat.reduceLeDiff, f127r8, Bp4.rd, ePr, D1.rd, eCm, hcs, hps]
          refine ⟨by omega, by omega, ?_⟩
          refine less_ok c.s.at_ p.s.floor _ ?_
          intro h5 e5
          refine ⟨kp_ext (Nat.le_refl _) e5, ?_⟩
          have I5 := I4.exts e5
          have Bp5 := I5.b
          have E1 := D1.ext e5
          have E2 := D2.ext e5
          have z5 := e5.size
          have e35 := e34.trans e5
          (try simp (config := { maxSteps := 1000000 }) (disch := first | exact Nat.le_of_ble_eq_true rfl | omega) only [AXS, AXB, J.dst, reduceIte, Nat.reduceEqDiff, Nat.reduceAdd, Nat.reduceMul, Nat.reduceLT, Nat.reduceLeDiff]); rw [f127c13_eq]; (try simp (config := { maxSteps := 1000000 }) (disch := first | exact Nat.le_of_ble_eq_true rfl | omega) only [AXS, AXB, J.dst, reduceIte, Nat.reduceEqDiff, Nat.reduceAdd, Nat.reduceMul, Nat.reduceLT, Nat.reduceLeDiff])
          refine ⟨fun hf => ?_, fun hf => ?_⟩
          · have hl : prepP p c = (p, ⟨{ okS with err := 22, at_ := p.s.floor }, []⟩) := by unfold prepP; rw [hno]; simp only [if_neg hm', if_neg hc1', if_pos hf]
            (try simp (config := { maxSteps := 1000000 }) (disch := first | exact Nat.le_of_ble_eq_true rfl | omega) only [AXS, AXB, J.dst, reduceIte, Nat.reduceEqDiff, Nat.reduceAdd, Nat.reduceMul, Nat.reduceLT, Nat.reduceLeDiff]); rw [f127c14_eq]; (try simp (config := { maxSteps := 1000000 }) (disch := first | exact Nat.le_of_ble_eq_true rfl | omega) only [AXS, AXB, J.dst, reduceIte, Nat.reduceEqDiff, Nat.reduceAdd, Nat.reduceMul, Nat.reduceLT, Nat.reduceLeDiff, f127r9, Bp5.rd, ePr, hps])
            refine wL_stN rfl rfl rfl E2 (by decide) (eRp_one ⟨{ okS with err := 22, at_ := p.s.floor }, none, 0, 0⟩) ?_
            rintro h6 u6 (B6 : Blk _ _ _ (eRp ⟨{ okS with err := 22, at_ := p.s.floor }, none, 0, 0⟩))
            simp (config := { maxSteps := 1000000 }) (disch := first | exact Nat.le_of_ble_eq_true rfl | omega) only [AXS, AXB, J.dst, reduceIte, Nat.reduceEqDiff, Nat.reduceAdd, Nat.reduceMul, Nat.reduceLT, Nat.reduceLeDiff, B6.rd, eRp]
            have := hR pv ⟨{ okS with err := 22, at_ := p.s.floor }, none, 0, 0⟩ h6 (by rw [hl]; exact OutP.same I (e02.trans e35) (by omega) u6 _)
            exact this
          · have hf' : ¬ Stamp.lt c.s.at_ p.s.floor = true := by rw [hf]; simp
            have e05 := e02.trans e35
            (try simp (config := { maxSteps := 1000000 }) (disch := first | exact Nat.le_of_ble_eq_true rfl | omega) only [AXS, AXB, J.dst, reduceIte, Nat.reduceEqDiff, Nat.reduceAdd, Nat.reduceMul, Nat.reduceLT, Nat.reduceLeDiff]); rw [f127c15_eq]; (try simp (config := { maxSteps := 1000000 }) (disch := first | exact Nat.le_of_ble_eq_true rfl | omega) only [AXS, AXB, J.dst, reduceIte, Nat.reduceEqDiff, Nat.reduceAdd, Nat.reduceMul, Nat.reduceLT, Nat.reduceLeDiff, f127r10, E1.cel, eCm, C.wn])
            have hpre : prepP p c = match c.writes.find? fun w => (heldK p.cells w.key).2 with
                | some w => (p, lockedR (heldK p.cells w.key).1)
                | none => ({ p with cells := c.writes.foldl (fun cs w => lockL cs w (lkC c)) p.cells }, ⟨okS, []⟩) := by
              unfold prepP; rw [hno]; simp only [if_neg hm', if_neg hc1', if_neg hf']; (try rfl)
            have hwl : c.writes.length ≤ 900000 := by omega
            clear hm hm' hc1 hc1' hf hf' hno
            rw [f127c16_eq]
            refine loop_in (fun n σ h' => Ext h5 h' ∧ ∃ k : Nat, k + n = c.writes.length ∧ (∀ j w, j < k → c.writes[j]? = some w → (heldK p.cells w.key).2 = false) ∧
              σ = [(0, ptr bp 0), (3, ptr b1 0), (4, ptr b2 0), (64, .slice cv.wa c.writes.length cv.wc), (65, vi c.writes.length), (66, vi k)]) c.writes.length ⟨Ext.refl _, 0, by omega, by intros; omega, rfl⟩ ?_
            rintro m σ h6 ⟨e6, k, hk, hnb, rfl⟩ Q' hnx hex hrt _
            (try simp (config := { maxSteps := 1000000 }) (disch := first | exact Nat.le_of_ble_eq_true rfl | omega) only [AXS, AXB, J.dst, reduceIte, Nat.reduceEqDiff, Nat.reduceAdd, Nat.reduceMul, Nat.reduceLT, Nat.reduceLeDiff]); rw [f127c17_eq]; (try simp (config := { maxSteps := 1000000 }) (disch := first | exact Nat.le_of_ble_eq_true rfl | omega) only [AXS, AXB, J.dst, reduceIte, Nat.reduceEqDiff, Nat.reduceAdd, Nat.reduceMul, Nat.reduceLT, Nat.reduceLeDiff, f127r11]); rw [f127c18_eq]; (try simp (config := { maxSteps := 1000000 }) (disch := first | exact Nat.le_of_ble_eq_true rfl | omega) only [AXS, AXB, J.dst, reduceIte, Nat.reduceEqDiff, Nat.reduceAdd, Nat.reduceMul, Nat.reduceLT, Nat.reduceLeDiff])
            refine ⟨fun hh => ?_, fun hh => ?_⟩
            · have hkl : k < c.writes.length := by have := of_decide_eq_true hh; omega
              obtain ⟨w, hx⟩ := get_ex hkl
              obtain ⟨b', o, hsa, _, hrow⟩ := (C.writes.ext (e05.trans e6)).elem eWri_len hx
              (try simp (config := { maxSteps := 1000000 }) (disch := first | exact Nat.le_of_ble_eq_true rfl | omega) only [AXS, AXB, J.dst, reduceIte, Nat.reduceEqDiff, Nat.reduceAdd, Nat.reduceMul, Nat.reduceLT, Nat.reduceLeDiff]); rw [f127c19_eq]; (try simp (config := { maxSteps := 1000000 }) (disch := first | exact Nat.le_of_ble_eq_true rfl | omega) only [AXS, AXB, J.dst, reduceIte, Nat.reduceEqDiff, Nat.reduceAdd, Nat.reduceMul, Nat.reduceLT, Nat.reduceLeDiff, row_wri hrow, hsa]); rw [f127c20_eq]; (try simp (config := { maxSteps := 1000000 }) (disch := first | exact Nat.le_of_ble_eq_true rfl | omega) only [AXS, AXB, J.dst, reduceIte, Nat.reduceEqDiff, Nat.reduceAdd, Nat.reduceMul, Nat.reduceLT, Nat.reduceLeDiff, f127r12, row_wri hrow, hsa])
              refine ⟨by omega, by omega, ?_⟩
              refine wL_newN ?_; rintro b7 h7 e7 s7 hb7 B7
              try simp (config := { maxSteps := 1000000 }) (disch := first | exact Nat.le_of_ble_eq_true rfl | omega) only [AXS, AXB, J.dst, reduceIte, Nat.reduceEqDiff, Nat.reduceAdd, Nat.reduceMul, Nat.reduceLT, Nat.reduceLeDiff]
              refine wL_stN rfl rfl rfl B7 (by decide) (eWri_one w) ?_
              rintro h8 u8 (B8 : Blk _ _ _ (eWri w))
              try simp (config := { maxSteps := 1000000 }) (disch := first | exact Nat.le_of_ble_eq_true rfl | omega) only [AXS, AXB, J.dst, reduceIte, Nat.reduceEqDiff, Nat.reduceAdd, Nat.reduceMul, Nat.reduceLT, Nat.reduceLeDiff]
              rw [f127c21_eq]
              refine drt_lt ?_
              simp only [f127r13, wT_one, wT_alt, wT_nil]
              have e68 := u8.ext e7 (by omega)
              have e58 := e6.trans e68
              have I8 := I5.exts e58
              have Bp8 := I8.b
              have F1 := E1.ext e58
              have F2 := E2.ext e58
              have z6 := e6.size
              have z8 := e68.size
              have z8' := u8.size
              have e08 := e05.trans e58
              simp (config := { maxSteps := 1000000 }) (disch := first | exact Nat.le_of_ble_eq_true rfl | omega) only [AXS, AXB, J.dst, reduceIte, Nat.reduceEqDiff, Nat.reduceAdd, Nat.reduceMul, Nat.reduceLT, Nat.reduceLeDiff, Bp8.cel, ePr, B8.cel, eWri, hcn]
              refine ⟨by omega, by omega, ?_⟩
              generalize hbl : heldK p.cells w.key = bl
              have app2 : ∀ h9 b9, Ext h8 h9 → Blk h9 b9 72 (eLck bl.1) → wC Try.prog f127c22 (X.inBlock 2 (X.then (fun σ h => wC Try.prog f127c25 Q' σ h) Q'))
                  [(0, ptr bp 0), (3, ptr b1 0), (4, ptr b2 0), (9, ptr b9 0), (10, .bool bl.2), (64, .slice (some ⟨b', o, none⟩) c.writes.length cv.wc), (65, vi c.writes.length), (66, vi k)] h9 := by
                intro h9 b9 e89 B9
                have e09 := e08.trans e89
                (try simp (config := { maxSteps := 1000000 }) (disch := first | exact Nat.le_of_ble_eq_true rfl | omega) only [AXS, AXB, J.dst, reduceIte, Nat.reduceEqDiff, Nat.reduceAdd, Nat.reduceMul, Nat.reduceLT, Nat.reduceLeDiff]); rw [f127c22_eq]; (try simp (config := { maxSteps := 1000000 }) (disch := first | exact Nat.le_of_ble_eq_true rfl | omega) only [AXS, AXB, J.dst, reduceIte, Nat.reduceEqDiff, Nat.reduceAdd, Nat.reduceMul, Nat.reduceLT, Nat.reduceLeDiff, f127r14]); rw [f127c23_eq]; (try simp (config := { maxSteps := 1000000 }) (disch := first | exact Nat.le_of_ble_eq_true rfl | omega) only [AXS, AXB, J.dst, reduceIte, Nat.reduceEqDiff, Nat.reduceAdd, Nat.reduceMul, Nat.reduceLT, Nat.reduceLeDiff])
                refine ⟨fun h11 => ?_, fun h11 => ?_⟩
                · (try simp (config := { maxSteps := 1000000 }) (disch := first | exact Nat.le_of_ble_eq_true rfl | omega) only [AXS, AXB, J.dst, reduceIte, Nat.reduceEqDiff, Nat.reduceAdd, Nat.reduceMul, Nat.reduceLT, Nat.reduceLeDiff]); rw [f127c24_eq]; (try simp (config := { maxSteps := 1000000 }) (disch := first | exact Nat.le_of_ble_eq_true rfl | omega) only [AXS, AXB, J.dst, reduceIte, Nat.reduceEqDiff, Nat.reduceAdd, Nat.reduceMul, Nat.reduceLT, Nat.reduceLeDiff, f127r15, B9.rd, eLck])
                  refine locked_ok bl.1 _ ?_
                  intro h10 e10
                  refine ⟨trivial, ?_⟩
                  try simp (config := { maxSteps := 1000000 }) (disch := first | exact Nat.le_of_ble_eq_true rfl | omega) only [AXS, AXB, J.dst, reduceIte, Nat.reduceEqDiff, Nat.reduceAdd, Nat.reduceMul, Nat.reduceLT, Nat.reduceLeDiff]
                  refine wL_stN rfl rfl rfl ((F2.ext e89).ext e10) (by decide) (eRp_one ⟨(lockedR bl.1).s, none, 0, 0⟩) ?_
                  rintro h12 u12 (B12 : Blk _ _ _ (eRp ⟨(lockedR bl.1).s, none, 0, 0⟩))
                  try simp (config := { maxSteps := 1000000 }) (disch := first | exact Nat.le_of_ble_eq_true rfl | omega) only [AXS, AXB, J.dst, reduceIte, Nat.reduceEqDiff, Nat.reduceAdd, Nat.reduceMul, Nat.reduceLT, Nat.reduceLeDiff]
                  refine hrt _ _ ?_
                  simp (config := { maxSteps := 1000000 }) (disch := first | exact Nat.le_of_ble_eq_true rfl | omega) only [AXS, AXB, J.dst, reduceIte, Nat.reduceEqDiff, Nat.reduceAdd, Nat.reduceMul, Nat.reduceLT, Nat.reduceLeDiff, B12.rd, eRp]
                  have hl : prepP p c = (p, lockedR bl.1) := by
                    rw [hpre, findIdx_some hx (by rw [hbl]; exact h11) hnb]
                    simp only [hbl]
                  have := hR pv ⟨(lockedR bl.1).s, none, 0, 0⟩ h12 (by rw [hl]; exact OutP.same I (e09.trans e10) (by omega) u12 _)
                  exact this
                · (try simp (config := { maxSteps := 1000000 }) (disch := first | exact Nat.le_of_ble_eq_true rfl | omega) only [AXS, AXB, J.dst, reduceIte, Nat.reduceEqDiff, Nat.reduceAdd, Nat.reduceMul, Nat.reduceLT, Nat.reduceLeDiff]); rw [f127c25_eq]; (try simp (config := { maxSteps := 1000000 }) (disch := first | exact Nat.le_of_ble_eq_true rfl | omega) only [AXS, AXB, J.dst, reduceIte, Nat.reduceEqDiff, Nat.reduceAdd, Nat.reduceMul, Nat.reduceLT, Nat.reduceLeDiff, f127r16])
                  rw [i64_wrap (by omega) (by omega)]
                  refine hnx (m - 1) _ _ (by omega) ⟨e58.trans e89, k + 1, by omega, ?_, by rw [hsa]; rfl⟩
                  intro j w' hj hw'
                  rcases Nat.lt_or_ge j k with hlt | hge
                  · exact hnb j w' hlt hw'
                  · have : j = k := by omega
                    subst this
                    rw [hx] at hw'; cases hw'; rw [hbl]; exact h11
              refine ⟨?_, ?_⟩
              · refine heldG g.cells hn' I8.cells w.key ?_
                intro h9 e9
                refine ⟨kp_ext (Nat.le_refl _) e9, ?_⟩
                try simp (config := { maxSteps := 1000000 }) (disch := first | exact Nat.le_of_ble_eq_true rfl | omega) only [AXS, AXB, J.dst, reduceIte, Nat.reduceEqDiff, Nat.reduceAdd, Nat.reduceMul, Nat.reduceLT, Nat.reduceLeDiff]
                refine wL_newD e9.size ?_; rintro b10 h10 e10 s10 hb10 B10
                have z9 := e9.size
                try simp (config := { maxSteps := 1000000 }) (disch := first | exact Nat.le_of_ble_eq_true rfl | omega) only [AXS, AXB, J.dst, reduceIte, Nat.reduceEqDiff, Nat.reduceAdd, Nat.reduceMul, Nat.reduceLT, Nat.reduceLeDiff]
                refine wL_stD rfl rfl (by omega) rfl B10 (by decide) (eLck_one (heldK p.cells w.key).1) ?_
                rintro h11 u11 (B11 : Blk _ _ _ (eLck (heldK p.cells w.key).1))
                try simp (config := { maxSteps := 1000000 }) (disch := first | exact Nat.le_of_ble_eq_true rfl | omega) only [AXS, AXB, J.dst, reduceIte, Nat.reduceEqDiff, Nat.reduceAdd, Nat.reduceMul, Nat.reduceLT, Nat.reduceLeDiff]
                have := app2 h11 b10 (u11.ext (e9.trans e10) (by omega)) (by rw [← hbl]; exact B11)
                rw [← hbl] at this
                exact this
              · refine wL_newD (Nat.le_refl _) ?_; rintro b10 h9 e9 s9 hb10 B10
                try simp (config := { maxSteps := 1000000 }) (disch := first | exact Nat.le_of_ble_eq_true rfl | omega) only [AXS, AXB, J.dst, reduceIte, Nat.reduceEqDiff, Nat.reduceAdd, Nat.reduceMul, Nat.reduceLT, Nat.reduceLeDiff]
                refine heldG g.cells hn' (I8.exts e9).cells w.key ?_
                intro h10 e10
                refine ⟨kp_ext e9.size e10, ?_⟩
                try simp (config := { maxSteps := 1000000 }) (disch := first | exact Nat.le_of_ble_eq_true rfl | omega) only [AXS, AXB, J.dst, reduceIte, Nat.reduceEqDiff, Nat.reduceAdd, Nat.reduceMul, Nat.reduceLT, Nat.reduceLeDiff]
                have z9 := e9.size
                have z10 := e10.size
                refine wL_stD rfl rfl (by omega) rfl (B10.ext e10) (by decide) (eLck_one (heldK p.cells w.key).1) ?_
                rintro h11 u11 (B11 : Blk _ _ _ (eLck (heldK p.cells w.key).1))
                try simp (config := { maxSteps := 1000000 }) (disch := first | exact Nat.le_of_ble_eq_true rfl | omega) only [AXS, AXB, J.dst, reduceIte, Nat.reduceEqDiff, Nat.reduceAdd, Nat.reduceMul, Nat.reduceLT, Nat.reduceLeDiff]
                have := app2 h11 b10 (u11.ext (e9.trans e10) (by omega)) (by rw [← hbl]; exact B11)
                rw [← hbl] at this
                exact this
            · have hkl : k = c.writes.length := by have := of_decide_eq_false hh; omega
              subst hkl
              have hl : prepP p c = ({ p with cells := c.writes.foldl (fun cs w => lockL cs w (lkC c)) p.cells }, ⟨okS, []⟩) := by rw [hpre, findIdx_none hnb]
              refine hex _ _ ?_
              have e06 := e05.trans e6
              have I6 := I5.exts e6
              have F1 := E1.ext e6
              have F2 := E2.ext e6
              have z6 := e6.size
              (try simp (config := { maxSteps := 1000000 }) (disch := first | exact Nat.le_of_ble_eq_true rfl | omega) only [AXS, AXB, J.dst, reduceIte, Nat.reduceEqDiff, Nat.reduceAdd, Nat.reduceMul, Nat.reduceLT, Nat.reduceLeDiff]); rw [f127c26_eq]; (try simp (config := { maxSteps := 1000000 }) (disch := first | exact Nat.le_of_ble_eq_true rfl | omega) only [AXS, AXB, J.dst, reduceIte, Nat.reduceEqDiff, Nat.reduceAdd, Nat.reduceMul, Nat.reduceLT, Nat.reduceLeDiff, f127r17, F1.cel, eCm, C.wn])
              rw [f127c27_eq]
              refine loop_in (fun m σ h' => ∃ (k : Nat) (pv' : PrV) (lo' : Nat) (hc' : Heap), k + m = c.writes.length ∧ InP h0 h' bp pv' { p with cells := (c.writes.take k).foldl (fun cs w => lockL cs w (lkC c)) p.cells } lo' hc' ∧
                Gd (n + k) ((c.writes.take k).foldl (fun cs w => lockL cs w (lkC c)) p.cells) ∧ Blk h' b1 43 (eCm cv) ∧ Blk h' b2 47 (eRp ⟨okS, none, 0, 0⟩) ∧ pv'.ra = pv.ra ∧ pv'.da = pv.da ∧ (∀ b, b < h6.size → ApP b lo hc pv → ApP b lo' hc' pv') ∧ h6.size ≤ h'.size ∧ Gr (some bp) h h' ∧
                σ = [(0, ptr bp 0), (3, ptr b1 0), (4, ptr b2 0), (85, .slice cv.wa c.writes.length cv.wc), (86, vi c.writes.length), (87, vi k)]) c.writes.length
                ⟨0, pv, lo, hc, by omega, I6, g.cells, F1, F2, rfl, rfl, fun _ _ h => h, Nat.le_refl _, e06.gr _, rfl⟩ ?_
              rintro m σ h7 ⟨k, pv', lo', hc', hk, I7, g7, G1, G2, hra, hda, hbl, z7, K7, rfl⟩ Q2 hnx2 hex2 hrt2 _
              (try simp (config := { maxSteps := 1000000 }) (disch := first | exact Nat.le_of_ble_eq_true rfl | omega) only [AXS, AXB, J.dst, reduceIte, Nat.reduceEqDiff, Nat.reduceAdd, Nat.reduceMul, Nat.reduceLT, Nat.reduceLeDiff]); rw [f127c28_eq]; (try simp (config := { maxSteps := 1000000 }) (disch := first | exact Nat.le_of_ble_eq_true rfl | omega) only [AXS, AXB, J.dst, reduceIte, Nat.reduceEqDiff, Nat.reduceAdd, Nat.reduceMul, Nat.reduceLT, Nat.reduceLeDiff, f127r18]); rw [f127c29_eq]; (try simp (config := { maxSteps := 1000000 }) (disch := first | exact Nat.le_of_ble_eq_true rfl | omega) only [AXS, AXB, J.dst, reduceIte, Nat.reduceEqDiff, Nat.reduceAdd, Nat.reduceMul, Nat.reduceLT, Nat.reduceLeDiff])
              refine ⟨fun hh => ?_, fun hh => ?_⟩
              · have hkl : k < c.writes.length := by have := of_decide_eq_true hh; omega
                obtain ⟨w, hx⟩ := get_ex hkl
                obtain ⟨b', o, hsa, _, hrow⟩ := (C0.writes.ext I7.ext).elem eWri_len hx
                (try simp (config := { maxSteps := 1000000 }) (disch := first | exact Nat.le_of_ble_eq_true rfl | omega) only [AXS, AXB, J.dst, reduceIte, Nat.reduceEqDiff, Nat.reduceAdd, Nat.reduceMul, Nat.reduceLT, Nat.reduceLeDiff]); rw [f127c30_eq]; (try simp (config := { maxSteps := 1000000 }) (disch := first | exact Nat.le_of_ble_eq_true rfl | omega) only [AXS, AXB, J.dst, reduceIte, Nat.reduceEqDiff, Nat.reduceAdd, Nat.reduceMul, Nat.reduceLT, Nat.reduceLeDiff, row_wri hrow, hsa]); rw [f127c31_eq]; (try simp (config := { maxSteps := 1000000 }) (disch := first | exact Nat.le_of_ble_eq_true rfl | omega) only [AXS, AXB, J.dst, reduceIte, Nat.reduceEqDiff, Nat.reduceAdd, Nat.reduceMul, Nat.reduceLT, Nat.reduceLeDiff, f127r19, row_wri hrow, hsa])
                refine ⟨by omega, by omega, ?_⟩
                refine wL_newN ?_; rintro b8 h8 e8 s8 hb8 B8
                try simp (config := { maxSteps := 1000000 }) (disch := first | exact Nat.le_of_ble_eq_true rfl | omega) only [AXS, AXB, J.dst, reduceIte, Nat.reduceEqDiff, Nat.reduceAdd, Nat.reduceMul, Nat.reduceLT, Nat.reduceLeDiff]
                refine wL_stN rfl rfl rfl B8 (by decide) (eWri_one w) ?_
                rintro h9 u9 (B9 : Blk _ _ _ (eWri w))
                have e79 := u9.ext e8 (by omega)
                have I9 := I7.exts e79
                have Bp9 := I9.b
                have J1 := G1.ext e79
                have z9 := e79.size
                have z9' := u9.size
                try simp (config := { maxSteps := 1000000 }) (disch := first | exact Nat.le_of_ble_eq_true rfl | omega) only [AXS, AXB, J.dst, reduceIte, Nat.reduceEqDiff, Nat.reduceAdd, Nat.reduceMul, Nat.reduceLT, Nat.reduceLeDiff]
                rw [f127c32_eq]
                refine ⟨fun b => b < h9.size ∧ b ≠ bp, fun b hb => hb.1, ?_⟩
                have hb1p : b1 ≠ bp := by omega
                have hb8p : b8 ≠ bp := by omega
                simp (config := { maxSteps := 1000000 }) (disch := first | exact Nat.le_of_ble_eq_true rfl | omega) only [AXS, AXB, J.dst, reduceIte, Nat.reduceEqDiff, Nat.reduceAdd, Nat.reduceMul, Nat.reduceLT, Nat.reduceLeDiff, f127r20, Bp9.cel, ePr, B9.rd, eWri, J1.rd, J1.cel, eCm, hcs, I9.o.cn]
                refine ⟨⟨by omega, hb8p⟩, ⟨by omega, hb1p⟩, ⟨by omega, hb1p⟩, ⟨by omega, hb1p⟩, ?_⟩
                have hfold : (c.writes.take (k + 1)).foldl (fun cs w => lockL cs w (lkC c)) p.cells = lockL ((c.writes.take k).foldl (fun cs w => lockL cs w (lkC c)) p.cells) w (lkC c) := by
                  rw [List.take_add_one, hx]; simp [List.foldl_append]
                refine lockG g7 (by omega) I9.cells w (lkC c) ?_
                intro a' c' h10 g10 O10 e10
                refine ⟨fun b hb => e10.at_ b hb.1, ?_⟩
                try simp (config := { maxSteps := 1000000 }) (disch := first | exact Nat.le_of_ble_eq_true rfl | omega) only [AXS, AXB, J.dst, reduceIte, Nat.reduceEqDiff, Nat.reduceAdd, Nat.reduceMul, Nat.reduceLT, Nat.reduceLeDiff]
                refine wL_stD rfl rfl (fun hb => hb.2 rfl) rfl (I9.b.ext e10) (by rw [ePr_len]; exact Nat.le_of_ble_eq_true rfl) slice_one ?_
                rintro h11 u11 (B11 : Blk _ _ _ (ePr { pv' with ca := a', cn := (lockL ((c.writes.take k).foldl (fun cs w => lockL cs w (lkC c)) p.cells) w (lkC c)).length, cc := c' }))
                try simp (config := { maxSteps := 1000000 }) (disch := first | exact Nat.le_of_ble_eq_true rfl | omega) only [AXS, AXB, J.dst, reduceIte, Nat.reduceEqDiff, Nat.reduceAdd, Nat.reduceMul, Nat.reduceLT, Nat.reduceLeDiff]
                have I11 := I9.putC O10 e10 u11 B11
                have z10 := e10.size
                have z11 := u11.size
                (try simp (config := { maxSteps := 1000000 }) (disch := first | exact Nat.le_of_ble_eq_true rfl | omega) only [AXS, AXB, J.dst, reduceIte, Nat.reduceEqDiff, Nat.reduceAdd, Nat.reduceMul, Nat.reduceLT, Nat.reduceLeDiff]); rw [f127c33_eq]; (try simp (config := { maxSteps := 1000000 }) (disch := first | exact Nat.le_of_ble_eq_true rfl | omega) only [AXS, AXB, J.dst, reduceIte, Nat.reduceEqDiff, Nat.reduceAdd, Nat.reduceMul, Nat.reduceLT, Nat.reduceLeDiff, f127r21])
                rw [i64_wrap (by omega) (by omega)]
                exact hnx2 (m - 1) _ _ (by omega) ⟨k + 1, { pv' with ca := a', cn := (lockL ((c.writes.take k).foldl (fun cs w => lockL cs w (lkC c)) p.cells) w (lkC c)).length, cc := c' }, h9.size, h10, by omega, by rw [hfold]; exact I11, by rw [hfold]; exact g10, u11.blk (J1.ext e10) hb1p, u11.blk ((G2.ext e79).ext e10) (by omega), hra, hda, fun b hb hap => ⟨.inl (by omega), (hbl b hb hap).2⟩, by omega, Gr.upd (K7.exts (e79.trans e10)) u11 (.inl rfl), by rw [hsa]; rfl⟩
              · have hkl : k = c.writes.length := by have := of_decide_eq_false hh; omega
                subst hkl
                rw [List.take_length] at I7
                refine hex2 _ _ ?_
                (try simp (config := { maxSteps := 1000000 }) (disch := first | exact Nat.le_of_ble_eq_true rfl | omega) only [AXS, AXB, J.dst, reduceIte, Nat.reduceEqDiff, Nat.reduceAdd, Nat.reduceMul, Nat.reduceLT, Nat.reduceLeDiff]); rw [f127c34_eq]; (try simp (config := { maxSteps := 1000000 }) (disch := first | exact Nat.le_of_ble_eq_true rfl | omega) only [AXS, AXB, J.dst, reduceIte, Nat.reduceEqDiff, Nat.reduceAdd, Nat.reduceMul, Nat.reduceLT, Nat.reduceLeDiff, f127r22])
                refine wL_stN rfl rfl rfl G2 (by decide) (eRp_one ⟨okS, none, 0, 0⟩) ?_
                rintro h8 u8 (B8 : Blk _ _ _ (eRp ⟨okS, none, 0, 0⟩))
                simp (config := { maxSteps := 1000000 }) (disch := first | exact Nat.le_of_ble_eq_true rfl | omega) only [AXS, AXB, J.dst, reduceIte, Nat.reduceEqDiff, Nat.reduceAdd, Nat.reduceMul, Nat.reduceLT, Nat.reduceLeDiff, B8.rd, eRp]
                have hap := I.ap (b := b2) (by omega)
                have := hR pv' ⟨okS, none, 0, 0⟩ h8 (by
                  rw [hl]
                  exact (I7.boxA (by omega) (by omega) (hbl b2 (by omega) hap) u8).out (RpO.none _ _ _) (K7.upd u8 (.inr (by omega))) (fun b hb h => hbl b (by omega) h))
                exact this
  try simp (config := { maxSteps := 1000000 }) (disch := first | exact Nat.le_of_ble_eq_true rfl | omega) only [AXS, AXB, J.dst, reduceIte, Nat.reduceEqDiff, Nat.reduceAdd, Nat.reduceMul, Nat.reduceLT, Nat.reduceLeDiff]
  rw [f127c1_eq]
  refine drt_lt ?_
  simp only [f127r1, wT_one, wT_alt, wT_nil]
  simp (config := { maxSteps := 1000000 }) (disch := first | exact Nat.le_of_ble_eq_true rfl | omega) only [AXS, AXB, J.dst, reduceIte, Nat.reduceEqDiff, Nat.reduceAdd, Nat.reduceMul, Nat.reduceLT, Nat.reduceLeDiff, Bp.cel, ePr, B1.rd, eCm, hcs, hdn]
  have z1 := e02.size
  refine ⟨by omega, by omega, ?_, ?_⟩
  · refine findO_ok p.done c.s.by_ _ I2.dones (by unfold maxLen; omega) ?_
    intro h3 e3
    refine ⟨kp_ext (Nat.le_refl _) e3, ?_⟩
    try simp (config := { maxSteps := 1000000 }) (disch := first | exact Nat.le_of_ble_eq_true rfl | omega) only [AXS, AXB, J.dst, reduceIte, Nat.reduceEqDiff, Nat.reduceAdd, Nat.reduceMul, Nat.reduceLT, Nat.reduceLeDiff]
    have z3 := e3.size
    refine wL_newD e3.size ?_; rintro b5 h4 e4 s4 hb5 B5
    try simp (config := { maxSteps := 1000000 }) (disch := first | exact Nat.le_of_ble_eq_true rfl | omega) only [AXS, AXB, J.dst, reduceIte, Nat.reduceEqDiff, Nat.reduceAdd, Nat.reduceMul, Nat.reduceLT, Nat.reduceLeDiff]
    refine wL_stD rfl rfl (by omega) rfl B5 (by decide) (eOut_one ((findO p.done c.s.by_).getD noOut)) ?_
    rintro h5 u5 (B6 : Blk _ _ _ (eOut ((findO p.done c.s.by_).getD noOut)))
    try simp (config := { maxSteps := 1000000 }) (disch := first | exact Nat.le_of_ble_eq_true rfl | omega) only [AXS, AXB, J.dst, reduceIte, Nat.reduceEqDiff, Nat.reduceAdd, Nat.reduceMul, Nat.reduceLT, Nat.reduceLeDiff]
    exact app h5 b5 (u5.ext (e3.trans e4) (by omega)) B6
  · refine wL_newD (Nat.le_refl _) ?_; rintro b5 h3 e3 s3 hb5 B5
    try simp (config := { maxSteps := 1000000 }) (disch := first | exact Nat.le_of_ble_eq_true rfl | omega) only [AXS, AXB, J.dst, reduceIte, Nat.reduceEqDiff, Nat.reduceAdd, Nat.reduceMul, Nat.reduceLT, Nat.reduceLeDiff]
    refine findO_ok p.done c.s.by_ _ (I2.exts e3).dones (by unfold maxLen; omega) ?_
    intro h4 e4
    refine ⟨kp_ext e3.size e4, ?_⟩
    try simp (config := { maxSteps := 1000000 }) (disch := first | exact Nat.le_of_ble_eq_true rfl | omega) only [AXS, AXB, J.dst, reduceIte, Nat.reduceEqDiff, Nat.reduceAdd, Nat.reduceMul, Nat.reduceLT, Nat.reduceLeDiff]
    refine wL_stD rfl rfl (by omega) rfl (B5.ext e4) (by decide) (eOut_one ((findO p.done c.s.by_).getD noOut)) ?_
    rintro h5 u5 (B6 : Blk _ _ _ (eOut ((findO p.done c.s.by_).getD noOut)))
    try simp (config := { maxSteps := 1000000 }) (disch := first | exact Nat.le_of_ble_eq_true rfl | omega) only [AXS, AXB, J.dst, reduceIte, Nat.reduceEqDiff, Nat.reduceAdd, Nat.reduceMul, Nat.reduceLT, Nat.reduceLeDiff]
    exact app h5 b5 (u5.ext (e3.trans e4) (by omega)) B6
end Go.Proofs.Ytefghfgmkndikaa
namespace Go.AX
open Go
theorem wL_bslP {P : Program} {p : Nat → Prop} {h0 h : Heap} {r : List I} {C : Env → Heap → Prop} {σ : Env} {d t n : Nat} {z cs : List Value} {parts : List (Nat × Nat × Operand)} (hx : fillL σ z parts = some cs) (hp : ∀ b, p b → b < h.size)
    (H : ∀ b h', Ext h h' → h'.size = h.size + 1 → b = h.size → Blk h' b t cs → wL P (some ⟨p, h0⟩) r 0 C ((d, sl b 0 n n) :: σ) h') : wL P (some ⟨p, h0⟩) (.op (.bsl d t n z parts) :: r) 0 C σ h := by
  rw [wL_bsl, hx, bd_some]
  exact ⟨fun b hb => ((Ext.refl h).push _).at_ b (hp b hb), H _ _ ((Ext.refl h).push _) (by simp) rfl (Blk.new h t _)⟩
theorem PrO.records' {l0 lo : Nat} {hc h : Heap} {v : PrV} {p : Prt} (O : PrO l0 lo hc h v p) : Own l0 h 126 7 v.ra p.records.length v.rc (p.records.flatMap eOut) := by have := O.records; rw [O.rn] at this; exact this
theorem PrO.done' {l0 lo : Nat} {hc h : Heap} {v : PrV} {p : Prt} (O : PrO l0 lo hc h v p) : Own l0 h 126 7 v.da p.done.length v.dc (p.done.flatMap eOut) := by have := O.done; rw [O.dn] at this; exact this
/-- One more record. -/
theorem InP.putR {h0 h h1 h2 h3 hc : Heap} {bp lo n c : Nat} {a : Option Addr} {v : PrV} {p : Prt} (I : InP h0 h bp v p lo hc) {x : Out} (E : Ext h h1) (O : Own h0.size h2 126 7 a n c ((p.records ++ [x]).flatMap eOut)) (hn : n = (p.records ++ [x]).length) (G : Gr (ob v.ra) h1 h2)
    (A : ob a = ob v.ra ∨ ∃ k, ob a = some k ∧ h1.size ≤ k) (u : Upd bp h2 h3) (B : Blk h3 bp 116 (ePr { v with ra := a, rn := n, rc := c })) : InP h0 h3 bp { v with ra := a, rn := n, rc := c } { p with records := p.records ++ [x] } lo hc := by
  have z := I.sizes
  have hr := I.o.records.ob
  have hd := I.o.done.ob
  have hd' := I.o.da
  have hs := E.size
  have hg := G.size
  have hu := u.size
  have hra : ob a ≠ some bp := by
    rcases A with e | ⟨k, e, hk⟩
    · rw [e]; exact I.ra
    · rw [e]; intro e'; cases e'; omega
  refine ⟨u.ext (G.ext (I.ext.trans E) fun k hk => (hr k hk).1) z.2.2.2.2, ⟨I.o.s, I.o.cn, hn, I.o.dn, I.o.cells, ⟨z.1, z.2.1, by omega⟩, fun b h4 h5 => ?_, ?_, ?_, fun k hk => ?_, I.o.da, fun k hk hk' => ?_⟩, B, I.at_, hra, I.da⟩
  · have h6 := I.o.ra b
    have h7 := I.at_.2
    rw [u.ne b (by omega), G.at_ b (by omega) (fun e => by have := h6 e.symm; omega), E.at_ b (by omega)]
    exact I.o.kept b h4 h5
  · exact O.gr u.gr fun k hk e => by cases e; exact hra hk
  · exact ((I.o.done.ext E).gr G fun k hk e => I.o.apart k e hk).gr u.gr fun k hk e => by cases e; exact I.da hk
  · rcases A with e | ⟨j, e, hj⟩
    · exact I.o.ra k (e ▸ hk)
    · rw [e] at hk; cases hk; omega
  · rcases A with e | ⟨j, e, hj⟩
    · exact I.o.apart k (e ▸ hk) hk'
    · rw [e] at hk; cases hk; have := (hd _ hk').2; omega
/-- One more of those done. -/
theorem InP.putD {h0 h h1 h2 h3 hc : Heap} {bp lo n c : Nat} {a : Option Addr} {v : PrV} {p : Prt} (I : InP h0 h bp v p lo hc) {x : Out} (E : Ext h h1) (O : Own h0.size h2 126 7 a n c ((p.done ++ [x]).flatMap eOut)) (hn : n = (p.done ++ [x]).length) (G : Gr (ob v.da) h1 h2)
    (A : ob a = ob v.da ∨ ∃ k, ob a = some k ∧ h1.size ≤ k) (u : Upd bp h2 h3) (B : Blk h3 bp 116 (ePr { v with da := a, dn := n, dc := c })) : InP h0 h3 bp { v with da := a, dn := n, dc := c } { p with done := p.done ++ [x] } lo hc := by
  have z := I.sizes
  have hr := I.o.records.ob
  have hd := I.o.done.ob
  have hs := E.size
  have hg := G.size
  have hu := u.size
  have hda : ob a ≠ some bp := by
    rcases A with e | ⟨k, e, hk⟩
    · rw [e]; exact I.da
    · rw [e]; intro e'; cases e'; omega
  refine ⟨u.ext (G.ext (I.ext.trans E) fun k hk => (hd k hk).1) z.2.2.2.2, ⟨I.o.s, I.o.cn, I.o.rn, hn, I.o.cells, ⟨z.1, z.2.1, by omega⟩, fun b h4 h5 => ?_, ?_, ?_, I.o.ra, fun k hk => ?_, fun k hk hk' => ?_⟩, B, I.at_, I.ra, hda⟩
  · have h6 := I.o.da b
    have h7 := I.at_.2
    rw [u.ne b (by omega), G.at_ b (by omega) (fun e => by have := h6 e.symm; omega), E.at_ b (by omega)]
    exact I.o.kept b h4 h5
  · exact ((I.o.records.ext E).gr G fun k hk e => I.o.apart k hk e).gr u.gr fun k hk e => by cases e; exact I.ra hk
  · exact O.gr u.gr fun k hk e => by cases e; exact hda hk
  · rcases A with e | ⟨j, e, hj⟩
    · exact I.o.da k (e ▸ hk)
    · rw [e] at hk; cases hk; omega
  · rcases A with e | ⟨j, e, hj⟩
    · exact I.o.apart k hk (e ▸ hk')
    · rw [e] at hk'; cases hk'; have := (hr _ hk).2; omega
theorem OutP.mk' {h0 h h' hc hc0 : Heap} {bp lo lo0 : Nat} {v v0 : PrV} {p : Prt} (I : InP h0 h' bp v p lo hc) (z : h.size ≤ h'.size) (s : RpS) (F : ∀ b, b < h.size → ApP b lo0 hc0 v0 → ApP b lo hc v) (G : ∀ b, b < h.size → b ≠ bp → ApP b lo0 hc0 v0 → h'[b]? = h[b]?) : OutP h0 h h' bp v0 lo0 hc0 v p ⟨s, none, 0, 0⟩ ⟨s, []⟩ :=
  ⟨z, lo, hc, I, RpO.none _ _ _, F, G⟩
/-- An answer: what was there and one more. -/
theorem ap_app {lo : Nat} {hc h1 : Heap} {v v' : PrV} {a : Option Addr} {b : Nat} (A : ob a = ob v.ra ∨ ∃ k, ob a = some k ∧ h1.size ≤ k) (h : ApP b lo hc v) (hb : b < h1.size) (h1 : v'.ra = a) (h2 : v'.da = v.da) : ApP b lo hc v' := by
  refine ⟨h.1, ?_, by rw [h2]; exact h.2.2⟩
  rw [h1]
  rcases A with e | ⟨k, e, hk⟩
  · rw [e]; exact h.2.1
  · rw [e]; intro e'; cases e'; omega
theorem ap_app' {lo : Nat} {hc h1 : Heap} {v v' : PrV} {a : Option Addr} {b : Nat} (A : ob a = ob v.da ∨ ∃ k, ob a = some k ∧ h1.size ≤ k) (h : ApP b lo hc v) (hb : b < h1.size) (h1 : v'.da = a) (h2 : v'.ra = v.ra) : ApP b lo hc v' := by
  refine ⟨h.1, by rw [h2]; exact h.2.1, ?_⟩
  rw [h1]
  rcases A with e | ⟨k, e, hk⟩
  · rw [e]; exact h.2.2
  · rw [e]; intro e'; cases e'; omega
end Go.AX
namespace Go.Proofs.Ytefghfgmkndikaa
open Go Go.AX
theorem does_ok {h0 h hc : Heap} {bp lo n : Nat} {pv : PrV} {p : Prt} {cv : CmV} {c : Cmd} {B : Nat → Prop} (I : InP h0 h bp pv p lo hc) (C0 : CmR B h0 cv c) (g : SzP n p) (hn : n + c.writes.length ≤ 900000) (hs : c.spans.length ≤ big) {R : Value → Heap → Prop}
    (hR : ∀ pv' rv h', OutP h0 h h' bp pv lo hc pv' (doesP p c).1 rv (doesP p c).2 → R (.agg (eRp rv).toArray) h') : CallsH Try.prog 97 [ptr bp 0, .agg (eCm cv).toArray] h R := by
  have hbig : big = 1000000 := rfl
  have hn' : n ≤ 900000 := by omega
  have C := C0.ext I.ext
  have hps := I.o.s
  have hcs := C.s
  have hz := I.sizes
  have hcn := I.o.cn
  have hrn := I.o.rn
  have hdn := I.o.dn
  have gd := g.done
  have gr := g.records
  refine f97ok (by simp) ?_
  (try simp (config := { maxSteps := 1000000 }) (disch := first | exact Nat.le_of_ble_eq_true rfl | omega) only [AXS, AXB, J.dst, reduceIte, Nat.reduceEqDiff, Nat.reduceAdd, Nat.reduceMul, Nat.reduceLT, Nat.reduceLeDiff]); rw [f97c0_eq]; (try simp (config := { maxSteps := 1000000 }) (disch := first | exact Nat.le_of_ble_eq_true rfl | omega) only [AXS, AXB, J.dst, reduceIte, Nat.reduceEqDiff, Nat.reduceAdd, Nat.reduceMul, Nat.reduceLT, Nat.reduceLeDiff, f97r0])
  refine wL_boxN rfl ?_; rintro b1 h1 e1 s1 hb1 (B1 : Blk _ _ _ (eCm cv))
  refine wL_newN ?_; rintro b2 h2 e2 s2 hb2 B2
  replace B1 := B1.ext e2
  have e02 := e1.trans e2
  have z1 := e02.size
  have I2 := I.exts e02
  have Bp := I2.b
  (try simp (config := { maxSteps := 1000000 }) (disch := first | exact Nat.le_of_ble_eq_true rfl | omega) only [AXS, AXB, J.dst, reduceIte, Nat.reduceEqDiff, Nat.reduceAdd, Nat.reduceMul, Nat.reduceLT, Nat.reduceLeDiff]); rw [f97c1_eq]; (try simp (config := { maxSteps := 1000000 }) (disch := first | exact Nat.le_of_ble_eq_true rfl | omega) only [AXS, AXB, J.dst, reduceIte, Nat.reduceEqDiff, Nat.reduceAdd, Nat.reduceMul, Nat.reduceLT, Nat.reduceLeDiff, f97r1, B1.cel, eCm, hcs])
  rw [f97c2_eq]
  (try simp (config := { maxSteps := 1000000 }) (disch := first | exact Nat.le_of_ble_eq_true rfl | omega) only [AXS, AXB, J.dst, reduceIte, Nat.reduceEqDiff, Nat.reduceAdd, Nat.reduceMul, Nat.reduceLT, Nat.reduceLeDiff]); rw [f97c3_eq]; (try simp (config := { maxSteps := 1000000 }) (disch := first | exact Nat.le_of_ble_eq_true rfl | omega) only [AXS, AXB, J.dst, reduceIte, Nat.reduceEqDiff, Nat.reduceAdd, Nat.reduceMul, Nat.reduceLT, Nat.reduceLeDiff, f97r2]); rw [f97c4_eq]; (try simp (config := { maxSteps := 1000000 }) (disch := first | exact Nat.le_of_ble_eq_true rfl | omega) only [AXS, AXB, J.dst, reduceIte, Nat.reduceEqDiff, Nat.reduceAdd, Nat.reduceMul, Nat.reduceLT, Nat.reduceLeDiff])
  refine ⟨fun k2 => ?_, fun k2 => ?_⟩
  · have hl : doesP p c = readP p c := by unfold doesP; rw [if_pos (by simpa using k2)]
    (try simp (config := { maxSteps := 1000000 }) (disch := first | exact Nat.le_of_ble_eq_true rfl | omega) only [AXS, AXB, J.dst, reduceIte, Nat.reduceEqDiff, Nat.reduceAdd, Nat.reduceMul, Nat.reduceLT, Nat.reduceLeDiff]); rw [f97c5_eq]; (try simp (config := { maxSteps := 1000000 }) (disch := first | exact Nat.le_of_ble_eq_true rfl | omega) only [AXS, AXB, J.dst, reduceIte, Nat.reduceEqDiff, Nat.reduceAdd, Nat.reduceMul, Nat.reduceLT, Nat.reduceLeDiff, f97r3, B1.rd, eCm])
    refine read_ok I2 (C.ext e02) g hn' hs ?_
    intro pv' rv h3 O3
    refine ⟨trivial, ?_⟩
    try simp (config := { maxSteps := 1000000 }) (disch := first | exact Nat.le_of_ble_eq_true rfl | omega) only [AXS, AXB, J.dst, reduceIte, Nat.reduceEqDiff, Nat.reduceAdd, Nat.reduceMul, Nat.reduceLT, Nat.reduceLeDiff]
    have C2 : Blk h3 b2 47 _ := (O3.2.choose_spec.choose_spec.2.2.2 b2 (by omega) (by omega) (I.ap (by omega))).trans B2
    refine wL_stN rfl rfl rfl C2 (by decide) (eRp_one rv) ?_
    rintro h4 u4 (B4 : Blk _ _ _ (eRp rv))
    simp (config := { maxSteps := 1000000 }) (disch := first | exact Nat.le_of_ble_eq_true rfl | omega) only [AXS, AXB, J.dst, reduceIte, Nat.reduceEqDiff, Nat.reduceAdd, Nat.reduceMul, Nat.reduceLT, Nat.reduceLeDiff, B4.rd, eRp]
    have := hR pv' rv h4 (by rw [hl]; exact O3.ret e02 (by omega) (by omega) (by omega) (by omega) (I.ap (by omega)) u4)
    exact this
  have k2' : ¬ c.s.kind = 2 := by simpa using k2
  (try simp (config := { maxSteps := 1000000 }) (disch := first | exact Nat.le_of_ble_eq_true rfl | omega) only [AXS, AXB, J.dst, reduceIte, Nat.reduceEqDiff, Nat.reduceAdd, Nat.reduceMul, Nat.reduceLT, Nat.reduceLeDiff]); rw [f97c6_eq]; (try simp (config := { maxSteps := 1000000 }) (disch := first | exact Nat.le_of_ble_eq_true rfl | omega) only [AXS, AXB, J.dst, reduceIte, Nat.reduceEqDiff, Nat.reduceAdd, Nat.reduceMul, Nat.reduceLT, Nat.reduceLeDiff, f97r4]); rw [f97c7_eq]; (try simp (config := { maxSteps := 1000000 }) (disch := first | exact Nat.le_of_ble_eq_true rfl | omega) only [AXS, AXB, J.dst, reduceIte, Nat.reduceEqDiff, Nat.reduceAdd, Nat.reduceMul, Nat.reduceLT, Nat.reduceLeDiff])
  refine ⟨fun k3 => ?_, fun k3 => ?_⟩
  · have hl : doesP p c = prepP p c := by unfold doesP; rw [if_neg k2', if_pos (by simpa using k3)]
    (try simp (config := { maxSteps := 1000000 }) (disch := first | exact Nat.le_of_ble_eq_true rfl | omega) only [AXS, AXB, J.dst, reduceIte, Nat.reduceEqDiff, Nat.reduceAdd, Nat.reduceMul, Nat.reduceLT, Nat.reduceLeDiff]); rw [f97c8_eq]; (try simp (config := { maxSteps := 1000000 }) (disch := first | exact Nat.le_of_ble_eq_true rfl | omega) only [AXS, AXB, J.dst, reduceIte, Nat.reduceEqDiff, Nat.reduceAdd, Nat.reduceMul, Nat.reduceLT, Nat.reduceLeDiff, f97r5, B1.rd, eCm])
    refine prep_ok I2 C0 g hn ?_
    intro pv' rv h3 O3
    refine ⟨trivial, ?_⟩
    try simp (config := { maxSteps := 1000000 }) (disch := first | exact Nat.le_of_ble_eq_true rfl | omega) only [AXS, AXB, J.dst, reduceIte, Nat.reduceEqDiff, Nat.reduceAdd, Nat.reduceMul, Nat.reduceLT, Nat.reduceLeDiff]
    have C2 : Blk h3 b2 47 _ := (O3.2.choose_spec.choose_spec.2.2.2 b2 (by omega) (by omega) (I.ap (by omega))).trans B2
    refine wL_stN rfl rfl rfl C2 (by decide) (eRp_one rv) ?_
    rintro h4 u4 (B4 : Blk _ _ _ (eRp rv))
    simp (config := { maxSteps := 1000000 }) (disch := first | exact Nat.le_of_ble_eq_true rfl | omega) only [AXS, AXB, J.dst, reduceIte, Nat.reduceEqDiff, Nat.reduceAdd, Nat.reduceMul, Nat.reduceLT, Nat.reduceLeDiff, B4.rd, eRp]
    have := hR pv' rv h4 (by rw [hl]; exact O3.ret e02 (by omega) (by omega) (by omega) (by omega) (I.ap (by omega)) u4)
    exact this
  have k3' : ¬ c.s.kind = 3 := by simpa using k3
  (try simp (config := { maxSteps := 1000000 }) (disch := first | exact Nat.le_of_ble_eq_true rfl | omega) only [AXS, AXB, J.dst, reduceIte, Nat.reduceEqDiff, Nat.reduceAdd, Nat.reduceMul, Nat.reduceLT, Nat.reduceLeDiff]); rw [f97c9_eq]; (try simp (config := { maxSteps := 1000000 }) (disch := first | exact Nat.le_of_ble_eq_true rfl | omega) only [AXS, AXB, J.dst, reduceIte, Nat.reduceEqDiff, Nat.reduceAdd, Nat.reduceMul, Nat.reduceLT, Nat.reduceLeDiff, f97r6]); rw [f97c10_eq]; (try simp (config := { maxSteps := 1000000 }) (disch := first | exact Nat.le_of_ble_eq_true rfl | omega) only [AXS, AXB, J.dst, reduceIte, Nat.reduceEqDiff, Nat.reduceAdd, Nat.reduceMul, Nat.reduceLT, Nat.reduceLeDiff])
  refine ⟨fun k4 => ?_, fun k4 => ?_⟩
  · have hl : doesP p c = match findO p.records c.s.by_ with
      | some o => (p, ⟨{ okS with yes := o.yes, at_ := o.at_ }, []⟩)
      | none => ({ p with records := p.records ++ [outC c] }, ⟨{ okS with yes := c.s.yes, at_ := c.s.at_ }, []⟩) := by
      unfold doesP; rw [if_neg k2', if_neg k3', if_pos (by simpa using k4)]; (try rfl)
    have app : ∀ h3 b5, Ext h2 h3 → Blk h3 b5 126 (eOut ((findO p.records c.s.by_).getD noOut)) → h2.size ≤ b5 →
        wC Try.prog f97c12 (X.inBlock 0 (X.then (fun σ h => wC Try.prog f97c34 (endW [.cell 4 11] R) σ h) (endW [.cell 4 11] R))) [(0, ptr bp 0), (3, ptr b1 0), (4, ptr b2 0), (5, ptr b5 0), (6, .bool (findO p.records c.s.by_).isSome)] h3 := by
      intro h3 b5 e3 B5 hb5
      have I3 := I2.exts e3
      have Bp3 := I3.b
      have C1 := B1.ext e3
      have C2 := B2.ext e3
      have z3 := e3.size
      (try simp (config := { maxSteps := 1000000 }) (disch := first | exact Nat.le_of_ble_eq_true rfl | omega) only [AXS, AXB, J.dst, reduceIte, Nat.reduceEqDiff, Nat.reduceAdd, Nat.reduceMul, Nat.reduceLT, Nat.reduceLeDiff]); rw [f97c12_eq]; (try simp (config := { maxSteps := 1000000 }) (disch := first | exact Nat.le_of_ble_eq_true rfl | omega) only [AXS, AXB, J.dst, reduceIte, Nat.reduceEqDiff, Nat.reduceAdd, Nat.reduceMul, Nat.reduceLT, Nat.reduceLeDiff, f97r8]); rw [f97c13_eq]; (try simp (config := { maxSteps := 1000000 }) (disch := first | exact Nat.le_of_ble_eq_true rfl | omega) only [AXS, AXB, J.dst, reduceIte, Nat.reduceEqDiff, Nat.reduceAdd, Nat.reduceMul, Nat.reduceLT, Nat.reduceLeDiff])
      refine ⟨fun hh => ?_, fun hh => ?_⟩
      · obtain ⟨o, ho⟩ := Option.isSome_iff_exists.1 hh
        rw [ho, Option.getD_some] at B5
        rw [ho] at hl
        (try simp (config := { maxSteps := 1000000 }) (disch := first | exact Nat.le_of_ble_eq_true rfl | omega) only [AXS, AXB, J.dst, reduceIte, Nat.reduceEqDiff, Nat.reduceAdd, Nat.reduceMul, Nat.reduceLT, Nat.reduceLeDiff]); rw [f97c14_eq]; (try simp (config := { maxSteps := 1000000 }) (disch := first | exact Nat.le_of_ble_eq_true rfl | omega) only [AXS, AXB, J.dst, reduceIte, Nat.reduceEqDiff, Nat.reduceAdd, Nat.reduceMul, Nat.reduceLT, Nat.reduceLeDiff, f97r9, B5.cel, B5.rd, eOut])
        refine wL_stN rfl rfl rfl C2 (by decide) (eRp_one ⟨{ okS with yes := o.yes, at_ := o.at_ }, none, 0, 0⟩) ?_
        rintro h4 u4 (B4 : Blk _ _ _ (eRp ⟨{ okS with yes := o.yes, at_ := o.at_ }, none, 0, 0⟩))
        simp (config := { maxSteps := 1000000 }) (disch := first | exact Nat.le_of_ble_eq_true rfl | omega) only [AXS, AXB, J.dst, reduceIte, Nat.reduceEqDiff, Nat.reduceAdd, Nat.reduceMul, Nat.reduceLT, Nat.reduceLeDiff, B4.rd, eRp]
        have := hR pv ⟨{ okS with yes := o.yes, at_ := o.at_ }, none, 0, 0⟩ h4 (by rw [hl]; exact OutP.same I (e02.trans e3) (by omega) u4 _)
        exact this
      · have hno : findO p.records c.s.by_ = none := by simpa using hh
        rw [hno] at hl
        clear B5
        try simp (config := { maxSteps := 1000000 }) (disch := first | exact Nat.le_of_ble_eq_true rfl | omega) only [AXS, AXB, J.dst, reduceIte, Nat.reduceEqDiff, Nat.reduceAdd, Nat.reduceMul, Nat.reduceLT, Nat.reduceLeDiff]
        rw [f97c15_eq]
        refine ⟨fun b => b < h3.size ∧ b ≠ bp ∧ some b ≠ ob pv.ra, fun b hb => hb.1, ?_⟩
        simp only [f97r10, wT_one, wT_alt, wT_nil]
        have hb1p : b1 ≠ bp := by omega
        have hb1r : some b1 ≠ ob pv.ra := fun e => (I.apart (b := b1) (by omega)).1 e.symm
        simp (config := { maxSteps := 1000000 }) (disch := first | exact Nat.le_of_ble_eq_true rfl | omega) only [AXS, AXB, J.dst, reduceIte, Nat.reduceEqDiff, Nat.reduceAdd, Nat.reduceMul, Nat.reduceLT, Nat.reduceLeDiff, C1.cel, C1.rd, eCm, hcs, Bp3.cel, ePr, hrn]
        refine ⟨⟨by omega, hb1p, hb1r⟩, ⟨by omega, hb1p, hb1r⟩, ⟨by omega, hb1p, hb1r⟩, ?_, ?_⟩
        all_goals
          refine wL_bslP rfl (fun b hb => hb.1) ?_; rintro b4 h4 e4 s4 hb4 (B4 : Blk _ _ _ (eOut (outC c)))
          have I4 := I3.exts e4
          have Bp4 := I4.b
          try simp (config := { maxSteps := 1000000 }) (disch := first | exact Nat.le_of_ble_eq_true rfl | omega) only [AXS, AXB, J.dst, reduceIte, Nat.reduceEqDiff, Nat.reduceAdd, Nat.reduceMul, Nat.reduceLT, Nat.reduceLeDiff, Bp4.cel, ePr, hrn]
          rw [wL_raw]
          refine raw_append slT114 rfl rfl rfl I4.o.records' (news := eOut (outC c)) (by rw [eOut_len]) (.inr ⟨b4, 0, rfl, B4.row⟩) (eOut_one _) (by unfold maxLen; omega) (by omega) (by omega) ?_
          intro a5 c5 h5 O5 G5 A5
          have z5 := G5.size
          refine ⟨fun b hb => G5.at_ b (by have := hb.1; omega) hb.2.2, ?_⟩
          try simp (config := { maxSteps := 1000000 }) (disch := first | exact Nat.le_of_ble_eq_true rfl | omega) only [AXS, AXB, J.dst, reduceIte, Nat.reduceEqDiff, Nat.reduceAdd, Nat.reduceMul, Nat.reduceLT, Nat.reduceLeDiff]
          refine wL_stD rfl rfl (fun hb => hb.2.1 rfl) rfl (G5.blk Bp4 (fun e => I.ra e.symm)) (by rw [ePr_len]; exact Nat.le_of_ble_eq_true rfl) slice_one ?_
          rintro h6 u6 (B6 : Blk _ _ _ (ePr { pv with ra := a5, rn := p.records.length + 1, rc := c5 }))
          try simp (config := { maxSteps := 1000000 }) (disch := first | exact Nat.le_of_ble_eq_true rfl | omega) only [AXS, AXB, J.dst, reduceIte, Nat.reduceEqDiff, Nat.reduceAdd, Nat.reduceMul, Nat.reduceLT, Nat.reduceLeDiff]
          have I6 := I3.putR e4 (x := outC c) (by rw [List.flatMap_append]; simpa using O5) (by simp) G5 A5 u6 B6
          have ap1 := I.ap (b := b1) (by omega)
          have ap2 := I.ap (b := b2) (by omega)
          have D1 := u6.blk (G5.blk (C1.ext e4) hb1r) hb1p
          have D2 := u6.blk (G5.blk (C2.ext e4) (fun e => ap2.2.1 e.symm)) (by omega)
          (try simp (config := { maxSteps := 1000000 }) (disch := first | exact Nat.le_of_ble_eq_true rfl | omega) only [AXS, AXB, J.dst, reduceIte, Nat.reduceEqDiff, Nat.reduceAdd, Nat.reduceMul, Nat.reduceLT, Nat.reduceLeDiff]); rw [f97c16_eq]; (try simp (config := { maxSteps := 1000000 }) (disch := first | exact Nat.le_of_ble_eq_true rfl | omega) only [AXS, AXB, J.dst, reduceIte, Nat.reduceEqDiff, Nat.reduceAdd, Nat.reduceMul, Nat.reduceLT, Nat.reduceLeDiff, f97r11, D1.cel, D1.rd, eCm, hcs])
          refine wL_stN rfl rfl rfl D2 (by decide) (eRp_one ⟨{ okS with yes := c.s.yes, at_ := c.s.at_ }, none, 0, 0⟩) ?_
          rintro h7 u7 (B7 : Blk _ _ _ (eRp ⟨{ okS with yes := c.s.yes, at_ := c.s.at_ }, none, 0, 0⟩))
          simp (config := { maxSteps := 1000000 }) (disch := first | exact Nat.le_of_ble_eq_true rfl | omega) only [AXS, AXB, J.dst, reduceIte, Nat.reduceEqDiff, Nat.reduceAdd, Nat.reduceMul, Nat.reduceLT, Nat.reduceLeDiff, B7.rd, eRp]
          have z6 := u6.size
          have z7 := u7.size
          have := hR _ ⟨{ okS with yes := c.s.yes, at_ := c.s.at_ }, none, 0, 0⟩ h7 (by
            rw [hl]
            refine OutP.mk' (I6.boxA (by omega) (by omega) (ap_app A5 ap2 (by omega) rfl rfl) u7) (by omega) _ (fun b hb h => ap_app A5 h (by omega) rfl rfl) (fun b hb hne h => ?_)
            rw [u7.ne b (by omega), u6.ne b hne, G5.at_ b (by omega) (fun e => h.2.1 e.symm), ((e02.trans e3).trans e4).at_ b hb])
          exact this
    try simp (config := { maxSteps := 1000000 }) (disch := first | exact Nat.le_of_ble_eq_true rfl | omega) only [AXS, AXB, J.dst, reduceIte, Nat.reduceEqDiff, Nat.reduceAdd, Nat.reduceMul, Nat.reduceLT, Nat.reduceLeDiff]
    rw [f97c11_eq]
    refine drt_lt ?_
    simp only [f97r7, wT_one, wT_alt, wT_nil]
    simp (config := { maxSteps := 1000000 }) (disch := first | exact Nat.le_of_ble_eq_true rfl | omega) only [AXS, AXB, J.dst, reduceIte, Nat.reduceEqDiff, Nat.reduceAdd, Nat.reduceMul, Nat.reduceLT, Nat.reduceLeDiff, Bp.cel, ePr, B1.rd, eCm, hcs, hrn]
    refine ⟨by omega, by omega, ?_, ?_⟩
    · refine findO_ok p.records c.s.by_ _ I2.recs (by unfold maxLen; omega) ?_
      intro h3 e3
      refine ⟨kp_ext (Nat.le_refl _) e3, ?_⟩
      try simp (config := { maxSteps := 1000000 }) (disch := first | exact Nat.le_of_ble_eq_true rfl | omega) only [AXS, AXB, J.dst, reduceIte, Nat.reduceEqDiff, Nat.reduceAdd, Nat.reduceMul, Nat.reduceLT, Nat.reduceLeDiff]
      have z3 := e3.size
      refine wL_newD e3.size ?_; rintro b5 h4 e4 s4 hb5 B5
      try simp (config := { maxSteps := 1000000 }) (disch := first | exact Nat.le_of_ble_eq_true rfl | omega) only [AXS, AXB, J.dst, reduceIte, Nat.reduceEqDiff, Nat.reduceAdd, Nat.reduceMul, Nat.reduceLT, Nat.reduceLeDiff]
      refine wL_stD rfl rfl (by omega) rfl B5 (by decide) (eOut_one ((findO p.records c.s.by_).getD noOut)) ?_
      rintro h5 u5 (B6 : Blk _ _ _ (eOut ((findO p.records c.s.by_).getD noOut)))
      try simp (config := { maxSteps := 1000000 }) (disch := first | exact Nat.le_of_ble_eq_true rfl | omega) only [AXS, AXB, J.dst, reduceIte, Nat.reduceEqDiff, Nat.reduceAdd, Nat.reduceMul, Nat.reduceLT, Nat.reduceLeDiff]
      exact app h5 b5 (u5.ext (e3.trans e4) (by omega)) B6 (by omega)
    · refine wL_newD (Nat.le_refl _) ?_; rintro b5 h3 e3 s3 hb5 B5
      try simp (config := { maxSteps := 1000000 }) (disch := first | exact Nat.le_of_ble_eq_true rfl | omega) only [AXS, AXB, J.dst, reduceIte, Nat.reduceEqDiff, Nat.reduceAdd, Nat.reduceMul, Nat.reduceLT, Nat.reduceLeDiff]
      refine findO_ok p.records c.s.by_ _ (I2.exts e3).recs (by unfold maxLen; omega) ?_
      intro h4 e4
      refine ⟨kp_ext e3.size e4, ?_⟩
      try simp (config := { maxSteps := 1000000 }) (disch := first | exact Nat.le_of_ble_eq_true rfl | omega) only [AXS, AXB, J.dst, reduceIte, Nat.reduceEqDiff, Nat.reduceAdd, Nat.reduceMul, Nat.reduceLT, Nat.reduceLeDiff]
      refine wL_stD rfl rfl (by omega) rfl (B5.ext e4) (by decide) (eOut_one ((findO p.records c.s.by_).getD noOut)) ?_
      rintro h5 u5 (B6 : Blk _ _ _ (eOut ((findO p.records c.s.by_).getD noOut)))
      try simp (config := { maxSteps := 1000000 }) (disch := first | exact Nat.le_of_ble_eq_true rfl | omega) only [AXS, AXB, J.dst, reduceIte, Nat.reduceEqDiff, Nat.reduceAdd, Nat.reduceMul, Nat.reduceLT, Nat.reduceLeDiff]
      exact app h5 b5 (u5.ext (e3.trans e4) (by omega)) B6 (by omega)
  have k4' : ¬ c.s.kind = 4 := by simpa using k4
  (try simp (config := { maxSteps := 1000000 }) (disch := first | exact Nat.le_of_ble_eq_true rfl | omega) only [AXS, AXB, J.dst, reduceIte, Nat.reduceEqDiff, Nat.reduceAdd, Nat.reduceMul, Nat.reduceLT, Nat.reduceLeDiff]); rw [f97c17_eq]; (try simp (config := { maxSteps := 1000000 }) (disch := first | exact Nat.le_of_ble_eq_true rfl | omega) only [AXS, AXB, J.dst, reduceIte, Nat.reduceEqDiff, Nat.reduceAdd, Nat.reduceMul, Nat.reduceLT, Nat.reduceLeDiff, f97r12]); rw [f97c18_eq]; (try simp (config := { maxSteps := 1000000 }) (disch := first | exact Nat.le_of_ble_eq_true rfl | omega) only [AXS, AXB, J.dst, reduceIte, Nat.reduceEqDiff, Nat.reduceAdd, Nat.reduceMul, Nat.reduceLT, Nat.reduceLeDiff])
  refine ⟨fun k5 => ?_, fun k5 => ?_⟩
  · have hl : doesP p c = ({ p with cells := settleL p.cells c.s.by_ c.s.yes, done := match findO p.done c.s.by_ with | some _ => p.done | none => p.done ++ [outC c] }, ⟨okS, []⟩) := by
      unfold doesP; rw [if_neg k2', if_neg k3', if_neg k4', if_pos (by simpa using k5)]; (try rfl)
    try simp (config := { maxSteps := 1000000 }) (disch := first | exact Nat.le_of_ble_eq_true rfl | omega) only [AXS, AXB, J.dst, reduceIte, Nat.reduceEqDiff, Nat.reduceAdd, Nat.reduceMul, Nat.reduceLT, Nat.reduceLeDiff]
    rw [f97c19_eq]
    refine ⟨fun b => b < h2.size ∧ b ≠ bp, fun b hb => hb.1, ?_⟩
    have hb1p : b1 ≠ bp := by omega
    simp (config := { maxSteps := 1000000 }) (disch := first | exact Nat.le_of_ble_eq_true rfl | omega) only [AXS, AXB, J.dst, reduceIte, Nat.reduceEqDiff, Nat.reduceAdd, Nat.reduceMul, Nat.reduceLT, Nat.reduceLeDiff, f97r13, Bp.cel, ePr, B1.cel, B1.rd, eCm, hcs, hcn]
    refine ⟨⟨by omega, hb1p⟩, ⟨by omega, hb1p⟩, ?_⟩
    refine settleG g.cells hn' I2.cells c.s.by_ c.s.yes ?_
    intro ca cc h3 g3 O3 e3
    refine ⟨fun b hb => e3.at_ b hb.1, ?_⟩
    try simp (config := { maxSteps := 1000000 }) (disch := first | exact Nat.le_of_ble_eq_true rfl | omega) only [AXS, AXB, J.dst, reduceIte, Nat.reduceEqDiff, Nat.reduceAdd, Nat.reduceMul, Nat.reduceLT, Nat.reduceLeDiff]
    refine wL_stD rfl rfl (fun hb => hb.2 rfl) rfl (Bp.ext e3) (by rw [ePr_len]; exact Nat.le_of_ble_eq_true rfl) slice_one ?_
    rintro h4 u4 (B4 : Blk _ _ _ (ePr { pv with ca := ca, cn := (settleL p.cells c.s.by_ c.s.yes).length, cc := cc }))
    try simp (config := { maxSteps := 1000000 }) (disch := first | exact Nat.le_of_ble_eq_true rfl | omega) only [AXS, AXB, J.dst, reduceIte, Nat.reduceEqDiff, Nat.reduceAdd, Nat.reduceMul, Nat.reduceLT, Nat.reduceLeDiff]
    have I4 := I2.putC O3 e3 u4 B4
    have Bp4 := I4.b
    have C1 := u4.blk (B1.ext e3) hb1p
    have C2 := u4.blk (B2.ext e3) (by omega)
    have z3 := e3.size
    have z4 := u4.size
    have ap1 := I.ap (b := b1) (by omega)
    have ap2 := I.ap (b := b2) (by omega)
    have hfr : ∀ b, b < h2.size → ApP b lo hc pv → ApP b h2.size h3 { pv with ca := ca, cn := (settleL p.cells c.s.by_ c.s.yes).length, cc := cc } := fun b hb h => ⟨.inl hb, h.2⟩
    have hkp : ∀ b, b < h2.size → b ≠ bp → h4[b]? = h2[b]? := fun b hb hne => by rw [u4.ne b hne, e3.at_ b hb]
    have fin : ∀ (h6 : Heap) (pv6 : PrV) (d : List Out), InP h0 h6 bp pv6 { p with cells := settleL p.cells c.s.by_ c.s.yes, done := d } h2.size h3 → h4.size ≤ h6.size → Blk h6 b2 47 (eRp ⟨okS, none, 0, 0⟩) →
        (∀ b, b < h2.size → ApP b lo hc pv → ApP b h2.size h3 pv6) → (∀ b, b < h.size → b ≠ bp → ApP b lo hc pv → h6[b]? = h[b]?) → (d = match findO p.done c.s.by_ with | some _ => p.done | none => p.done ++ [outC c]) →
        ∀ τ, AX.look τ 4 = some (ptr b2 0) → wC Try.prog f97c24 (X.inBlock 0 (X.then (fun σ h => wC Try.prog f97c34 (endW [.cell 4 11] R) σ h) (endW [.cell 4 11] R))) τ h6 := by
      intro h6 pv6 d I6 z6 D2 hfr6 hkp6 hd τ hτ
      (try simp (config := { maxSteps := 1000000 }) (disch := first | exact Nat.le_of_ble_eq_true rfl | omega) only [AXS, AXB, J.dst, reduceIte, Nat.reduceEqDiff, Nat.reduceAdd, Nat.reduceMul, Nat.reduceLT, Nat.reduceLeDiff]); rw [f97c24_eq]; (try simp (config := { maxSteps := 1000000 }) (disch := first | exact Nat.le_of_ble_eq_true rfl | omega) only [AXS, AXB, J.dst, reduceIte, Nat.reduceEqDiff, Nat.reduceAdd, Nat.reduceMul, Nat.reduceLT, Nat.reduceLeDiff, f97r17, hτ])
      refine wL_stN hτ rfl rfl D2 (by decide) (eRp_one ⟨okS, none, 0, 0⟩) ?_
      rintro h7 u7 (B7 : Blk _ _ _ (eRp ⟨okS, none, 0, 0⟩))
      simp (config := { maxSteps := 1000000 }) (disch := first | exact Nat.le_of_ble_eq_true rfl | omega) only [AXS, AXB, J.dst, reduceIte, Nat.reduceEqDiff, Nat.reduceAdd, Nat.reduceMul, Nat.reduceLT, Nat.reduceLeDiff, B7.rd, eRp, hτ]
      have := hR _ ⟨okS, none, 0, 0⟩ h7 (by
        rw [hl, ← hd]
        refine OutP.mk' (I6.boxA (by omega) (by omega) (hfr6 b2 (by omega) ap2) u7) (by rw [u7.size]; omega) _ (fun b hb h => hfr6 b (by omega) h) (fun b hb hne h => ?_)
        rw [u7.ne b (by omega), hkp6 b hb hne h])
      exact this
    have app : ∀ h5, Ext h4 h5 → wC Try.prog f97c21 (X.inBlock 0 (X.then (fun σ h => wC Try.prog f97c34 (endW [.cell 4 11] R) σ h) (endW [.cell 4 11] R)))
        [(0, ptr bp 0), (3, ptr b1 0), (4, ptr b2 0), (8, .bool (findO p.done c.s.by_).isSome)] h5 := by
      intro h5 e5
      have I5 := I4.exts e5
      have Bp5 := I5.b
      have D1 := C1.ext e5
      have D2 := C2.ext e5
      have z5 := e5.size
      (try simp (config := { maxSteps := 1000000 }) (disch := first | exact Nat.le_of_ble_eq_true rfl | omega) only [AXS, AXB, J.dst, reduceIte, Nat.reduceEqDiff, Nat.reduceAdd, Nat.reduceMul, Nat.reduceLT, Nat.reduceLeDiff]); rw [f97c21_eq]; (try simp (config := { maxSteps := 1000000 }) (disch := first | exact Nat.le_of_ble_eq_true rfl | omega) only [AXS, AXB, J.dst, reduceIte, Nat.reduceEqDiff, Nat.reduceAdd, Nat.reduceMul, Nat.reduceLT, Nat.reduceLeDiff, f97r15]); rw [f97c22_eq]; (try simp (config := { maxSteps := 1000000 }) (disch := first | exact Nat.le_of_ble_eq_true rfl | omega) only [AXS, AXB, J.dst, reduceIte, Nat.reduceEqDiff, Nat.reduceAdd, Nat.reduceMul, Nat.reduceLT, Nat.reduceLeDiff])
      refine ⟨fun hh => ?_, fun hh => ?_⟩
      · have hno : findO p.done c.s.by_ = none := by simpa using hh
        try simp (config := { maxSteps := 1000000 }) (disch := first | exact Nat.le_of_ble_eq_true rfl | omega) only [AXS, AXB, J.dst, reduceIte, Nat.reduceEqDiff, Nat.reduceAdd, Nat.reduceMul, Nat.reduceLT, Nat.reduceLeDiff]
        rw [f97c23_eq]
        refine ⟨fun b => b < h5.size ∧ b ≠ bp ∧ some b ≠ ob pv.da, fun b hb => hb.1, ?_⟩
        simp only [f97r16, wT_one, wT_alt, wT_nil]
        have hb1r : some b1 ≠ ob pv.da := fun e => ap1.2.2 e.symm
        simp (config := { maxSteps := 1000000 }) (disch := first | exact Nat.le_of_ble_eq_true rfl | omega) only [AXS, AXB, J.dst, reduceIte, Nat.reduceEqDiff, Nat.reduceAdd, Nat.reduceMul, Nat.reduceLT, Nat.reduceLeDiff, D1.cel, D1.rd, eCm, hcs, Bp5.cel, ePr, hdn]
        refine ⟨⟨by omega, hb1p, hb1r⟩, ⟨by omega, hb1p, hb1r⟩, ⟨by omega, hb1p, hb1r⟩, ?_, ?_⟩
        all_goals
          refine wL_bslP rfl (fun b hb => hb.1) ?_; rintro b6 h6 e6 s6 hb6 (B6 : Blk _ _ _ (eOut (outC c)))
          have I6 := I5.exts e6
          have Bp6 := I6.b
          try simp (config := { maxSteps := 1000000 }) (disch := first | exact Nat.le_of_ble_eq_true rfl | omega) only [AXS, AXB, J.dst, reduceIte, Nat.reduceEqDiff, Nat.reduceAdd, Nat.reduceMul, Nat.reduceLT, Nat.reduceLeDiff, Bp6.cel, ePr, hdn]
          rw [wL_raw]
          refine raw_append slT114 rfl rfl rfl I6.o.done' (news := eOut (outC c)) (by rw [eOut_len]) (.inr ⟨b6, 0, rfl, B6.row⟩) (eOut_one _) (by unfold maxLen; show p.done.length + 1 ≤ _; omega) (by show (p.done.length + 1) * 56 ≤ _; omega) (by omega) ?_
          intro a7 c7 h7 O7 G7 A7
          have z7 := G7.size
          refine ⟨fun b hb => G7.at_ b (by have := hb.1; omega) hb.2.2, ?_⟩
          try simp (config := { maxSteps := 1000000 }) (disch := first | exact Nat.le_of_ble_eq_true rfl | omega) only [AXS, AXB, J.dst, reduceIte, Nat.reduceEqDiff, Nat.reduceAdd, Nat.reduceMul, Nat.reduceLT, Nat.reduceLeDiff]
          refine wL_stD rfl rfl (fun hb => hb.2.1 rfl) rfl (G7.blk Bp6 (fun e => I.da e.symm)) (by rw [ePr_len]; exact Nat.le_of_ble_eq_true rfl) slice_one ?_
          rintro h8 u8 (B8 : Blk _ _ _ (ePr { pv with ca := ca, cn := (settleL p.cells c.s.by_ c.s.yes).length, cc := cc, da := a7, dn := p.done.length + 1, dc := c7 }))
          try simp (config := { maxSteps := 1000000 }) (disch := first | exact Nat.le_of_ble_eq_true rfl | omega) only [AXS, AXB, J.dst, reduceIte, Nat.reduceEqDiff, Nat.reduceAdd, Nat.reduceMul, Nat.reduceLT, Nat.reduceLeDiff]
          have I8 := I5.putD e6 (x := outC c) (by rw [List.flatMap_append]; simpa using O7) (by simp) G7 A7 u8 B8
          have z8 := u8.size
          refine fin h8 _ _ I8 (by omega) (u8.blk (G7.blk (D2.ext e6) (fun e => ap2.2.2 e.symm)) (by omega)) (fun b hb h => ap_app' A7 (hfr b hb h) (by omega) rfl rfl) (fun b hb hne h => ?_) (by rw [hno]) _ rfl
          rw [u8.ne b hne, G7.at_ b (by omega) (fun e => h.2.2 e.symm), (e5.trans e6).at_ b (by omega), hkp b (by omega) hne, e02.at_ b hb]
      · have hyes : (findO p.done c.s.by_).isSome = true := by simpa using hh
        obtain ⟨o, ho⟩ := Option.isSome_iff_exists.1 hyes
        refine fin h5 _ p.done I5 (by omega) D2 hfr (fun b hb hne h => ?_) (by rw [ho]) _ rfl
        rw [e5.at_ b (by omega), hkp b (by omega) hne, e02.at_ b hb]
    try simp (config := { maxSteps := 1000000 }) (disch := first | exact Nat.le_of_ble_eq_true rfl | omega) only [AXS, AXB, J.dst, reduceIte, Nat.reduceEqDiff, Nat.reduceAdd, Nat.reduceMul, Nat.reduceLT, Nat.reduceLeDiff]
    rw [f97c20_eq]
    refine drt_lt ?_
    simp only [f97r14, wT_one, wT_alt, wT_nil]
    simp (config := { maxSteps := 1000000 }) (disch := first | exact Nat.le_of_ble_eq_true rfl | omega) only [AXS, AXB, J.dst, reduceIte, Nat.reduceEqDiff, Nat.reduceAdd, Nat.reduceMul, Nat.reduceLT, Nat.reduceLeDiff, Bp4.cel, ePr, C1.rd, eCm, hcs, hdn]
    refine ⟨by omega, by omega, ?_, ?_⟩
    · refine findO_ok p.done c.s.by_ _ I4.dones (by unfold maxLen; omega) ?_
      intro h5 e5
      refine ⟨kp_ext (Nat.le_refl _) e5, ?_⟩
      try simp (config := { maxSteps := 1000000 }) (disch := first | exact Nat.le_of_ble_eq_true rfl | omega) only [AXS, AXB, J.dst, reduceIte, Nat.reduceEqDiff, Nat.reduceAdd, Nat.reduceMul, Nat.reduceLT, Nat.reduceLeDiff]
      have z5 := e5.size
      refine wL_newD e5.size ?_; rintro b6 h6 e6 s6 hb6 B6
      try simp (config := { maxSteps := 1000000 }) (disch := first | exact Nat.le_of_ble_eq_true rfl | omega) only [AXS, AXB, J.dst, reduceIte, Nat.reduceEqDiff, Nat.reduceAdd, Nat.reduceMul, Nat.reduceLT, Nat.reduceLeDiff]
      refine wL_stD rfl rfl (by omega) rfl B6 (by decide) (eOut_one ((findO p.done c.s.by_).getD noOut)) ?_
      rintro h7 u7 (B7 : Blk _ _ _ (eOut ((findO p.done c.s.by_).getD noOut)))
      try simp (config := { maxSteps := 1000000 }) (disch := first | exact Nat.le_of_ble_eq_true rfl | omega) only [AXS, AXB, J.dst, reduceIte, Nat.reduceEqDiff, Nat.reduceAdd, Nat.reduceMul, Nat.reduceLT, Nat.reduceLeDiff]
      exact app h7 (u7.ext (e5.trans e6) (by omega))
    · refine wL_newD (Nat.le_refl _) ?_; rintro b6 h5 e5 s5 hb6 B6
      try simp (config := { maxSteps := 1000000 }) (disch := first | exact Nat.le_of_ble_eq_true rfl | omega) only [AXS, AXB, J.dst, reduceIte, Nat.reduceEqDiff, Nat.reduceAdd, Nat.reduceMul, Nat.reduceLT, Nat.reduceLeDiff]
      refine findO_ok p.done c.s.by_ _ (I4.exts e5).dones (by unfold maxLen; omega) ?_
      intro h6 e6
      refine ⟨kp_ext e5.size e6, ?_⟩
      try simp (config := { maxSteps := 1000000 }) (disch := first | exact Nat.le_of_ble_eq_true rfl | omega) only [AXS, AXB, J.dst, reduceIte, Nat.reduceEqDiff, Nat.reduceAdd, Nat.reduceMul, Nat.reduceLT, Nat.reduceLeDiff]
      refine wL_stD rfl rfl (by omega) rfl (B6.ext e6) (by decide) (eOut_one ((findO p.done c.s.by_).getD noOut)) ?_
      rintro h7 u7 (B7 : Blk _ _ _ (eOut ((findO p.done c.s.by_).getD noOut)))
      try simp (config := { maxSteps := 1000000 }) (disch := first | exact Nat.le_of_ble_eq_true rfl | omega) only [AXS, AXB, J.dst, reduceIte, Nat.reduceEqDiff, Nat.reduceAdd, Nat.reduceMul, Nat.reduceLT, Nat.reduceLeDiff]
      exact app h7 (u7.ext (e5.trans e6) (by omega))
  have k5' : ¬ c.s.kind = 5 := by simpa using k5
  (try simp (config := { maxSteps := 1000000 }) (disch := first | exact Nat.le_of_ble_eq_true rfl | omega) only [AXS, AXB, J.dst, reduceIte, Nat.reduceEqDiff, Nat.reduceAdd, Nat.reduceMul, Nat.reduceLT, Nat.reduceLeDiff]); rw [f97c25_eq]; (try simp (config := { maxSteps := 1000000 }) (disch := first | exact Nat.le_of_ble_eq_true rfl | omega) only [AXS, AXB, J.dst, reduceIte, Nat.reduceEqDiff, Nat.reduceAdd, Nat.reduceMul, Nat.reduceLT, Nat.reduceLeDiff, f97r18]); rw [f97c26_eq]; (try simp (config := { maxSteps := 1000000 }) (disch := first | exact Nat.le_of_ble_eq_true rfl | omega) only [AXS, AXB, J.dst, reduceIte, Nat.reduceEqDiff, Nat.reduceAdd, Nat.reduceMul, Nat.reduceLT, Nat.reduceLeDiff])
  refine ⟨fun k6 => ?_, fun k6 => ?_⟩
  · have hl : doesP p c = ({ p with s := { p.s with closed := maxI p.s.closed (minI c.s.wall mostWall) } }, ⟨{ okS with wall := maxI p.s.closed (minI c.s.wall mostWall) }, []⟩) := by
      unfold doesP; rw [if_neg k2', if_neg k3', if_neg k4', if_neg k5', if_pos (by simpa using k6)]
    try simp (config := { maxSteps := 1000000 }) (disch := first | exact Nat.le_of_ble_eq_true rfl | omega) only [AXS, AXB, J.dst, reduceIte, Nat.reduceEqDiff, Nat.reduceAdd, Nat.reduceMul, Nat.reduceLT, Nat.reduceLeDiff]
    rw [f97c27_eq]
    refine ⟨fun b => b < h2.size ∧ b ≠ bp, fun b hb => hb.1, ?_⟩
    have hb1p : b1 ≠ bp := by omega
    simp (config := { maxSteps := 1000000 }) (disch := first | exact Nat.le_of_ble_eq_true rfl | omega) only [AXS, AXB, J.dst, reduceIte, Nat.reduceEqDiff, Nat.reduceAdd, Nat.reduceMul, Nat.reduceLT, Nat.reduceLeDiff, f97r19, Bp.cel, ePr, B1.cel, eCm, hcs, hps, Bool.false_eq_true]
    refine ⟨⟨by omega, hb1p⟩, ?_⟩
    refine wL_stD rfl rfl (fun hb => hb.2 rfl) rfl Bp (by rw [ePr_len]; exact Nat.le_of_ble_eq_true rfl) int_one ?_
    rintro h4 u4 (B4 : Blk _ _ _ (ePr { pv with s := { pv.s with closed := maxI p.s.closed (minI c.s.wall mostWall) } }))
    have I4 := I2.put _ u4 B4
    rw [hps] at I4
    have Bp4 := I4.b
    have ap2 := I.ap (b := b2) (by omega)
    have C2 := u4.blk B2 (by omega)
    have z4 := u4.size
    try simp (config := { maxSteps := 1000000 }) (disch := first | exact Nat.le_of_ble_eq_true rfl | omega) only [AXS, AXB, J.dst, reduceIte, Nat.reduceEqDiff, Nat.reduceAdd, Nat.reduceMul, Nat.reduceLT, Nat.reduceLeDiff]
    (try simp (config := { maxSteps := 1000000 }) (disch := first | exact Nat.le_of_ble_eq_true rfl | omega) only [AXS, AXB, J.dst, reduceIte, Nat.reduceEqDiff, Nat.reduceAdd, Nat.reduceMul, Nat.reduceLT, Nat.reduceLeDiff]); rw [f97c28_eq]; (try simp (config := { maxSteps := 1000000 }) (disch := first | exact Nat.le_of_ble_eq_true rfl | omega) only [AXS, AXB, J.dst, reduceIte, Nat.reduceEqDiff, Nat.reduceAdd, Nat.reduceMul, Nat.reduceLT, Nat.reduceLeDiff, f97r20, Bp4.cel, ePr])
    refine wL_stN rfl rfl rfl C2 (by decide) (eRp_one ⟨{ okS with wall := maxI p.s.closed (minI c.s.wall mostWall) }, none, 0, 0⟩) ?_
    rintro h5 u5 (B5 : Blk _ _ _ (eRp ⟨{ okS with wall := maxI p.s.closed (minI c.s.wall mostWall) }, none, 0, 0⟩))
    simp (config := { maxSteps := 1000000 }) (disch := first | exact Nat.le_of_ble_eq_true rfl | omega) only [AXS, AXB, J.dst, reduceIte, Nat.reduceEqDiff, Nat.reduceAdd, Nat.reduceMul, Nat.reduceLT, Nat.reduceLeDiff, B5.rd, eRp]
    have := hR _ ⟨{ okS with wall := maxI p.s.closed (minI c.s.wall mostWall) }, none, 0, 0⟩ h5 (by
      rw [hl]
      refine OutP.mk' (I4.boxA (by omega) (by omega) ap2 u5) (by rw [u5.size]; omega) _ (fun b hb h => h) (fun b hb hne h => ?_)
      rw [u5.ne b (by omega), u4.ne b hne, e02.at_ b hb])
    exact this
  have k6' : ¬ c.s.kind = 6 := by simpa using k6
  (try simp (config := { maxSteps := 1000000 }) (disch := first | exact Nat.le_of_ble_eq_true rfl | omega) only [AXS, AXB, J.dst, reduceIte, Nat.reduceEqDiff, Nat.reduceAdd, Nat.reduceMul, Nat.reduceLT, Nat.reduceLeDiff]); rw [f97c29_eq]; (try simp (config := { maxSteps := 1000000 }) (disch := first | exact Nat.le_of_ble_eq_true rfl | omega) only [AXS, AXB, J.dst, reduceIte, Nat.reduceEqDiff, Nat.reduceAdd, Nat.reduceMul, Nat.reduceLT, Nat.reduceLeDiff, f97r21]); rw [f97c30_eq]; (try simp (config := { maxSteps := 1000000 }) (disch := first | exact Nat.le_of_ble_eq_true rfl | omega) only [AXS, AXB, J.dst, reduceIte, Nat.reduceEqDiff, Nat.reduceAdd, Nat.reduceMul, Nat.reduceLT, Nat.reduceLeDiff])
  refine ⟨fun k7 => ?_, fun k7 => ?_⟩
  · have hl : doesP p c = ({ p with s := { p.s with low := maxI p.s.low (minI c.s.wall p.s.closed) }, cells := trimL p.cells ⟨maxI p.s.low (minI c.s.wall p.s.closed), 0⟩ }, ⟨{ okS with wall := maxI p.s.low (minI c.s.wall p.s.closed) }, []⟩) := by
      unfold doesP; rw [if_neg k2', if_neg k3', if_neg k4', if_neg k5', if_neg k6', if_pos (by simpa using k7)]
    try simp (config := { maxSteps := 1000000 }) (disch := first | exact Nat.le_of_ble_eq_true rfl | omega) only [AXS, AXB, J.dst, reduceIte, Nat.reduceEqDiff, Nat.reduceAdd, Nat.reduceMul, Nat.reduceLT, Nat.reduceLeDiff]
    rw [f97c31_eq]
    refine ⟨fun b => b < h2.size ∧ b ≠ bp, fun b hb => hb.1, ?_⟩
    have hb1p : b1 ≠ bp := by omega
    simp only [f97r22, wT_one, wT_alt, wT_nil]
    simp (config := { maxSteps := 1000000 }) (disch := first | exact Nat.le_of_ble_eq_true rfl | omega) only [AXS, AXB, J.dst, reduceIte, Nat.reduceEqDiff, Nat.reduceAdd, Nat.reduceMul, Nat.reduceLT, Nat.reduceLeDiff, Bp.cel, ePr, B1.cel, eCm, hcs, hps, Bool.false_eq_true]
    refine ⟨⟨by omega, hb1p⟩, ?_, ?_⟩
    all_goals
      refine wL_stD rfl rfl (fun hb => hb.2 rfl) rfl Bp (by rw [ePr_len]; exact Nat.le_of_ble_eq_true rfl) int_one ?_
      rintro h4 u4 (B4 : Blk _ _ _ (ePr { pv with s := { pv.s with low := maxI p.s.low (minI c.s.wall p.s.closed) } }))
      have I4 := I2.put _ u4 B4
      rw [hps] at I4
      have Bp4 := I4.b
      have ap2 := I.ap (b := b2) (by omega)
      have C2 := u4.blk B2 (by omega)
      have z4 := u4.size
      try simp (config := { maxSteps := 1000000 }) (disch := first | exact Nat.le_of_ble_eq_true rfl | omega) only [AXS, AXB, J.dst, reduceIte, Nat.reduceEqDiff, Nat.reduceAdd, Nat.reduceMul, Nat.reduceLT, Nat.reduceLeDiff]
      rw [f97c32_eq]
      refine ⟨fun b => b < h4.size ∧ b ≠ bp, fun b hb => hb.1, ?_⟩
      simp only [f97r23, wT_one, wT_alt, wT_nil]
      simp (config := { maxSteps := 1000000 }) (disch := first | exact Nat.le_of_ble_eq_true rfl | omega) only [AXS, AXB, J.dst, reduceIte, Nat.reduceEqDiff, Nat.reduceAdd, Nat.reduceMul, Nat.reduceLT, Nat.reduceLeDiff, Bp4.cel, ePr, hcn]
      refine ⟨?_, ?_⟩
      all_goals
        refine trimG g.cells hn' I4.cells ⟨maxI p.s.low (minI c.s.wall p.s.closed), 0⟩ ?_
        intro ca cc h5 g5 O5 e5
        refine ⟨fun b hb => e5.at_ b hb.1, ?_⟩
        try simp (config := { maxSteps := 1000000 }) (disch := first | exact Nat.le_of_ble_eq_true rfl | omega) only [AXS, AXB, J.dst, reduceIte, Nat.reduceEqDiff, Nat.reduceAdd, Nat.reduceMul, Nat.reduceLT, Nat.reduceLeDiff]
        refine wL_stD rfl rfl (fun hb => hb.2 rfl) rfl (Bp4.ext e5) (by rw [ePr_len]; exact Nat.le_of_ble_eq_true rfl) slice_one ?_
        rintro h6 u6 (B6 : Blk _ _ _ (ePr { pv with s := { p.s with low := maxI p.s.low (minI c.s.wall p.s.closed) }, ca := ca, cn := (trimL p.cells ⟨maxI p.s.low (minI c.s.wall p.s.closed), 0⟩).length, cc := cc }))
        try simp (config := { maxSteps := 1000000 }) (disch := first | exact Nat.le_of_ble_eq_true rfl | omega) only [AXS, AXB, J.dst, reduceIte, Nat.reduceEqDiff, Nat.reduceAdd, Nat.reduceMul, Nat.reduceLT, Nat.reduceLeDiff]
        have I6 := I4.putC O5 e5 u6 B6
        have Bp6 := I6.b
        have z5 := e5.size
        have z6 := u6.size
        (try simp (config := { maxSteps := 1000000 }) (disch := first | exact Nat.le_of_ble_eq_true rfl | omega) only [AXS, AXB, J.dst, reduceIte, Nat.reduceEqDiff, Nat.reduceAdd, Nat.reduceMul, Nat.reduceLT, Nat.reduceLeDiff]); rw [f97c33_eq]; (try simp (config := { maxSteps := 1000000 }) (disch := first | exact Nat.le_of_ble_eq_true rfl | omega) only [AXS, AXB, J.dst, reduceIte, Nat.reduceEqDiff, Nat.reduceAdd, Nat.reduceMul, Nat.reduceLT, Nat.reduceLeDiff, f97r24, Bp6.cel, ePr])
        refine wL_stN rfl rfl rfl (u6.blk (C2.ext e5) (by omega)) (by decide) (eRp_one ⟨{ okS with wall := maxI p.s.low (minI c.s.wall p.s.closed) }, none, 0, 0⟩) ?_
        rintro h7 u7 (B7 : Blk _ _ _ (eRp ⟨{ okS with wall := maxI p.s.low (minI c.s.wall p.s.closed) }, none, 0, 0⟩))
        simp (config := { maxSteps := 1000000 }) (disch := first | exact Nat.le_of_ble_eq_true rfl | omega) only [AXS, AXB, J.dst, reduceIte, Nat.reduceEqDiff, Nat.reduceAdd, Nat.reduceMul, Nat.reduceLT, Nat.reduceLeDiff, B7.rd, eRp]
        have := hR _ ⟨{ okS with wall := maxI p.s.low (minI c.s.wall p.s.closed) }, none, 0, 0⟩ h7 (by
          rw [hl]
          refine OutP.mk' (I6.boxA (by omega) (by omega) ⟨.inl (by omega), ap2.2⟩ u7) (by rw [u7.size]; omega) _ (fun b hb h => ⟨.inl (by omega), h.2⟩) (fun b hb hne h => ?_)
          rw [u7.ne b (by omega), u6.ne b hne, e5.at_ b (by omega), u4.ne b hne, e02.at_ b hb])
        exact this
  have k7' : ¬ c.s.kind = 7 := by simpa using k7
  have hl : doesP p c = (p, errR 9) := by
    unfold doesP; rw [if_neg k2', if_neg k3', if_neg k4', if_neg k5', if_neg k6', if_neg k7']
  (try simp (config := { maxSteps := 1000000 }) (disch := first | exact Nat.le_of_ble_eq_true rfl | omega) only [AXS, AXB, J.dst, reduceIte, Nat.reduceEqDiff, Nat.reduceAdd, Nat.reduceMul, Nat.reduceLT, Nat.reduceLeDiff]); rw [f97c34_eq]; (try simp (config := { maxSteps := 1000000 }) (disch := first | exact Nat.le_of_ble_eq_true rfl | omega) only [AXS, AXB, J.dst, reduceIte, Nat.reduceEqDiff, Nat.reduceAdd, Nat.reduceMul, Nat.reduceLT, Nat.reduceLeDiff, f97r25])
  refine wL_stN rfl rfl rfl B2 (by decide) (eRp_one ⟨(errR 9).s, none, 0, 0⟩) ?_
  rintro h3 u3 (B3 : Blk _ _ _ (eRp ⟨(errR 9).s, none, 0, 0⟩))
  simp (config := { maxSteps := 1000000 }) (disch := first | exact Nat.le_of_ble_eq_true rfl | omega) only [AXS, AXB, J.dst, reduceIte, Nat.reduceEqDiff, Nat.reduceAdd, Nat.reduceMul, Nat.reduceLT, Nat.reduceLeDiff, B3.rd, eRp]
  have := hR pv ⟨(errR 9).s, none, 0, 0⟩ h3 (by rw [hl]; exact OutP.same I e02 (by omega) u3 _)
  exact this
end Go.Proofs.Ytefghfgmkndikaa
namespace Go.AX
open Go
theorem PrO.mono {l0 l1 lo : Nat} {hc h : Heap} {v : PrV} {p : Prt} (O : PrO l0 lo hc h v p) (x : l1 ≤ l0) : PrO l1 lo hc h v p := ⟨O.s, O.cn, O.rn, O.dn, O.cells, ⟨Nat.le_trans x O.le.1, O.le.2⟩, O.kept, O.records.mono x, O.done.mono x, O.ra, O.da, O.apart⟩
theorem PrO.ap {l0 lo b : Nat} {hc h : Heap} {v : PrV} {p : Prt} (O : PrO l0 lo hc h v p) (hb : b < l0) : ApP b lo hc v :=
  ⟨.inl (Nat.lt_of_lt_of_le hb O.le.1), fun e => by have := (O.records.ob b e).1; omega, fun e => by have := (O.done.ob b e).1; omega⟩
theorem PrO.ap' {l0 lo b : Nat} {hc h : Heap} {v : PrV} {p : Prt} (O : PrO l0 lo hc h v p) (hb : h.size ≤ b) : ApP b lo hc v :=
  ⟨.inr (Nat.le_trans O.le.2.2 hb), fun e => by have := (O.records.ob b e).2; omega, fun e => by have := (O.done.ob b e).2; omega⟩
end Go.AX
namespace Go.Proofs.Ytefghfgmkndikaa
open Go Go.AX
theorem apply_ok {B B' : Nat → Prop} {n : Nat} (pv : PrV) (p : Prt) (cv : CmV) (c : Cmd) (h : Heap) (S : PrR B h pv p) (C : CmR B' h cv c) (g : SzP n p) (hn : n + c.writes.length ≤ 900000) (hs : c.spans.length ≤ big) (he : 0 ≤ p.s.epoch) {R : Value → Heap → Prop}
    (hR : ∀ pv' rv h', PrF h.size h' pv' (applyP p c).1 → RpO h.size h' rv (applyP p c).2 → Ext h h' → R (.tuple #[.agg (ePr pv').toArray, .agg (eRp rv).toArray]) h') : CallsH Try.prog 56 [.agg (ePr pv).toArray, .agg (eCm cv).toArray] h R := by
  have hn' : n ≤ 900000 := by omega
  refine f56ok (by simp) ?_
  (try simp (config := { maxSteps := 1000000 }) (disch := first | exact Nat.le_of_ble_eq_true rfl | omega) only [AXS, AXB, J.dst, reduceIte, Nat.reduceEqDiff, Nat.reduceAdd, Nat.reduceMul, Nat.reduceLT, Nat.reduceLeDiff]); rw [f56c0_eq]; (try simp (config := { maxSteps := 1000000 }) (disch := first | exact Nat.le_of_ble_eq_true rfl | omega) only [AXS, AXB, J.dst, reduceIte, Nat.reduceEqDiff, Nat.reduceAdd, Nat.reduceMul, Nat.reduceLT, Nat.reduceLeDiff, f56r0])
  refine wL_boxN rfl ?_; rintro b2 h1 e1 s1 hb2 (B2 : Blk _ _ _ (ePr pv))
  refine wL_boxN rfl ?_; rintro b3 h2 e2 s2 hb3 (B3 : Blk _ _ _ (eCm cv))
  try simp (config := { maxSteps := 1000000 }) (disch := first | exact Nat.le_of_ble_eq_true rfl | omega) only [AXS, AXB, J.dst, reduceIte, Nat.reduceEqDiff, Nat.reduceAdd, Nat.reduceMul, Nat.reduceLT, Nat.reduceLeDiff]
  refine wL_newN ?_; rintro b4 h3 e3 s3 hb4 B4
  refine wL_newN ?_; rintro b5 h4 e4 s4 hb5 B5
  replace B2 := B2.ext e2
  replace B2 := B2.ext e3; replace B3 := B3.ext e3
  replace B2 := B2.ext e4; replace B3 := B3.ext e4; replace B4 := B4.ext e4
  have e04 := ((e1.trans e2).trans e3).trans e4
  (try simp (config := { maxSteps := 1000000 }) (disch := first | exact Nat.le_of_ble_eq_true rfl | omega) only [AXS, AXB, J.dst, reduceIte, Nat.reduceEqDiff, Nat.reduceAdd, Nat.reduceMul, Nat.reduceLT, Nat.reduceLeDiff]); rw [f56c1_eq]; (try simp (config := { maxSteps := 1000000 }) (disch := first | exact Nat.le_of_ble_eq_true rfl | omega) only [AXS, AXB, J.dst, reduceIte, Nat.reduceEqDiff, Nat.reduceAdd, Nat.reduceMul, Nat.reduceLT, Nat.reduceLeDiff, f56r1, B2.rd, ePr])
  refine partC_ok pv p _ (S.ext e04) g hn' ?_
  intro pv1 lo hc h5 O5 e5
  refine ⟨trivial, ?_⟩
  replace B2 := B2.ext e5; replace B3 := B3.ext e5; replace B4 := B4.ext e5; replace B5 := B5.ext e5
  have z5 := e5.size
  try simp (config := { maxSteps := 1000000 }) (disch := first | exact Nat.le_of_ble_eq_true rfl | omega) only [AXS, AXB, J.dst, reduceIte, Nat.reduceEqDiff, Nat.reduceAdd, Nat.reduceMul, Nat.reduceLT, Nat.reduceLeDiff]
  refine wL_newN ?_; rintro b6 h6 e6 s6 hb6 B6
  try simp (config := { maxSteps := 1000000 }) (disch := first | exact Nat.le_of_ble_eq_true rfl | omega) only [AXS, AXB, J.dst, reduceIte, Nat.reduceEqDiff, Nat.reduceAdd, Nat.reduceMul, Nat.reduceLT, Nat.reduceLeDiff]
  refine wL_stN rfl rfl rfl B6 (by decide) (ePr_one pv1) ?_
  rintro h7 u7 (B7 : Blk _ _ _ (ePr pv1))
  have e57 := u7.ext e6 (by omega)
  replace B2 := B2.ext e57; replace B3 := B3.ext e57; replace B4 := B4.ext e57; replace B5 := B5.ext e57
  have z7 := u7.size
  (try simp (config := { maxSteps := 1000000 }) (disch := first | exact Nat.le_of_ble_eq_true rfl | omega) only [AXS, AXB, J.dst, reduceIte, Nat.reduceEqDiff, Nat.reduceAdd, Nat.reduceMul, Nat.reduceLT, Nat.reduceLeDiff]); rw [f56c2_eq]; (try simp (config := { maxSteps := 1000000 }) (disch := first | exact Nat.le_of_ble_eq_true rfl | omega) only [AXS, AXB, J.dst, reduceIte, Nat.reduceEqDiff, Nat.reduceAdd, Nat.reduceMul, Nat.reduceLT, Nat.reduceLeDiff, f56r2])
  refine wL_newN ?_; rintro b7 h8 e8 s8 hb7 B8
  try simp (config := { maxSteps := 1000000 }) (disch := first | exact Nat.le_of_ble_eq_true rfl | omega) only [AXS, AXB, J.dst, reduceIte, Nat.reduceEqDiff, Nat.reduceAdd, Nat.reduceMul, Nat.reduceLT, Nat.reduceLeDiff]
  refine wL_stN rfl rfl rfl B8 (by decide) (eRp_one ⟨okS, none, 0, 0⟩) ?_
  rintro h9 u9 (B9 : Blk _ _ _ (eRp ⟨okS, none, 0, 0⟩))
  have e79 := u9.ext e8 (by omega)
  replace B2 := B2.ext e79; replace B3 := B3.ext e79; replace B4 := B4.ext e79; replace B5 := B5.ext e79; replace B7 := B7.ext e79
  have z9 := u9.size
  have e59 := e57.trans e79
  have e49 := e5.trans e59
  have O9 := O5.exts e59
  have s04 := e04.size
  have I9 : InP h h9 b6 pv1 p lo hc := ⟨e04.trans e49, O9.mono s04, B7, ⟨by omega, .inr (by have := O5.le; omega)⟩, (O5.ap' (b := b6) (by omega)).2.1, (O5.ap' (b := b6) (by omega)).2.2⟩
  have a2 := O5.ap (b := b2) (by omega)
  have a4 := O5.ap (b := b4) (by omega)
  have a5 := O5.ap (b := b5) (by omega)
  have a7 := O5.ap' (b := b7) (by omega)
  -- behind the command
  have app : ∀ (h10 : Heap) (pv' : PrV) (p' : Prt) (lo' : Nat) (hc' : Heap) (rv : RpV) (r : Rep), InP h h10 b6 pv' p' lo' hc' → RpO h9.size h10 rv r → h9.size ≤ h10.size → Blk h10 b7 47 (eRp rv) → Blk h10 b2 116 (ePr pv) →
      Blk h10 b4 116 (ePr ⟨⟨0, 0, ⟨0, 0⟩, 0, 0⟩, none, 0, 0, none, 0, 0, none, 0, 0⟩) → Blk h10 b5 47 (eRp ⟨okS, none, 0, 0⟩) → ApP b4 lo' hc' pv' → ApP b5 lo' hc' pv' → applyP p c = (if r.s.err = 0 then (p', r) else (p, r)) →
      wC Try.prog f56c11 (endW [.cell 4 9, .cell 5 11] R) [(2, ptr b2 0), (4, ptr b4 0), (5, ptr b5 0), (6, ptr b6 0), (7, ptr b7 0)] h10 := by
    intro h10 pv' p' lo' hc' rv r I10 K10 z10 D7 D2 D4 D5 x4 x5 hap
    have hpa := K10.pairs.ob
    have z10' := I10.b.lt
    have hxt := I10.ext
    (try simp (config := { maxSteps := 1000000 }) (disch := first | exact Nat.le_of_ble_eq_true rfl | omega) only [AXS, AXB, J.dst, reduceIte, Nat.reduceEqDiff, Nat.reduceAdd, Nat.reduceMul, Nat.reduceLT, Nat.reduceLeDiff]); rw [f56c11_eq]; (try simp (config := { maxSteps := 1000000 }) (disch := first | exact Nat.le_of_ble_eq_true rfl | omega) only [AXS, AXB, J.dst, reduceIte, Nat.reduceEqDiff, Nat.reduceAdd, Nat.reduceMul, Nat.reduceLT, Nat.reduceLeDiff, f56r8, D7.cel, eRp]); rw [f56c12_eq]; (try simp (config := { maxSteps := 1000000 }) (disch := first | exact Nat.le_of_ble_eq_true rfl | omega) only [AXS, AXB, J.dst, reduceIte, Nat.reduceEqDiff, Nat.reduceAdd, Nat.reduceMul, Nat.reduceLT, Nat.reduceLeDiff, D7.cel, eRp])
    refine ⟨fun hh => ?_, fun hh => ?_⟩
    · have hne : r.s.err ≠ 0 := by rw [← K10.s]; simpa using hh
      rw [if_neg hne] at hap
      try simp (config := { maxSteps := 1000000 }) (disch := first | exact Nat.le_of_ble_eq_true rfl | omega) only [AXS, AXB, J.dst, reduceIte, Nat.reduceEqDiff, Nat.reduceAdd, Nat.reduceMul, Nat.reduceLT, Nat.reduceLeDiff]
      rw [f56c13_eq]
      refine ⟨fun b => b < h10.size ∧ b ≠ b4 ∧ b ≠ b5, fun b hb => hb.1, ?_⟩
      have n1 : b2 ≠ b4 := by omega
      have n2 : b2 ≠ b5 := by omega
      have n3 : b7 ≠ b4 := by omega
      have n4 : b7 ≠ b5 := by omega
      simp (config := { maxSteps := 1000000 }) (disch := first | exact Nat.le_of_ble_eq_true rfl | omega) only [AXS, AXB, J.dst, reduceIte, Nat.reduceEqDiff, Nat.reduceAdd, Nat.reduceMul, Nat.reduceLT, Nat.reduceLeDiff, f56r9, D2.rd, ePr, D7.rd, eRp]
      refine ⟨⟨by omega, n1, n2⟩, ⟨by omega, n3, n4⟩, ?_⟩
      refine partC_ok pv p _ (S.ext hxt) g hn' ?_
      intro pv11 lo11 hc11 h11 O11 e11
      refine ⟨fun b hb => e11.at_ b hb.1, ?_⟩
      try simp (config := { maxSteps := 1000000 }) (disch := first | exact Nat.le_of_ble_eq_true rfl | omega) only [AXS, AXB, J.dst, reduceIte, Nat.reduceEqDiff, Nat.reduceAdd, Nat.reduceMul, Nat.reduceLT, Nat.reduceLeDiff]
      have y11 := e11.size
      refine wL_stD rfl rfl (fun hb => hb.2.1 rfl) rfl (D4.ext e11) (by decide) (ePr_one pv11) ?_
      rintro h12 u12 (B12 : Blk _ _ _ (ePr pv11))
      try simp (config := { maxSteps := 1000000 }) (disch := first | exact Nat.le_of_ble_eq_true rfl | omega) only [AXS, AXB, J.dst, reduceIte, Nat.reduceEqDiff, Nat.reduceAdd, Nat.reduceMul, Nat.reduceLT, Nat.reduceLeDiff]
      refine wL_stD rfl rfl (fun hb => hb.2.2 rfl) rfl (u12.blk (D5.ext e11) (by omega)) (by decide) (eRp_one rv) ?_
      rintro h13 u13 (B13 : Blk _ _ _ (eRp rv))
      have B12 := u13.blk B12 (by omega)
      simp (config := { maxSteps := 1000000 }) (disch := first | exact Nat.le_of_ble_eq_true rfl | omega) only [AXS, AXB, J.dst, reduceIte, Nat.reduceEqDiff, Nat.reduceAdd, Nat.reduceMul, Nat.reduceLT, Nat.reduceLeDiff, B12.rd, ePr, B13.rd, eRp]
      have x4' := O11.ap (b := b4) (by omega)
      have x5' := O11.ap (b := b5) (by omega)
      have := hR pv11 rv h13 (by
        rw [hap]
        exact (((O11.upd u12 x4'.1 x4'.2.1 x4'.2.2).upd u13 x5'.1 x5'.2.1 x5'.2.2).mono hxt.size).fin) (by
        rw [hap]
        refine ⟨K10.s, K10.pn, ((((K10.pairs.mono (by omega)).ext e11).gr u12.gr fun j hj e => ?_).gr u13.gr fun j hj e => ?_)⟩
        · cases e; have := hpa b4 hj; omega
        · cases e; have := hpa b5 hj; omega) (u13.ext (u12.ext (hxt.trans e11) (by omega)) (by omega))
      exact this
    · have h0 : r.s.err = 0 := by rw [← K10.s]; simpa using hh
      rw [if_pos h0] at hap
      try simp (config := { maxSteps := 1000000 }) (disch := first | exact Nat.le_of_ble_eq_true rfl | omega) only [AXS, AXB, J.dst, reduceIte, Nat.reduceEqDiff, Nat.reduceAdd, Nat.reduceMul, Nat.reduceLT, Nat.reduceLeDiff]
      rw [f56c14_eq]
      refine ⟨fun b => b < h10.size ∧ b ≠ b4 ∧ b ≠ b5, fun b hb => hb.1, ?_⟩
      have n1 : b6 ≠ b4 := by omega
      have n2 : b6 ≠ b5 := by omega
      have n3 : b7 ≠ b4 := by omega
      have n4 : b7 ≠ b5 := by omega
      have D6 := I10.b
      simp (config := { maxSteps := 1000000 }) (disch := first | exact Nat.le_of_ble_eq_true rfl | omega) only [AXS, AXB, J.dst, reduceIte, Nat.reduceEqDiff, Nat.reduceAdd, Nat.reduceMul, Nat.reduceLT, Nat.reduceLeDiff, f56r10, D6.rd, ePr, D7.rd, eRp]
      refine ⟨⟨by omega, n1, n2⟩, ⟨by omega, n3, n4⟩, ?_⟩
      refine wL_stD rfl rfl (fun hb => hb.2.1 rfl) rfl D4 (by decide) (ePr_one pv') ?_
      rintro h12 u12 (B12 : Blk _ _ _ (ePr pv'))
      try simp (config := { maxSteps := 1000000 }) (disch := first | exact Nat.le_of_ble_eq_true rfl | omega) only [AXS, AXB, J.dst, reduceIte, Nat.reduceEqDiff, Nat.reduceAdd, Nat.reduceMul, Nat.reduceLT, Nat.reduceLeDiff]
      refine wL_stD rfl rfl (fun hb => hb.2.2 rfl) rfl (u12.blk D5 (by omega)) (by decide) (eRp_one rv) ?_
      rintro h13 u13 (B13 : Blk _ _ _ (eRp rv))
      have B12 := u13.blk B12 (by omega)
      simp (config := { maxSteps := 1000000 }) (disch := first | exact Nat.le_of_ble_eq_true rfl | omega) only [AXS, AXB, J.dst, reduceIte, Nat.reduceEqDiff, Nat.reduceAdd, Nat.reduceMul, Nat.reduceLT, Nat.reduceLeDiff, B12.rd, ePr, B13.rd, eRp]
      have := hR pv' rv h13 (by
        rw [hap]
        exact ((I10.o.upd u12 x4.1 x4.2.1 x4.2.2).upd u13 x5.1 x5.2.1 x5.2.2).fin) (by
        rw [hap]
        refine ⟨K10.s, K10.pn, (((K10.pairs.mono (by omega)).gr u12.gr fun j hj e => ?_).gr u13.gr fun j hj e => ?_)⟩
        · cases e; have := hpa b4 hj; omega
        · cases e; have := hpa b5 hj; omega) (u13.ext (u12.ext hxt (by omega)) (by omega))
      exact this
  have back : ∀ (h10 h11 : Heap) (pv' : PrV) (p' : Prt) (rv : RpV) (r : Rep), OutP h h9 h10 b6 pv1 lo hc pv' p' rv r → Upd b7 h10 h11 → Blk h11 b7 47 (eRp rv) → applyP p c = (if r.s.err = 0 then (p', r) else (p, r)) →
      wC Try.prog f56c11 (endW [.cell 4 9, .cell 5 11] R) [(2, ptr b2 0), (4, ptr b4 0), (5, ptr b5 0), (6, ptr b6 0), (7, ptr b7 0)] h11 := by
    rintro h10 h11 pv' p' rv r ⟨z10, lo', hc', I10, K10, F, kp⟩ u D hap
    have hpa := K10.pairs.ob
    refine app h11 pv' p' lo' hc' rv r (I10.boxA (by omega) (by omega) (F b7 (by omega) a7) u) ⟨K10.s, K10.pn, K10.pairs.gr u.gr fun j hj e => ?_⟩ (by rw [u.size]; exact z10) D
      (u.blk ((kp b2 (by omega) (by omega) a2).trans B2) (by omega)) (u.blk ((kp b4 (by omega) (by omega) a4).trans B4) (by omega)) (u.blk ((kp b5 (by omega) (by omega) a5).trans B5) (by omega)) (F b4 (by omega) a4) (F b5 (by omega) a5) hap
    cases e; have := hpa b7 hj; omega
  have k7 : ∀ (h10 : Heap) (pv' : PrV) (p' : Prt) (rv : RpV) (r : Rep), OutP h h9 h10 b6 pv1 lo hc pv' p' rv r → Blk h10 b7 47 (eRp ⟨okS, none, 0, 0⟩) := fun h10 pv' p' rv r O => (O.2.choose_spec.choose_spec.2.2.2 b7 (by omega) (by omega) a7).trans B9
  have hcs := C.s
  have hps := S.s
  try simp (config := { maxSteps := 1000000 }) (disch := first | exact Nat.le_of_ble_eq_true rfl | omega) only [AXS, AXB, J.dst, reduceIte, Nat.reduceEqDiff, Nat.reduceAdd, Nat.reduceMul, Nat.reduceLT, Nat.reduceLeDiff]
  rw [f56c3_eq]
  (try simp (config := { maxSteps := 1000000 }) (disch := first | exact Nat.le_of_ble_eq_true rfl | omega) only [AXS, AXB, J.dst, reduceIte, Nat.reduceEqDiff, Nat.reduceAdd, Nat.reduceMul, Nat.reduceLT, Nat.reduceLeDiff]); rw [f56c4_eq]; (try simp (config := { maxSteps := 1000000 }) (disch := first | exact Nat.le_of_ble_eq_true rfl | omega) only [AXS, AXB, J.dst, reduceIte, Nat.reduceEqDiff, Nat.reduceAdd, Nat.reduceMul, Nat.reduceLT, Nat.reduceLeDiff, f56r3, B3.cel, eCm, hcs]); rw [f56c5_eq]; (try simp (config := { maxSteps := 1000000 }) (disch := first | exact Nat.le_of_ble_eq_true rfl | omega) only [AXS, AXB, J.dst, reduceIte, Nat.reduceEqDiff, Nat.reduceAdd, Nat.reduceMul, Nat.reduceLT, Nat.reduceLeDiff, B3.cel, eCm, hcs])
  refine ⟨fun hk => ?_, fun hk => ?_⟩
  · have hap : applyP p c = (if (leaseP p c).2.s.err = 0 then ((leaseP p c).1, (leaseP p c).2) else (p, (leaseP p c).2)) := by unfold applyP; simp only [if_pos (show c.s.kind = 1 from by simpa using hk)]
    (try simp (config := { maxSteps := 1000000 }) (disch := first | exact Nat.le_of_ble_eq_true rfl | omega) only [AXS, AXB, J.dst, reduceIte, Nat.reduceEqDiff, Nat.reduceAdd, Nat.reduceMul, Nat.reduceLT, Nat.reduceLeDiff]); rw [f56c6_eq]; (try simp (config := { maxSteps := 1000000 }) (disch := first | exact Nat.le_of_ble_eq_true rfl | omega) only [AXS, AXB, J.dst, reduceIte, Nat.reduceEqDiff, Nat.reduceAdd, Nat.reduceMul, Nat.reduceLT, Nat.reduceLeDiff, f56r4, B3.rd, eCm])
    refine lease_ok I9 (C.ext (e04.trans e49)) he ?_
    intro pv' rv h10 O10
    refine ⟨trivial, ?_⟩
    try simp (config := { maxSteps := 1000000 }) (disch := first | exact Nat.le_of_ble_eq_true rfl | omega) only [AXS, AXB, J.dst, reduceIte, Nat.reduceEqDiff, Nat.reduceAdd, Nat.reduceMul, Nat.reduceLT, Nat.reduceLeDiff]
    refine wL_stN rfl rfl rfl (k7 _ _ _ _ _ O10) (by decide) (eRp_one rv) ?_
    rintro h11 u11 (B11 : Blk _ _ _ (eRp rv))
    try simp (config := { maxSteps := 1000000 }) (disch := first | exact Nat.le_of_ble_eq_true rfl | omega) only [AXS, AXB, J.dst, reduceIte, Nat.reduceEqDiff, Nat.reduceAdd, Nat.reduceMul, Nat.reduceLT, Nat.reduceLeDiff]
    exact back h10 h11 _ _ _ _ O10 u11 B11 hap
  · have hk' : ¬ c.s.kind = 1 := by simpa using hk
    try simp (config := { maxSteps := 1000000 }) (disch := first | exact Nat.le_of_ble_eq_true rfl | omega) only [AXS, AXB, J.dst, reduceIte, Nat.reduceEqDiff, Nat.reduceAdd, Nat.reduceMul, Nat.reduceLT, Nat.reduceLeDiff]
    rw [f56c7_eq]
    simp (config := { maxSteps := 1000000 }) (disch := first | exact Nat.le_of_ble_eq_true rfl | omega) only [AXJ, AXS, AXB, J.dst, reduceIte, Nat.reduceEqDiff, Nat.reduceAdd, Nat.reduceMul, Nat.reduceLT, Nat.reduceLeDiff, f56r5, B2.cel, ePr, B3.cel, eCm, hcs, hps]
    simp (config := { maxSteps := 1000000 }) (disch := first | exact Nat.le_of_ble_eq_true rfl | omega) only [AXJ, AXS, AXB, J.dst, reduceIte, Nat.reduceEqDiff, Nat.reduceAdd, Nat.reduceMul, Nat.reduceLT, Nat.reduceLeDiff, f56r5a]
    (try simp (config := { maxSteps := 1000000 }) (disch := first | exact Nat.le_of_ble_eq_true rfl | omega) only [AXS, AXB, J.dst, reduceIte, Nat.reduceEqDiff, Nat.reduceAdd, Nat.reduceMul, Nat.reduceLT, Nat.reduceLeDiff]); rw [f56c8_eq]; (try simp (config := { maxSteps := 1000000 }) (disch := first | exact Nat.le_of_ble_eq_true rfl | omega) only [AXS, AXB, J.dst, reduceIte, Nat.reduceEqDiff, Nat.reduceAdd, Nat.reduceMul, Nat.reduceLT, Nat.reduceLeDiff])
    generalize hcd : (p.s.epoch == 0 || c.s.epoch != p.s.epoch) = cd
    have hcd' : cd = true ↔ (p.s.epoch = 0 ∨ c.s.epoch ≠ p.s.epoch) := by rw [← hcd]; simp
    refine ⟨fun hh => ?_, fun hh => ?_⟩
    · have hap : applyP p c = (if (errR 25).s.err = 0 then (p, errR 25) else (p, errR 25)) := by unfold applyP; simp only [if_neg hk', if_pos (hcd'.1 hh)]
      (try simp (config := { maxSteps := 1000000 }) (disch := first | exact Nat.le_of_ble_eq_true rfl | omega) only [AXS, AXB, J.dst, reduceIte, Nat.reduceEqDiff, Nat.reduceAdd, Nat.reduceMul, Nat.reduceLT, Nat.reduceLeDiff]); rw [f56c9_eq]; (try simp (config := { maxSteps := 1000000 }) (disch := first | exact Nat.le_of_ble_eq_true rfl | omega) only [AXS, AXB, J.dst, reduceIte, Nat.reduceEqDiff, Nat.reduceAdd, Nat.reduceMul, Nat.reduceLT, Nat.reduceLeDiff, f56r6])
      refine wL_stN rfl rfl rfl B9 (by rw [eRp_len]; exact Nat.le_of_ble_eq_true rfl) int_one ?_
      rintro h11 u11 (B11 : Blk _ _ _ (eRp ⟨(errR 25).s, none, 0, 0⟩))
      try simp (config := { maxSteps := 1000000 }) (disch := first | exact Nat.le_of_ble_eq_true rfl | omega) only [AXS, AXB, J.dst, reduceIte, Nat.reduceEqDiff, Nat.reduceAdd, Nat.reduceMul, Nat.reduceLT, Nat.reduceLeDiff]
      exact app h11 pv1 p lo hc ⟨(errR 25).s, none, 0, 0⟩ (errR 25) (I9.boxA (by omega) (by omega) a7 u11) (RpO.none _ _ _) (by rw [u11.size]; exact Nat.le_refl _) B11 (u11.blk B2 (by omega)) (u11.blk B4 (by omega)) (u11.blk B5 (by omega)) a4 a5 hap
    · have hap : applyP p c = (if (doesP p c).2.s.err = 0 then ((doesP p c).1, (doesP p c).2) else (p, (doesP p c).2)) := by
        have hn2 : ¬ (p.s.epoch = 0 ∨ c.s.epoch ≠ p.s.epoch) := fun h => by rw [hcd'.2 h] at hh; cases hh
        unfold applyP; simp only [if_neg hk', if_neg hn2]
      (try simp (config := { maxSteps := 1000000 }) (disch := first | exact Nat.le_of_ble_eq_true rfl | omega) only [AXS, AXB, J.dst, reduceIte, Nat.reduceEqDiff, Nat.reduceAdd, Nat.reduceMul, Nat.reduceLT, Nat.reduceLeDiff]); rw [f56c10_eq]; (try simp (config := { maxSteps := 1000000 }) (disch := first | exact Nat.le_of_ble_eq_true rfl | omega) only [AXS, AXB, J.dst, reduceIte, Nat.reduceEqDiff, Nat.reduceAdd, Nat.reduceMul, Nat.reduceLT, Nat.reduceLeDiff, f56r7, B3.rd, eCm])
      refine does_ok I9 C g hn hs ?_
      intro pv' rv h10 O10
      refine ⟨trivial, ?_⟩
      try simp (config := { maxSteps := 1000000 }) (disch := first | exact Nat.le_of_ble_eq_true rfl | omega) only [AXS, AXB, J.dst, reduceIte, Nat.reduceEqDiff, Nat.reduceAdd, Nat.reduceMul, Nat.reduceLT, Nat.reduceLeDiff]
      refine wL_stN rfl rfl rfl (k7 _ _ _ _ _ O10) (by decide) (eRp_one rv) ?_
      rintro h11 u11 (B11 : Blk _ _ _ (eRp rv))
      try simp (config := { maxSteps := 1000000 }) (disch := first | exact Nat.le_of_ble_eq_true rfl | omega) only [AXS, AXB, J.dst, reduceIte, Nat.reduceEqDiff, Nat.reduceAdd, Nat.reduceMul, Nat.reduceLT, Nat.reduceLeDiff]
      exact back h10 h11 _ _ _ _ O10 u11 B11 hap
end Go.Proofs.Ytefghfgmkndikaa
namespace Go.Proofs.Ytefghfgmkndikaa
open Go.AX
set_option maxRecDepth 100000
def f94r0 : List I := [.op (.box 1 43 (.tmp 0)),
  .op (.mov 2 (.const (.bool false))),
  .kp [1]]
def f94r1 : List I := [.op (.mov 3 (.const (.int .i64 0))),
  .kp [1, 3]]
def f94r2 : List I := [.op (.mov 4 (.const (.int .i64 0))),
  .kp [1, 3, 4]]
def f94r3 : List I := [.op (.mov 6 (.tmp 4)),
  .op (.fad 7 12 (.tmp 1)),
  .op (.ld 8 none (.tmp 7)),
  .op (.len 9 true (.tmp 8)),
  .op (.bin 10 .lss (.tmp 6) (.tmp 9)),
  .op (.mov 11 (.tmp 10)),
  .sc 11 true 2,
  .g 11 true (.mov 12 (.tmp 3)),
  .g 11 true (.bin 13 .lss (.tmp 12) (.const (.int .i64 16384))),
  .op (.pick 14 (.tmp 11) (.tmp 13) (.const (.bool false))),
  .kp [14, 1, 3, 4]]
def f94r4 : List I := [.op (.fad 17 12 (.tmp 1)),
  .op (.ld 18 none (.tmp 17)),
  .op (.mov 19 (.tmp 4)),
  .op (.iad 20 2 (.tmp 18) (.tmp 19)),
  .op (.fad 21 0 (.tmp 20)),
  .op (.ld 22 none (.tmp 21)),
  .op (.len 23 false (.tmp 22)),
  .op (.bin 24 .gtr (.tmp 23) (.const (.int .i64 8192))),
  .op (.mov 25 (.tmp 24)),
  .sc 25 false 8,
  .g 25 false (.fad 26 12 (.tmp 1)),
  .g 25 false (.ld 27 none (.tmp 26)),
  .g 25 false (.mov 28 (.tmp 4)),
  .g 25 false (.iad 29 2 (.tmp 27) (.tmp 28)),
  .g 25 false (.fad 30 1 (.tmp 29)),
  .g 25 false (.ld 31 none (.tmp 30)),
  .g 25 false (.len 32 false (.tmp 31)),
  .g 25 false (.bin 33 .gtr (.tmp 32) (.const (.int .i64 8192))),
  .op (.pick 34 (.tmp 25) (.const (.bool true)) (.tmp 33)),
  .kp [34, 1, 3, 4]]
def f94r5 : List I := [.op (.mov 2 (.const (.bool false))),
  .kp [2]]
def f94r6 : List I := [.op (.mov 35 (.tmp 3)),
  .op (.fad 36 12 (.tmp 1)),
  .op (.ld 37 none (.tmp 36)),
  .op (.mov 38 (.tmp 4)),
  .op (.iad 39 2 (.tmp 37) (.tmp 38)),
  .op (.fad 40 0 (.tmp 39)),
  .op (.ld 41 none (.tmp 40)),
  .op (.len 42 false (.tmp 41)),
  .op (.bin 43 .add (.tmp 35) (.tmp 42)),
  .op (.fad 44 12 (.tmp 1)),
  .kp [1, 4, 43, 44],
  .op (.ld 45 none (.tmp 44)),
  .op (.mov 46 (.tmp 4)),
  .op (.iad 47 2 (.tmp 45) (.tmp 46)),
  .op (.fad 48 1 (.tmp 47)),
  .op (.ld 49 none (.tmp 48)),
  .op (.len 50 false (.tmp 49)),
  .op (.bin 51 .add (.tmp 43) (.tmp 50)),
  .op (.mov 3 (.tmp 51)),
  .kp [1, 3, 4]]
def f94r7 : List I := [.op (.mov 15 (.tmp 4)),
  .op (.bin 16 .add (.tmp 15) (.const (.int .i64 1))),
  .op (.mov 4 (.tmp 16)),
  .kp [1, 3, 4]]
def f94r8 : List I := [.op (.mov 5 (.const (.int .i64 0))),
  .kp [1, 3, 5]]
def f94r9 : List I := [.op (.mov 52 (.tmp 5)),
  .op (.fad 53 13 (.tmp 1)),
  .op (.ld 54 none (.tmp 53)),
  .op (.len 55 true (.tmp 54)),
  .op (.bin 56 .lss (.tmp 52) (.tmp 55)),
  .op (.mov 57 (.tmp 56)),
  .sc 57 true 2,
  .g 57 true (.mov 58 (.tmp 3)),
  .g 57 true (.bin 59 .lss (.tmp 58) (.const (.int .i64 16384))),
  .op (.pick 60 (.tmp 57) (.tmp 59) (.const (.bool false))),
  .kp [60, 1, 3, 5]]
def f94r10 : List I := [.op (.fad 63 13 (.tmp 1)),
  .op (.ld 64 none (.tmp 63)),
  .op (.mov 65 (.tmp 5)),
  .op (.iad 66 3 (.tmp 64) (.tmp 65)),
  .op (.fad 67 0 (.tmp 66)),
  .op (.ld 68 none (.tmp 67)),
  .op (.len 69 false (.tmp 68)),
  .op (.bin 70 .gtr (.tmp 69) (.const (.int .i64 8192))),
  .op (.mov 71 (.tmp 70)),
  .sc 71 false 8,
  .g 71 false (.fad 72 13 (.tmp 1)),
  .g 71 false (.ld 73 none (.tmp 72)),
  .g 71 false (.mov 74 (.tmp 5)),
  .g 71 false (.iad 75 3 (.tmp 73) (.tmp 74)),
  .g 71 false (.fad 76 2 (.tmp 75)),
  .g 71 false (.ld 77 none (.tmp 76)),
  .g 71 false (.len 78 false (.tmp 77)),
  .g 71 false (.bin 79 .gtr (.tmp 78) (.const (.int .i64 8192))),
  .op (.pick 80 (.tmp 71) (.const (.bool true)) (.tmp 79)),
  .kp [80, 1, 3, 5]]
def f94r11 : List I := [.op (.mov 2 (.const (.bool false))),
  .kp [2]]
def f94r12 : List I := [.op (.mov 81 (.tmp 3)),
  .op (.fad 82 13 (.tmp 1)),
  .op (.ld 83 none (.tmp 82)),
  .op (.mov 84 (.tmp 5)),
  .op (.iad 85 3 (.tmp 83) (.tmp 84)),
  .op (.fad 86 0 (.tmp 85)),
  .op (.ld 87 none (.tmp 86)),
  .op (.len 88 false (.tmp 87)),
  .op (.bin 89 .add (.tmp 81) (.tmp 88)),
  .op (.fad 90 13 (.tmp 1)),
  .kp [1, 5, 89, 90],
  .op (.ld 91 none (.tmp 90)),
  .op (.mov 92 (.tmp 5)),
  .op (.iad 93 3 (.tmp 91) (.tmp 92)),
  .op (.fad 94 2 (.tmp 93)),
  .op (.ld 95 none (.tmp 94)),
  .op (.len 96 false (.tmp 95)),
  .op (.bin 97 .add (.tmp 89) (.tmp 96)),
  .op (.mov 3 (.tmp 97)),
  .kp [1, 3, 5]]
def f94r13 : List I := [.op (.mov 61 (.tmp 5)),
  .op (.bin 62 .add (.tmp 61) (.const (.int .i64 1))),
  .op (.mov 5 (.tmp 62)),
  .kp [1, 3, 5]]
def f94r14b : List I := [.op (.mov 2 (.tmp 111)),
  .kp [2]]
def f94r14a : List I := .op (.mov 106 (.tmp 105)) ::
  .sc 106 true 4 ::
  .g 106 true (.fad 107 13 (.tmp 1)) ::
  .g 106 true (.ld 108 none (.tmp 107)) ::
  .g 106 true (.len 109 true (.tmp 108)) ::
  .g 106 true (.bin 110 .lss (.tmp 109) (.const (.int .i64 100))) ::
  .op (.pick 111 (.tmp 106) (.tmp 110) (.const (.bool false))) ::
  .kp [111] ::
  f94r14b
def f94r14 : List I := .op (.mov 98 (.tmp 3)) ::
  .op (.bin 99 .lss (.tmp 98) (.const (.int .i64 8192))) ::
  .op (.mov 100 (.tmp 99)) ::
  .sc 100 true 4 ::
  .g 100 true (.fad 101 12 (.tmp 1)) ::
  .g 100 true (.ld 102 none (.tmp 101)) ::
  .g 100 true (.len 103 true (.tmp 102)) ::
  .g 100 true (.bin 104 .lss (.tmp 103) (.const (.int .i64 100))) ::
  .op (.pick 105 (.tmp 100) (.tmp 104) (.const (.bool false))) ::
  .kp [105, 1] ::
  f94r14a
def f94c9 : C := (.seq (.reg f94r5) .ret)
def f94c10 : C := (.drw f94r6)
def f94c8 : C := (.seq (.cond (.tmp 34) f94c9 .skip) f94c10)
def f94c7 : C := (.seq (.reg f94r4) f94c8)
def f94c11 : C := (.reg f94r7)
def f94c6 : C := (.seq (.block 1 f94c7) f94c11)
def f94c5 : C := (.seq (.cond (.tmp 14) .skip (.exit 0)) f94c6)
def f94c4 : C := (.seq (.reg f94r3) f94c5)
def f94c19 : C := (.seq (.reg f94r11) .ret)
def f94c20 : C := (.drw f94r12)
def f94c18 : C := (.seq (.cond (.tmp 80) f94c19 .skip) f94c20)
def f94c17 : C := (.seq (.reg f94r10) f94c18)
def f94c21 : C := (.reg f94r13)
def f94c16 : C := (.seq (.block 3 f94c17) f94c21)
def f94c15 : C := (.seq (.cond (.tmp 60) .skip (.exit 2)) f94c16)
def f94c14 : C := (.seq (.reg f94r9) f94c15)
def f94c22 : C := (.seq (.reg f94r14) .ret)
def f94c13 : C := (.seq (.block 2 (.loop f94c14)) f94c22)
def f94c12 : C := (.seq (.reg f94r8) f94c13)
def f94c3 : C := (.seq (.block 0 (.loop f94c4)) f94c12)
def f94c2 : C := (.seq (.reg f94r2) f94c3)
def f94c1 : C := (.seq (.reg f94r1) f94c2)
def f94c0 : C := (.seq (.reg f94r0) f94c1)
theorem f94cmp : cmpF Try.prog Try.f94 [.l [.o 0, .o 1, .kp [1]],
  .l [.o 0, .kp [1, 3]],
  .l [.o 0, .kp [1, 3, 4]],
  .l [.o 0, .o 1, .o 2, .o 3, .o 4, .o 5, .sc 11 true 2, .o 6, .o 7, .o 8, .kp [14, 1, 3, 4]],
  .l [.o 0, .o 1, .o 2, .o 3, .o 4, .o 5, .o 6, .o 7, .o 8, .sc 25 false 8, .o 9, .o 10, .o 11, .o 12, .o 13, .o 14, .o 15, .o 16, .o 17, .kp [34, 1, 3, 4]],
  .l [.o 0, .kp [2]],
  .l [.o 0, .o 1, .o 2, .o 3, .o 4, .o 5, .o 6, .o 7, .o 8, .o 9, .kp [1, 4, 43, 44], .o 10, .o 11, .o 12, .o 13, .o 14, .o 15, .o 16, .o 17, .kp [1, 3, 4]],
  .l [.o 0, .o 1, .o 2, .kp [1, 3, 4]],
  .l [.o 0, .kp [1, 3, 5]],
  .l [.o 0, .o 1, .o 2, .o 3, .o 4, .o 5, .sc 57 true 2, .o 6, .o 7, .o 8, .kp [60, 1, 3, 5]],
  .l [.o 0, .o 1, .o 2, .o 3, .o 4, .o 5, .o 6, .o 7, .o 8, .sc 71 false 8, .o 9, .o 10, .o 11, .o 12, .o 13, .o 14, .o 15, .o 16, .o 17, .kp [80, 1, 3, 5]],
  .l [.o 0, .kp [2]],
  .l [.o 0, .o 1, .o 2, .o 3, .o 4, .o 5, .o 6, .o 7, .o 8, .o 9, .kp [1, 5, 89, 90], .o 10, .o 11, .o 12, .o 13, .o 14, .o 15, .o 16, .o 17, .kp [1, 3, 5]],
  .l [.o 0, .o 1, .o 2, .kp [1, 3, 5]],
  .l [.o 0, .o 1, .o 2, .sc 100 true 4, .o 3, .o 4, .o 5, .o 6, .o 7, .kp [105, 1], .o 8, .sc 106 true 4, .o 9, .o 10, .o 11, .o 12, .o 13, .kp [111], .o 14, .kp [2]]] = some (f94c0, [.tmp 2]) := by kernel_rfl
theorem f94ok {args : List Value} {h : Heap} {R : Value → Heap → Prop} (hn : args.length ≤ 112) (H : wC Try.prog f94c0 (endW [.tmp 2] R) (envOf 0 args) h) : CallsH Try.prog 94 args h R :=
  fn_ok2 Try.func94 f94cmp hn H
section
variable {Q : X → Env → Heap → Prop} {σ : Env} {h : Heap}
theorem f94c9_eq : wC Try.prog f94c9 Q σ h = (wL Try.prog none f94r5 0 (fun σ h => Q .ret σ h) σ h) := rfl
theorem f94c10_eq : wC Try.prog f94c10 Q σ h = (drwW Try.prog f94r6 (fun σ h => Q .normal σ h) σ h) := rfl
theorem f94c8_eq : wC Try.prog f94c8 Q σ h = (bd (evO σ (.tmp 34)) fun v => bd (asB v) fun t => br t (wC Try.prog f94c9 (X.then (fun σ h => wC Try.prog f94c10 Q σ h) Q) σ h) (wC Try.prog f94c10 Q σ h)) := rfl
theorem f94c7_eq : wC Try.prog f94c7 Q σ h = (wL Try.prog none f94r4 0 (fun σ h => wC Try.prog f94c8 Q σ h) σ h) := rfl
theorem f94c11_eq : wC Try.prog f94c11 Q σ h = (wL Try.prog none f94r7 0 (fun σ h => Q .normal σ h) σ h) := rfl
theorem f94c6_eq : wC Try.prog f94c6 Q σ h = (wC Try.prog f94c7 (X.inBlock 1 (X.then (fun σ h => wC Try.prog f94c11 Q σ h) Q)) σ h) := rfl
theorem f94c5_eq : wC Try.prog f94c5 Q σ h = (bd (evO σ (.tmp 14)) fun v => bd (asB v) fun t => br t (wC Try.prog f94c6 Q σ h) (Q (.exit 0) σ h)) := rfl
theorem f94c4_eq : wC Try.prog f94c4 Q σ h = (wL Try.prog none f94r3 0 (fun σ h => wC Try.prog f94c5 Q σ h) σ h) := rfl
theorem f94c19_eq : wC Try.prog f94c19 Q σ h = (wL Try.prog none f94r11 0 (fun σ h => Q .ret σ h) σ h) := rfl
theorem f94c20_eq : wC Try.prog f94c20 Q σ h = (drwW Try.prog f94r12 (fun σ h => Q .normal σ h) σ h) := rfl
theorem f94c18_eq : wC Try.prog f94c18 Q σ h = (bd (evO σ (.tmp 80)) fun v => bd (asB v) fun t => br t (wC Try.prog f94c19 (X.then (fun σ h => wC Try.prog f94c20 Q σ h) Q) σ h) (wC Try.prog f94c20 Q σ h)) := rfl
theorem f94c17_eq : wC Try.prog f94c17 Q σ h = (wL Try.prog none f94r10 0 (fun σ h => wC Try.prog f94c18 Q σ h) σ h) := rfl
theorem f94c21_eq : wC Try.prog f94c21 Q σ h = (wL Try.prog none f94r13 0 (fun σ h => Q .normal σ h) σ h) := rfl
theorem f94c16_eq : wC Try.prog f94c16 Q σ h = (wC Try.prog f94c17 (X.inBlock 3 (X.then (fun σ h => wC Try.prog f94c21 Q σ h) Q)) σ h) := rfl
theorem f94c15_eq : wC Try.prog f94c15 Q σ h = (bd (evO σ (.tmp 60)) fun v => bd (asB v) fun t => br t (wC Try.prog f94c16 Q σ h) (Q (.exit 2) σ h)) := rfl
theorem f94c14_eq : wC Try.prog f94c14 Q σ h = (wL Try.prog none f94r9 0 (fun σ h => wC Try.prog f94c15 Q σ h) σ h) := rfl
theorem f94c22_eq : wC Try.prog f94c22 Q σ h = (wL Try.prog none f94r14 0 (fun σ h => Q .ret σ h) σ h) := rfl
theorem f94c13_eq : wC Try.prog f94c13 Q σ h = (loopW (wC Try.prog f94c14) (X.inBlock 2 (X.then (fun σ h => wC Try.prog f94c22 Q σ h) Q)) σ h) := rfl
theorem f94c12_eq : wC Try.prog f94c12 Q σ h = (wL Try.prog none f94r8 0 (fun σ h => wC Try.prog f94c13 Q σ h) σ h) := rfl
theorem f94c3_eq : wC Try.prog f94c3 Q σ h = (loopW (wC Try.prog f94c4) (X.inBlock 0 (X.then (fun σ h => wC Try.prog f94c12 Q σ h) Q)) σ h) := rfl
theorem f94c2_eq : wC Try.prog f94c2 Q σ h = (wL Try.prog none f94r2 0 (fun σ h => wC Try.prog f94c3 Q σ h) σ h) := rfl
theorem f94c1_eq : wC Try.prog f94c1 Q σ h = (wL Try.prog none f94r1 0 (fun σ h => wC Try.prog f94c2 Q σ h) σ h) := rfl
theorem f94c0_eq : wC Try.prog f94c0 Q σ h = (wL Try.prog none f94r0 0 (fun σ h => wC Try.prog f94c1 Q σ h) σ h) := rfl
end
def f53r0 : List I := [.op (.mov 4 (.const (.bool false))),
  .kp [0, 1]]
def f53r1 : List I := [.op (.mov 6 (.tmp 0)),
  .op (.len 7 true (.tmp 6)),
  .op (.mov 8 (.tmp 1)),
  .op (.bin 9 .gtr (.tmp 7) (.tmp 8)),
  .kp [0, 9]]
def f53r2 : List I := [.op (.mov 4 (.const (.bool false))),
  .kp [4]]
def f53r3 : List I := [.op (.mov 5 (.const (.int .i64 0))),
  .kp [0, 5]]
def f53r4 : List I := [.op (.mov 10 (.tmp 5)),
  .op (.mov 11 (.tmp 0)),
  .op (.len 12 true (.tmp 11)),
  .op (.bin 13 .lss (.tmp 10) (.tmp 12)),
  .kp [0, 5, 13]]
def f53r5 : List I := [.op (.mov 16 (.tmp 0)),
  .op (.mov 17 (.tmp 5)),
  .op (.iad 18 14 (.tmp 16) (.tmp 17)),
  .op (.ld 19 (some 14) (.tmp 18)),
  .op (.call (some 20) 94 [(.tmp 19)]),
  .op (.un 21 .not (.tmp 20)),
  .kp [0, 5, 21]]
def f53r6 : List I := [.op (.mov 4 (.const (.bool false))),
  .kp [4]]
def f53r7 : List I := [.op (.mov 14 (.tmp 5)),
  .op (.bin 15 .add (.tmp 14) (.const (.int .i64 1))),
  .op (.mov 5 (.tmp 15)),
  .kp [0, 5]]
def f53r8 : List I := [.op (.mov 4 (.const (.bool true))),
  .kp [4]]
def f53c3 : C := (.seq (.reg f53r2) .ret)
def f53c11 : C := (.seq (.reg f53r6) .ret)
def f53c10 : C := (.cond (.tmp 21) f53c11 .skip)
def f53c9 : C := (.seq (.reg f53r5) f53c10)
def f53c12 : C := (.reg f53r7)
def f53c8 : C := (.seq (.block 1 f53c9) f53c12)
def f53c7 : C := (.seq (.cond (.tmp 13) .skip (.exit 0)) f53c8)
def f53c6 : C := (.seq (.reg f53r4) f53c7)
def f53c13 : C := (.seq (.reg f53r8) .ret)
def f53c5 : C := (.seq (.block 0 (.loop f53c6)) f53c13)
def f53c4 : C := (.seq (.reg f53r3) f53c5)
def f53c2 : C := (.seq (.cond (.tmp 9) f53c3 .skip) f53c4)
def f53c1 : C := (.seq (.reg f53r1) f53c2)
def f53c0 : C := (.seq (.reg f53r0) f53c1)
theorem f53cmp : cmpF Try.prog Try.f53 [.l [.o 0, .kp [0, 1]],
  .l [.o 0, .o 1, .o 2, .o 3, .kp [0, 9]],
  .l [.o 0, .kp [4]],
  .l [.o 0, .kp [0, 5]],
  .l [.o 0, .o 1, .o 2, .o 3, .kp [0, 5, 13]],
  .l [.o 0, .o 1, .o 2, .o 3, .o 4, .o 5, .kp [0, 5, 21]],
  .l [.o 0, .kp [4]],
  .l [.o 0, .o 1, .o 2, .kp [0, 5]],
  .l [.o 0, .kp [4]]] = some (f53c0, [.tmp 4]) := by kernel_rfl
theorem f53ok {args : List Value} {h : Heap} {R : Value → Heap → Prop} (hn : args.length ≤ 22) (H : wC Try.prog f53c0 (endW [.tmp 4] R) (envOf 0 args) h) : CallsH Try.prog 53 args h R :=
  fn_ok2 Try.func53 f53cmp hn H
section
variable {Q : X → Env → Heap → Prop} {σ : Env} {h : Heap}
theorem f53c3_eq : wC Try.prog f53c3 Q σ h = (wL Try.prog none f53r2 0 (fun σ h => Q .ret σ h) σ h) := rfl
theorem f53c11_eq : wC Try.prog f53c11 Q σ h = (wL Try.prog none f53r6 0 (fun σ h => Q .ret σ h) σ h) := rfl
theorem f53c10_eq : wC Try.prog f53c10 Q σ h = (bd (evO σ (.tmp 21)) fun v => bd (asB v) fun t => br t (wC Try.prog f53c11 Q σ h) (Q .normal σ h)) := rfl
theorem f53c9_eq : wC Try.prog f53c9 Q σ h = (wL Try.prog none f53r5 0 (fun σ h => wC Try.prog f53c10 Q σ h) σ h) := rfl
theorem f53c12_eq : wC Try.prog f53c12 Q σ h = (wL Try.prog none f53r7 0 (fun σ h => Q .normal σ h) σ h) := rfl
theorem f53c8_eq : wC Try.prog f53c8 Q σ h = (wC Try.prog f53c9 (X.inBlock 1 (X.then (fun σ h => wC Try.prog f53c12 Q σ h) Q)) σ h) := rfl
theorem f53c7_eq : wC Try.prog f53c7 Q σ h = (bd (evO σ (.tmp 13)) fun v => bd (asB v) fun t => br t (wC Try.prog f53c8 Q σ h) (Q (.exit 0) σ h)) := rfl
theorem f53c6_eq : wC Try.prog f53c6 Q σ h = (wL Try.prog none f53r4 0 (fun σ h => wC Try.prog f53c7 Q σ h) σ h) := rfl
theorem f53c13_eq : wC Try.prog f53c13 Q σ h = (wL Try.prog none f53r8 0 (fun σ h => Q .ret σ h) σ h) := rfl
theorem f53c5_eq : wC Try.prog f53c5 Q σ h = (loopW (wC Try.prog f53c6) (X.inBlock 0 (X.then (fun σ h => wC Try.prog f53c13 Q σ h) Q)) σ h) := rfl
theorem f53c4_eq : wC Try.prog f53c4 Q σ h = (wL Try.prog none f53r3 0 (fun σ h => wC Try.prog f53c5 Q σ h) σ h) := rfl
theorem f53c2_eq : wC Try.prog f53c2 Q σ h = (bd (evO σ (.tmp 9)) fun v => bd (asB v) fun t => br t (wC Try.prog f53c3 (X.then (fun σ h => wC Try.prog f53c4 Q σ h) Q) σ h) (wC Try.prog f53c4 Q σ h)) := rfl
theorem f53c1_eq : wC Try.prog f53c1 Q σ h = (wL Try.prog none f53r1 0 (fun σ h => wC Try.prog f53c2 Q σ h) σ h) := rfl
theorem f53c0_eq : wC Try.prog f53c0 Q σ h = (wL Try.prog none f53r0 0 (fun σ h => wC Try.prog f53c1 Q σ h) σ h) := rfl
end
def f54r0 : List I := [.op (.box 3 116 (.tmp 0)),
  .op (.box 4 43 (.tmp 1)),
  .op (.new 6 43 [.int .i64 0, .int .i64 0, .int .i64 0, .int .i64 0, .int .i64 0, .int .i64 0, .int .i64 0, .int .i64 0, .int .i64 0, .int .i64 0, .int .i64 0, .bool false, .slice none 0 0, .slice none 0 0]),
  .kp [2, 3, 4, 6]]
def f54r1 : List I := [.op (.mov 7 (.tmp 2)),
  .op (.un 8 .not (.tmp 7)),
  .kp [3, 4, 6, 8]]
def f54r2 : List I := [.op (.fad 9 0 (.tmp 3)),
  .op (.ld 10 none (.tmp 9)),
  .op (.fad 11 1 (.tmp 4)),
  .op (.st 1 (.tmp 11) (.tmp 10)),
  .kp [4, 6]]
def f54r3 : List I := [.op (.fad 12 0 (.tmp 4)),
  .op (.ld 13 none (.tmp 12)),
  .op (.bin 14 .eql (.tmp 13) (.const (.int .i64 1))),
  .kp [4, 6, 14]]
def f54r4 : List I := [.op (.fad 15 1 (.tmp 4)),
  .op (.ld 16 none (.tmp 15)),
  .op (.bin 17 .add (.tmp 16) (.const (.int .i64 1))),
  .op (.fad 18 1 (.tmp 4)),
  .op (.st 1 (.tmp 18) (.tmp 17)),
  .kp [4, 6]]
def f54r5 : List I := [.op (.ld 19 (some 14) (.tmp 4)),
  .op (.st 14 (.tmp 6) (.tmp 19)),
  .kp [6]]
def f54c6 : C := (.reg f54r4)
def f54c5 : C := (.cond (.tmp 14) f54c6 .skip)
def f54c4 : C := (.seq (.reg f54r3) f54c5)
def f54c3 : C := (.seq (.reg f54r2) f54c4)
def f54c7 : C := (.seq (.reg f54r5) .ret)
def f54c2 : C := (.seq (.cond (.tmp 8) f54c3 .skip) f54c7)
def f54c1 : C := (.seq (.reg f54r1) f54c2)
def f54c0 : C := (.seq (.reg f54r0) f54c1)
theorem f54cmp : cmpF Try.prog Try.f54 [.l [.o 0, .o 1, .o 2, .kp [2, 3, 4, 6]],
  .l [.o 0, .o 1, .kp [3, 4, 6, 8]],
  .l [.o 0, .o 1, .o 2, .o 3, .kp [4, 6]],
  .l [.o 0, .o 1, .o 2, .kp [4, 6, 14]],
  .l [.o 0, .o 1, .o 2, .o 3, .o 4, .kp [4, 6]],
  .l [.o 0, .o 1, .kp [6]]] = some (f54c0, [.cell 6 14]) := by kernel_rfl
theorem f54ok {args : List Value} {h : Heap} {R : Value → Heap → Prop} (hn : args.length ≤ 20) (H : wC Try.prog f54c0 (endW [.cell 6 14] R) (envOf 0 args) h) : CallsH Try.prog 54 args h R :=
  fn_ok2 Try.func54 f54cmp hn H
section
variable {Q : X → Env → Heap → Prop} {σ : Env} {h : Heap}
theorem f54c6_eq : wC Try.prog f54c6 Q σ h = (wL Try.prog none f54r4 0 (fun σ h => Q .normal σ h) σ h) := rfl
theorem f54c5_eq : wC Try.prog f54c5 Q σ h = (bd (evO σ (.tmp 14)) fun v => bd (asB v) fun t => br t (wC Try.prog f54c6 Q σ h) (Q .normal σ h)) := rfl
theorem f54c4_eq : wC Try.prog f54c4 Q σ h = (wL Try.prog none f54r3 0 (fun σ h => wC Try.prog f54c5 Q σ h) σ h) := rfl
theorem f54c3_eq : wC Try.prog f54c3 Q σ h = (wL Try.prog none f54r2 0 (fun σ h => wC Try.prog f54c4 Q σ h) σ h) := rfl
theorem f54c7_eq : wC Try.prog f54c7 Q σ h = (wL Try.prog none f54r5 0 (fun σ h => Q .ret σ h) σ h) := rfl
theorem f54c2_eq : wC Try.prog f54c2 Q σ h = (bd (evO σ (.tmp 8)) fun v => bd (asB v) fun t => br t (wC Try.prog f54c3 (X.then (fun σ h => wC Try.prog f54c7 Q σ h) Q) σ h) (wC Try.prog f54c7 Q σ h)) := rfl
theorem f54c1_eq : wC Try.prog f54c1 Q σ h = (wL Try.prog none f54r1 0 (fun σ h => wC Try.prog f54c2 Q σ h) σ h) := rfl
theorem f54c0_eq : wC Try.prog f54c0 Q σ h = (wL Try.prog none f54r0 0 (fun σ h => wC Try.prog f54c1 Q σ h) σ h) := rfl
end
def f65r0 : List I := [.op (.mov 2 (.const (.slice none 0 0))),
  .kp [0]]
def f65r1 : List I := [.op (.bld 8 [.int .i64 0, .int .i64 0, .int .i64 0, .int .i64 0, .int .i64 0, .int .i64 0, .slice none 0 0, .slice none 0 0, .slice none 0 0] []),
  .op (.bsl 9 116 1 [.int .i64 0, .int .i64 0, .int .i64 0, .int .i64 0, .int .i64 0, .int .i64 0, .slice none 0 0, .slice none 0 0, .slice none 0 0] [(0, 9, (.tmp 8))]),
  .op (.mov 3 (.tmp 9)),
  .kp [0, 3]]
def f65r2 : List I := [.op (.mov 4 (.const (.int .i64 0))),
  .kp [0, 3, 4]]
def f65r3 : List I := [.op (.mov 10 (.tmp 4)),
  .op (.mov 11 (.tmp 0)),
  .op (.len 12 true (.tmp 11)),
  .op (.bin 13 .lss (.tmp 10) (.tmp 12)),
  .kp [0, 3, 4, 13]]
def f65r4 : List I := [.op (.mov 16 (.tmp 3)),
  .op (.mov 17 (.tmp 3)),
  .op (.len 18 true (.tmp 17)),
  .op (.bin 19 .sub (.tmp 18) (.const (.int .i64 1))),
  .op (.iad 20 9 (.tmp 16) (.tmp 19)),
  .op (.ld 21 (some 9) (.tmp 20)),
  .op (.new 5 116 [.int .i64 0, .int .i64 0, .int .i64 0, .int .i64 0, .int .i64 0, .int .i64 0, .slice none 0 0, .slice none 0 0, .slice none 0 0]),
  .op (.st 9 (.tmp 5) (.tmp 21)),
  .kp [0, 3, 4, 5]]
def f65r5 : L := (.one [.op (.ld 23 (some 9) (.tmp 5)),
  .op (.ld 24 (some 9) (.tmp 5)),
  .op (.mov 25 (.tmp 0)),
  .op (.mov 26 (.tmp 4)),
  .op (.iad 27 14 (.tmp 25) (.tmp 26)),
  .op (.ld 28 (some 14) (.tmp 27))] (.alt (.one [.op (.call (some 29) 54 [(.tmp 24), (.tmp 28), (.const (.bool false))])] (.alt (.one [.op (.call (some 30) 56 [(.tmp 23), (.tmp 29)]),
  .op (.mov 22 (.tmp 30)),
  .op (.ext 31 (.tmp 22) 0),
  .op (.ext 32 (.tmp 22) 1)] (.alt (.one [.op (.new 6 116 [.int .i64 0, .int .i64 0, .int .i64 0, .int .i64 0, .int .i64 0, .int .i64 0, .slice none 0 0, .slice none 0 0, .slice none 0 0]),
  .op (.new 7 47 [.int .i64 0, .slice none 0 0, .int .i64 0, .int .i64 0, .int .i64 0, .int .i64 0, .int .i64 0, .int .i64 0, .int .i64 0, .int .i64 0, .bool false]),
  .op (.st 9 (.tmp 6) (.tmp 31)),
  .op (.st 11 (.tmp 7) (.tmp 32)),
  .kp [0, 3, 4, 6]] .nil) (.one [.op (.new 7 47 [.int .i64 0, .slice none 0 0, .int .i64 0, .int .i64 0, .int .i64 0, .int .i64 0, .int .i64 0, .int .i64 0, .int .i64 0, .int .i64 0, .bool false]),
  .op (.new 6 116 [.int .i64 0, .int .i64 0, .int .i64 0, .int .i64 0, .int .i64 0, .int .i64 0, .slice none 0 0, .slice none 0 0, .slice none 0 0]),
  .op (.st 9 (.tmp 6) (.tmp 31)),
  .op (.st 11 (.tmp 7) (.tmp 32)),
  .kp [0, 3, 4, 6]] .nil))) (.alt (.one [.op (.new 6 116 [.int .i64 0, .int .i64 0, .int .i64 0, .int .i64 0, .int .i64 0, .int .i64 0, .slice none 0 0, .slice none 0 0, .slice none 0 0])] (.alt (.one [.op (.call (some 30) 56 [(.tmp 23), (.tmp 29)]),
  .op (.mov 22 (.tmp 30)),
  .op (.ext 31 (.tmp 22) 0),
  .op (.ext 32 (.tmp 22) 1),
  .op (.new 7 47 [.int .i64 0, .slice none 0 0, .int .i64 0, .int .i64 0, .int .i64 0, .int .i64 0, .int .i64 0, .int .i64 0, .int .i64 0, .int .i64 0, .bool false]),
  .op (.st 9 (.tmp 6) (.tmp 31)),
  .op (.st 11 (.tmp 7) (.tmp 32)),
  .kp [0, 3, 4, 6]] .nil) (.one [.op (.new 7 47 [.int .i64 0, .slice none 0 0, .int .i64 0, .int .i64 0, .int .i64 0, .int .i64 0, .int .i64 0, .int .i64 0, .int .i64 0, .int .i64 0, .bool false]),
  .op (.call (some 30) 56 [(.tmp 23), (.tmp 29)]),
  .op (.mov 22 (.tmp 30)),
  .op (.ext 31 (.tmp 22) 0),
  .op (.ext 32 (.tmp 22) 1),
  .op (.st 9 (.tmp 6) (.tmp 31)),
  .op (.st 11 (.tmp 7) (.tmp 32)),
  .kp [0, 3, 4, 6]] .nil))) (.one [.op (.new 7 47 [.int .i64 0, .slice none 0 0, .int .i64 0, .int .i64 0, .int .i64 0, .int .i64 0, .int .i64 0, .int .i64 0, .int .i64 0, .int .i64 0, .bool false])] (.alt (.one [.op (.call (some 30) 56 [(.tmp 23), (.tmp 29)]),
  .op (.mov 22 (.tmp 30)),
  .op (.ext 31 (.tmp 22) 0),
  .op (.ext 32 (.tmp 22) 1),
  .op (.new 6 116 [.int .i64 0, .int .i64 0, .int .i64 0, .int .i64 0, .int .i64 0, .int .i64 0, .slice none 0 0, .slice none 0 0, .slice none 0 0]),
  .op (.st 9 (.tmp 6) (.tmp 31)),
  .op (.st 11 (.tmp 7) (.tmp 32)),
  .kp [0, 3, 4, 6]] .nil) (.one [.op (.new 6 116 [.int .i64 0, .int .i64 0, .int .i64 0, .int .i64 0, .int .i64 0, .int .i64 0, .slice none 0 0, .slice none 0 0, .slice none 0 0]),
  .op (.call (some 30) 56 [(.tmp 23), (.tmp 29)]),
  .op (.mov 22 (.tmp 30)),
  .op (.ext 31 (.tmp 22) 0),
  .op (.ext 32 (.tmp 22) 1),
  .op (.st 9 (.tmp 6) (.tmp 31)),
  .op (.st 11 (.tmp 7) (.tmp 32)),
  .kp [0, 3, 4, 6]] .nil)))))) (.alt (.one [.op (.new 6 116 [.int .i64 0, .int .i64 0, .int .i64 0, .int .i64 0, .int .i64 0, .int .i64 0, .slice none 0 0, .slice none 0 0, .slice none 0 0])] (.alt (.one [.op (.call (some 29) 54 [(.tmp 24), (.tmp 28), (.const (.bool false))])] (.alt (.one [.op (.call (some 30) 56 [(.tmp 23), (.tmp 29)]),
  .op (.mov 22 (.tmp 30)),
  .op (.ext 31 (.tmp 22) 0),
  .op (.ext 32 (.tmp 22) 1),
  .op (.new 7 47 [.int .i64 0, .slice none 0 0, .int .i64 0, .int .i64 0, .int .i64 0, .int .i64 0, .int .i64 0, .int .i64 0, .int .i64 0, .int .i64 0, .bool false]),
  .op (.st 9 (.tmp 6) (.tmp 31)),
  .op (.st 11 (.tmp 7) (.tmp 32)),
  .kp [0, 3, 4, 6]] .nil) (.one [.op (.new 7 47 [.int .i64 0, .slice none 0 0, .int .i64 0, .int .i64 0, .int .i64 0, .int .i64 0, .int .i64 0, .int .i64 0, .int .i64 0, .int .i64 0, .bool false]),
  .op (.call (some 30) 56 [(.tmp 23), (.tmp 29)]),
  .op (.mov 22 (.tmp 30)),
  .op (.ext 31 (.tmp 22) 0),
  .op (.ext 32 (.tmp 22) 1),
  .op (.st 9 (.tmp 6) (.tmp 31)),
  .op (.st 11 (.tmp 7) (.tmp 32)),
  .kp [0, 3, 4, 6]] .nil))) (.one [.op (.new 7 47 [.int .i64 0, .slice none 0 0, .int .i64 0, .int .i64 0, .int .i64 0, .int .i64 0, .int .i64 0, .int .i64 0, .int .i64 0, .int .i64 0, .bool false]),
  .op (.call (some 29) 54 [(.tmp 24), (.tmp 28), (.const (.bool false))]),
  .op (.call (some 30) 56 [(.tmp 23), (.tmp 29)]),
  .op (.mov 22 (.tmp 30)),
  .op (.ext 31 (.tmp 22) 0),
  .op (.ext 32 (.tmp 22) 1),
  .op (.st 9 (.tmp 6) (.tmp 31)),
  .op (.st 11 (.tmp 7) (.tmp 32)),
  .kp [0, 3, 4, 6]] .nil))) (.one [.op (.new 7 47 [.int .i64 0, .slice none 0 0, .int .i64 0, .int .i64 0, .int .i64 0, .int .i64 0, .int .i64 0, .int .i64 0, .int .i64 0, .int .i64 0, .bool false])] (.alt (.one [.op (.call (some 29) 54 [(.tmp 24), (.tmp 28), (.const (.bool false))])] (.alt (.one [.op (.call (some 30) 56 [(.tmp 23), (.tmp 29)]),
  .op (.mov 22 (.tmp 30)),
  .op (.ext 31 (.tmp 22) 0),
  .op (.ext 32 (.tmp 22) 1),
  .op (.new 6 116 [.int .i64 0, .int .i64 0, .int .i64 0, .int .i64 0, .int .i64 0, .int .i64 0, .slice none 0 0, .slice none 0 0, .slice none 0 0]),
  .op (.st 9 (.tmp 6) (.tmp 31)),
  .op (.st 11 (.tmp 7) (.tmp 32)),
  .kp [0, 3, 4, 6]] .nil) (.one [.op (.new 6 116 [.int .i64 0, .int .i64 0, .int .i64 0, .int .i64 0, .int .i64 0, .int .i64 0, .slice none 0 0, .slice none 0 0, .slice none 0 0]),
  .op (.call (some 30) 56 [(.tmp 23), (.tmp 29)]),
  .op (.mov 22 (.tmp 30)),
  .op (.ext 31 (.tmp 22) 0),
  .op (.ext 32 (.tmp 22) 1),
  .op (.st 9 (.tmp 6) (.tmp 31)),
  .op (.st 11 (.tmp 7) (.tmp 32)),
  .kp [0, 3, 4, 6]] .nil))) (.one [.op (.new 6 116 [.int .i64 0, .int .i64 0, .int .i64 0, .int .i64 0, .int .i64 0, .int .i64 0, .slice none 0 0, .slice none 0 0, .slice none 0 0]),
  .op (.call (some 29) 54 [(.tmp 24), (.tmp 28), (.const (.bool false))]),
  .op (.call (some 30) 56 [(.tmp 23), (.tmp 29)]),
  .op (.mov 22 (.tmp 30)),
  .op (.ext 31 (.tmp 22) 0),
  .op (.ext 32 (.tmp 22) 1),
  .op (.st 9 (.tmp 6) (.tmp 31)),
  .op (.st 11 (.tmp 7) (.tmp 32)),
  .kp [0, 3, 4, 6]] .nil))))))
def f65r6 : List I := [.op (.mov 33 (.tmp 3)),
  .op (.ld 34 (some 9) (.tmp 6)),
  .op (.bsl 35 116 1 [.int .i64 0, .int .i64 0, .int .i64 0, .int .i64 0, .int .i64 0, .int .i64 0, .slice none 0 0, .slice none 0 0, .slice none 0 0] [(0, 9, (.tmp 34))]),
  .op (.raw (some 36) ⟨(some 36), (.call ⟨(.builtin .append), #[(.tmp 33), (.tmp 35)], #[130, 130]⟩), 130, "law.go:106", #[⟨0, .data⟩, ⟨2, .data⟩], none⟩),
  .op (.mov 3 (.tmp 36)),
  .kp [0, 3, 4]]
def f65r7 : List I := [.op (.mov 14 (.tmp 4)),
  .op (.bin 15 .add (.tmp 14) (.const (.int .i64 1))),
  .op (.mov 4 (.tmp 15)),
  .kp [0, 3, 4]]
def f65r8 : List I := [.op (.mov 37 (.tmp 3)),
  .op (.mov 2 (.tmp 37)),
  .kp [2]]
def f65c9 : C := (.reg f65r6)
def f65c8 : C := (.seq (.drt f65r5) f65c9)
def f65c7 : C := (.seq (.reg f65r4) f65c8)
def f65c10 : C := (.reg f65r7)
def f65c6 : C := (.seq (.block 1 f65c7) f65c10)
def f65c5 : C := (.seq (.cond (.tmp 13) .skip (.exit 0)) f65c6)
def f65c4 : C := (.seq (.reg f65r3) f65c5)
def f65c11 : C := (.seq (.reg f65r8) .ret)
def f65c3 : C := (.seq (.block 0 (.loop f65c4)) f65c11)
def f65c2 : C := (.seq (.reg f65r2) f65c3)
def f65c1 : C := (.seq (.reg f65r1) f65c2)
def f65c0 : C := (.seq (.reg f65r0) f65c1)
theorem f65cmp : cmpF Try.prog Try.f65 [.l [.o 0, .kp [0]],
  .l [.o 0, .o 1, .o 2, .kp [0, 3]],
  .l [.o 0, .kp [0, 3, 4]],
  .l [.o 0, .o 1, .o 2, .o 3, .kp [0, 3, 4, 13]],
  .l [.o 0, .o 1, .o 2, .o 3, .o 4, .o 5, .o 6, .o 7, .kp [0, 3, 4, 5]],
  .t (.one [.o 0, .o 1, .o 2, .o 3, .o 4, .o 5] (.alt (.one [.o 6] (.alt (.one [.o 7, .o 8, .o 9, .o 10] (.alt (.one [.o 11, .o 12, .o 13, .o 14, .kp [0, 3, 4, 6]] .nil) (.one [.o 12, .o 11, .o 13, .o 14, .kp [0, 3, 4, 6]] .nil))) (.alt (.one [.o 11] (.alt (.one [.o 7, .o 8, .o 9, .o 10, .o 12, .o 13, .o 14, .kp [0, 3, 4, 6]] .nil) (.one [.o 12, .o 7, .o 8, .o 9, .o 10, .o 13, .o 14, .kp [0, 3, 4, 6]] .nil))) (.one [.o 12] (.alt (.one [.o 7, .o 8, .o 9, .o 10, .o 11, .o 13, .o 14, .kp [0, 3, 4, 6]] .nil) (.one [.o 11, .o 7, .o 8, .o 9, .o 10, .o 13, .o 14, .kp [0, 3, 4, 6]] .nil)))))) (.alt (.one [.o 11] (.alt (.one [.o 6] (.alt (.one [.o 7, .o 8, .o 9, .o 10, .o 12, .o 13, .o 14, .kp [0, 3, 4, 6]] .nil) (.one [.o 12, .o 7, .o 8, .o 9, .o 10, .o 13, .o 14, .kp [0, 3, 4, 6]] .nil))) (.one [.o 12, .o 6, .o 7, .o 8, .o 9, .o 10, .o 13, .o 14, .kp [0, 3, 4, 6]] .nil))) (.one [.o 12] (.alt (.one [.o 6] (.alt (.one [.o 7, .o 8, .o 9, .o 10, .o 11, .o 13, .o 14, .kp [0, 3, 4, 6]] .nil) (.one [.o 11, .o 7, .o 8, .o 9, .o 10, .o 13, .o 14, .kp [0, 3, 4, 6]] .nil))) (.one [.o 11, .o 6, .o 7, .o 8, .o 9, .o 10, .o 13, .o 14, .kp [0, 3, 4, 6]] .nil)))))),
  .l [.o 0, .o 1, .o 2, .o 3, .o 4, .kp [0, 3, 4]],
  .l [.o 0, .o 1, .o 2, .kp [0, 3, 4]],
  .l [.o 0, .o 1, .kp [2]]] = some (f65c0, [.tmp 2]) := by kernel_rfl
theorem f65ok {args : List Value} {h : Heap} {R : Value → Heap → Prop} (hn : args.length ≤ 38) (H : wC Try.prog f65c0 (endW [.tmp 2] R) (envOf 0 args) h) : CallsH Try.prog 65 args h R :=
  fn_ok2 Try.func65 f65cmp hn H
section
variable {Q : X → Env → Heap → Prop} {σ : Env} {h : Heap}
theorem f65c9_eq : wC Try.prog f65c9 Q σ h = (wL Try.prog none f65r6 0 (fun σ h => Q .normal σ h) σ h) := rfl
theorem f65c8_eq : wC Try.prog f65c8 Q σ h = (drtW Try.prog f65r5 (fun σ h => wC Try.prog f65c9 Q σ h) σ h) := rfl
theorem f65c7_eq : wC Try.prog f65c7 Q σ h = (wL Try.prog none f65r4 0 (fun σ h => wC Try.prog f65c8 Q σ h) σ h) := rfl
theorem f65c10_eq : wC Try.prog f65c10 Q σ h = (wL Try.prog none f65r7 0 (fun σ h => Q .normal σ h) σ h) := rfl
theorem f65c6_eq : wC Try.prog f65c6 Q σ h = (wC Try.prog f65c7 (X.inBlock 1 (X.then (fun σ h => wC Try.prog f65c10 Q σ h) Q)) σ h) := rfl
theorem f65c5_eq : wC Try.prog f65c5 Q σ h = (bd (evO σ (.tmp 13)) fun v => bd (asB v) fun t => br t (wC Try.prog f65c6 Q σ h) (Q (.exit 0) σ h)) := rfl
theorem f65c4_eq : wC Try.prog f65c4 Q σ h = (wL Try.prog none f65r3 0 (fun σ h => wC Try.prog f65c5 Q σ h) σ h) := rfl
theorem f65c11_eq : wC Try.prog f65c11 Q σ h = (wL Try.prog none f65r8 0 (fun σ h => Q .ret σ h) σ h) := rfl
theorem f65c3_eq : wC Try.prog f65c3 Q σ h = (loopW (wC Try.prog f65c4) (X.inBlock 0 (X.then (fun σ h => wC Try.prog f65c11 Q σ h) Q)) σ h) := rfl
theorem f65c2_eq : wC Try.prog f65c2 Q σ h = (wL Try.prog none f65r2 0 (fun σ h => wC Try.prog f65c3 Q σ h) σ h) := rfl
theorem f65c1_eq : wC Try.prog f65c1 Q σ h = (wL Try.prog none f65r1 0 (fun σ h => wC Try.prog f65c2 Q σ h) σ h) := rfl
theorem f65c0_eq : wC Try.prog f65c0 Q σ h = (wL Try.prog none f65r0 0 (fun σ h => wC Try.prog f65c1 Q σ h) σ h) := rfl
end
def f52r0 : List I := [.op (.mov 0 (.const (.bool false))),
  .kp []]
def f52r1 : List I := [.op (.bld 8 [.int .i64 0, .int .i64 0, .int .i64 0, .int .i64 0, .int .i64 0, .int .i64 0, .slice none 0 0, .slice none 0 0, .slice none 0 0] []),
  .op (.bld 9 [.int .i64 0, .int .i64 0, .int .i64 0, .int .i64 0, .int .i64 0, .int .i64 0, .int .i64 0, .int .i64 0, .int .i64 0, .int .i64 0, .int .i64 0, .bool false, .slice none 0 0, .slice none 0 0] [(0, 1, (.const (.int .i64 1))), (1, 1, (.const (.int .i64 1))), (2, 1, (.const (.int .i64 2)))]),
  .op (.call (some 10) 56 [(.tmp 8), (.tmp 9)]),
  .op (.mov 7 (.tmp 10)),
  .op (.ext 11 (.tmp 7) 0),
  .op (.ext 12 (.tmp 7) 1),
  .op (.new 1 116 [.int .i64 0, .int .i64 0, .int .i64 0, .int .i64 0, .int .i64 0, .int .i64 0, .slice none 0 0, .slice none 0 0, .slice none 0 0]),
  .op (.new 2 47 [.int .i64 0, .slice none 0 0, .int .i64 0, .int .i64 0, .int .i64 0, .int .i64 0, .int .i64 0, .int .i64 0, .int .i64 0, .int .i64 0, .bool false]),
  .op (.st 9 (.tmp 1) (.tmp 11)),
  .op (.st 11 (.tmp 2) (.tmp 12)),
  .kp [1, 2]]
def f52r2 : List I := [.op (.ld 14 (some 9) (.tmp 1)),
  .op (.bld 15 [.int .i64 0, .int .i64 0, .int .i64 0, .int .i64 0] [(0, 1, (.const (.int .i64 1)))]),
  .op (.bld 16 [.int .i64 0, .int .i64 0] [(0, 1, (.const (.int .i64 5)))]),
  .op (.bld 17 [.string ⟨#[]⟩, .bool false, .string ⟨#[]⟩] [(0, 1, (.const (.string ⟨#[107]⟩))), (2, 1, (.const (.string ⟨#[120]⟩)))]),
  .op (.bsl 18 70 1 [.string ⟨#[]⟩, .bool false, .string ⟨#[]⟩] [(0, 3, (.tmp 17))]),
  .op (.bld 19 [.int .i64 0, .int .i64 0, .int .i64 0, .int .i64 0, .int .i64 0, .int .i64 0, .int .i64 0, .int .i64 0, .int .i64 0, .int .i64 0, .int .i64 0, .bool false, .slice none 0 0, .slice none 0 0] [(0, 1, (.const (.int .i64 3))), (1, 1, (.const (.int .i64 1))), (4, 4, (.tmp 15)), (8, 2, (.tmp 16)), (13, 1, (.tmp 18))]),
  .op (.call (some 20) 56 [(.tmp 14), (.tmp 19)]),
  .op (.mov 13 (.tmp 20)),
  .op (.ext 21 (.tmp 13) 0),
  .op (.ext 22 (.tmp 13) 1),
  .kp [1, 2, 21, 22],
  .op (.new 3 116 [.int .i64 0, .int .i64 0, .int .i64 0, .int .i64 0, .int .i64 0, .int .i64 0, .slice none 0 0, .slice none 0 0, .slice none 0 0]),
  .op (.new 4 47 [.int .i64 0, .slice none 0 0, .int .i64 0, .int .i64 0, .int .i64 0, .int .i64 0, .int .i64 0, .int .i64 0, .int .i64 0, .int .i64 0, .bool false]),
  .op (.st 9 (.tmp 3) (.tmp 21)),
  .op (.st 11 (.tmp 4) (.tmp 22)),
  .kp [1, 2, 3, 4]]
def f52r3 : List I := [.op (.ld 24 (some 9) (.tmp 3)),
  .op (.bld 25 [.int .i64 0, .int .i64 0] [(0, 1, (.const (.int .i64 9)))]),
  .op (.bld 26 [.string ⟨#[]⟩, .string ⟨#[]⟩] [(0, 1, (.const (.string ⟨#[97]⟩))), (1, 1, (.const (.string ⟨#[122]⟩)))]),
  .op (.bsl 27 94 1 [.string ⟨#[]⟩, .string ⟨#[]⟩] [(0, 2, (.tmp 26))]),
  .op (.bld 28 [.int .i64 0, .int .i64 0, .int .i64 0, .int .i64 0, .int .i64 0, .int .i64 0, .int .i64 0, .int .i64 0, .int .i64 0, .int .i64 0, .int .i64 0, .bool false, .slice none 0 0, .slice none 0 0] [(0, 1, (.const (.int .i64 2))), (1, 1, (.const (.int .i64 1))), (8, 2, (.tmp 25)), (12, 1, (.tmp 27))]),
  .op (.call (some 29) 56 [(.tmp 24), (.tmp 28)]),
  .op (.mov 23 (.tmp 29)),
  .op (.ext 30 (.tmp 23) 0),
  .op (.ext 31 (.tmp 23) 1),
  .op (.new 5 116 [.int .i64 0, .int .i64 0, .int .i64 0, .int .i64 0, .int .i64 0, .int .i64 0, .slice none 0 0, .slice none 0 0, .slice none 0 0]),
  .kp [1, 2, 3, 4, 5, 30, 31],
  .op (.new 6 47 [.int .i64 0, .slice none 0 0, .int .i64 0, .int .i64 0, .int .i64 0, .int .i64 0, .int .i64 0, .int .i64 0, .int .i64 0, .int .i64 0, .bool false]),
  .op (.st 9 (.tmp 5) (.tmp 30)),
  .op (.st 11 (.tmp 6) (.tmp 31)),
  .kp [1, 2, 3, 4, 6]]
def f52r4d : List I := [.op (.mov 0 (.tmp 53)),
  .kp [0]]
def f52r4c : List I := .op (.mov 50 (.tmp 49)) ::
  .sc 50 true 2 ::
  .g 50 true (.ld 51 (some 9) (.tmp 3)) ::
  .g 50 true (.call (some 52) 60 [(.tmp 51)]) ::
  .op (.pick 53 (.tmp 50) (.tmp 52) (.const (.bool false))) ::
  .kp [53] ::
  f52r4d
def f52r4b : List I := .op (.mov 45 (.tmp 44)) ::
  .sc 45 true 3 ::
  .g 45 true (.fad 46 0 (.tmp 6)) ::
  .g 45 true (.ld 47 none (.tmp 46)) ::
  .g 45 true (.bin 48 .eql (.tmp 47) (.const (.int .i64 20))) ::
  .op (.pick 49 (.tmp 45) (.tmp 48) (.const (.bool false))) ::
  .kp [49, 3] ::
  f52r4c
def f52r4a : List I := .op (.mov 40 (.tmp 39)) ::
  .sc 40 true 3 ::
  .g 40 true (.fad 41 0 (.tmp 4)) ::
  .g 40 true (.ld 42 none (.tmp 41)) ::
  .g 40 true (.bin 43 .eql (.tmp 42) (.const (.int .i64 0))) ::
  .op (.pick 44 (.tmp 40) (.tmp 43) (.const (.bool false))) ::
  .kp [44, 3, 6] ::
  f52r4b
def f52r4 : List I := .op (.fad 32 0 (.tmp 2)) ::
  .op (.ld 33 none (.tmp 32)) ::
  .op (.bin 34 .eql (.tmp 33) (.const (.int .i64 0))) ::
  .op (.mov 35 (.tmp 34)) ::
  .sc 35 true 3 ::
  .g 35 true (.fad 36 1 (.tmp 1)) ::
  .g 35 true (.ld 37 none (.tmp 36)) ::
  .g 35 true (.bin 38 .eql (.tmp 37) (.const (.int .i64 2))) ::
  .op (.pick 39 (.tmp 35) (.tmp 38) (.const (.bool false))) ::
  .kp [39, 3, 4, 6] ::
  f52r4a
def f52c4 : C := (.seq (.reg f52r4) .ret)
def f52c3 : C := (.seq (.reg f52r3) f52c4)
def f52c2 : C := (.seq (.reg f52r2) f52c3)
def f52c1 : C := (.seq (.reg f52r1) f52c2)
def f52c0 : C := (.seq (.reg f52r0) f52c1)
theorem f52cmp : cmpF Try.prog Try.f52 [.l [.o 0, .kp []],
  .l [.o 0, .o 1, .o 2, .o 3, .o 4, .o 5, .o 6, .o 7, .o 8, .o 9, .kp [1, 2]],
  .l [.o 0, .o 1, .o 2, .o 3, .o 4, .o 5, .o 6, .o 7, .o 8, .o 9, .kp [1, 2, 21, 22], .o 10, .o 11, .o 12, .o 13, .kp [1, 2, 3, 4]],
  .l [.o 0, .o 1, .o 2, .o 3, .o 4, .o 5, .o 6, .o 7, .o 8, .o 9, .kp [1, 2, 3, 4, 5, 30, 31], .o 10, .o 11, .o 12, .kp [1, 2, 3, 4, 6]],
  .l [.o 0, .o 1, .o 2, .o 3, .sc 35 true 3, .o 4, .o 5, .o 6, .o 7, .kp [39, 3, 4, 6], .o 8, .sc 40 true 3, .o 9, .o 10, .o 11, .o 12, .kp [44, 3, 6], .o 13, .sc 45 true 3, .o 14, .o 15, .o 16, .o 17, .kp [49, 3], .o 18, .sc 50 true 2, .o 19, .o 20, .o 21, .kp [53], .o 22, .kp [0]]] = some (f52c0, [.tmp 0]) := by kernel_rfl
theorem f52ok {args : List Value} {h : Heap} {R : Value → Heap → Prop} (hn : args.length ≤ 54) (H : wC Try.prog f52c0 (endW [.tmp 0] R) (envOf 0 args) h) : CallsH Try.prog 52 args h R :=
  fn_ok2 Try.func52 f52cmp hn H
section
variable {Q : X → Env → Heap → Prop} {σ : Env} {h : Heap}
theorem f52c4_eq : wC Try.prog f52c4 Q σ h = (wL Try.prog none f52r4 0 (fun σ h => Q .ret σ h) σ h) := rfl
theorem f52c3_eq : wC Try.prog f52c3 Q σ h = (wL Try.prog none f52r3 0 (fun σ h => wC Try.prog f52c4 Q σ h) σ h) := rfl
theorem f52c2_eq : wC Try.prog f52c2 Q σ h = (wL Try.prog none f52r2 0 (fun σ h => wC Try.prog f52c3 Q σ h) σ h) := rfl
theorem f52c1_eq : wC Try.prog f52c1 Q σ h = (wL Try.prog none f52r1 0 (fun σ h => wC Try.prog f52c2 Q σ h) σ h) := rfl
theorem f52c0_eq : wC Try.prog f52c0 Q σ h = (wL Try.prog none f52r0 0 (fun σ h => wC Try.prog f52c1 Q σ h) σ h) := rfl
end
end Go.Proofs.Ytefghfgmkndikaa
namespace Go.AX
open Go
/-- A slice of commands. -/
def SlM (B : Nat → Prop) (h : Heap) (a : Option Addr) (cs : List Cmd) : Prop := ∃ vs : List CmV, All2 (CmR B h) vs cs ∧ SlF B h eCm a vs
theorem SlM.ext {B : Nat → Prop} {h h' : Heap} {a : Option Addr} {cs : List Cmd} (S : SlM B h a cs) (x : Ext h h') : SlM B h' a cs := let ⟨vs, h1, h2⟩ := S; ⟨vs, h1.imp fun _ _ r => r.ext x, h2.ext x⟩
theorem SlM.elem {B : Nat → Prop} {h : Heap} {a : Option Addr} {cs : List Cmd} (S : SlM B h a cs) {i : Nat} {c : Cmd} (hi : cs[i]? = some c) : ∃ b o v, a = some ⟨b, o, none⟩ ∧ B b ∧ Row h b (o + i * 14) (eCm v) ∧ CmR B h v c := by
  obtain ⟨vs, h1, h2⟩ := S
  obtain ⟨v, hv, hr⟩ := h1.get hi
  obtain ⟨b, o, e1, e2, e3⟩ := h2.elem eCm_len hv
  exact ⟨b, o, v, e1, e2, e3, hr⟩
theorem row_cm {h : Heap} {b o : Nat} {v : CmV} (r : Row h b o (eCm v)) : rd h b o 14 = some (eCm v) := r.rd0 14 (Nat.le_refl _)
end Go.AX
namespace Go.Proofs.Ytefghfgmkndikaa
open Go Go.AX
def emptyP : Prt := ⟨⟨0, 0, ⟨0, 0⟩, 0, 0⟩, [], [], []⟩
/-- A command whose epoch is the part's, or the next one. -/
def ownM (p : Prt) (c : Cmd) : Cmd := { c with s := { c.s with epoch := if c.s.kind = 1 then p.s.epoch + 1 else p.s.epoch } }
def stepP (p : Prt) (c : Cmd) : Prt := (applyP p (ownM p c)).1
def runP (l : List Cmd) : Prt := l.foldl stepP emptyP
/-- A command that is not too great. -/
def Lt100 (c : Cmd) : Prop := c.spans.length < 100 ∧ c.writes.length < 100
/-- A state that is not too great, its epoch in its bounds. -/
structure GdP (n : Nat) (p : Prt) : Prop where
  sz : SzP n p
  e0 : 0 ≤ p.s.epoch
  e1 : p.s.epoch ≤ mostEpoch
theorem GdP.mono {n m : Nat} {p : Prt} (g : GdP n p) (h : n ≤ m) : GdP m p := ⟨g.sz.mono h, g.e0, g.e1⟩
theorem lockG' {n : Nat} {cs : List Cell} (g : Gd n cs) (w : Wri) (l : Lck) : Gd (n + 1) (lockL cs w l) := ⟨lock_good w l g.good, lock_sz w l g.sz⟩
theorem settleG' {n : Nat} {cs : List Cell} (g : Gd n cs) (b : Try4) (y : Bool) : Gd (n + 1) (settleL cs b y) := ⟨settle_good b y g.good, settle_sz b y g.good g.sz⟩
theorem trimG' {n : Nat} {cs : List Cell} (g : Gd n cs) (t : Stamp) : Gd n (trimL cs t) := ⟨trim_good t g.good, trim_sz t g.sz⟩
theorem locksG {l : Lck} : ∀ (ws : List Wri) {n : Nat} {cs : List Cell}, Gd n cs → Gd (n + ws.length) (ws.foldl (fun cs w => lockL cs w l) cs)
  | [], _, _, g => g
  | w :: ws, n, cs, g => by
    have := locksG (l := l) ws (lockG' g w l)
    rw [List.foldl_cons, List.length_cons, show n + (ws.length + 1) = n + 1 + ws.length by omega]
    exact this
theorem readP_1 (p : Prt) (c : Cmd) : (readP p c).1 = p ∨ (readP p c).1 = { p with s := { p.s with floor := maxS p.s.floor c.s.at_ } } := by
  unfold readP
  split
  · exact .inl rfl
  · split
    · exact .inl rfl
    · dsimp only
      split
      · exact .inr rfl
      · exact .inl rfl
theorem prepP_1 (p : Prt) (c : Cmd) : (prepP p c).1 = p ∨ (prepP p c).1 = { p with cells := c.writes.foldl (fun cs w => lockL cs w (lkC c)) p.cells } := by
  unfold prepP
  split
  · exact .inl rfl
  · split
    · exact .inl rfl
    · split
      · exact .inl rfl
      · split
        · exact .inl rfl
        · split
          · exact .inl rfl
          · exact .inr rfl
theorem doesG {n : Nat} {p : Prt} {c : Cmd} (g : GdP n p) (hc : Lt100 c) : GdP (n + 100) (doesP p c).1 := by
  have g' := g.mono (Nat.le_add_right n 100)
  obtain ⟨⟨g1, g2, g3⟩, e0, e1⟩ := g
  obtain ⟨_, hw⟩ := hc
  unfold doesP
  split
  · rcases readP_1 p c with h | h <;> rw [h]
    · exact g'
    · exact ⟨⟨g1.mono (by omega), by show p.records.length ≤ _; omega, by show p.done.length ≤ _; omega⟩, e0, e1⟩
  split
  · rcases prepP_1 p c with h | h <;> rw [h]
    · exact g'
    · exact ⟨⟨(locksG c.writes g1).mono (by omega), by show p.records.length ≤ _; omega, by show p.done.length ≤ _; omega⟩, e0, e1⟩
  split
  · split
    · exact g'
    · exact ⟨⟨g1.mono (by omega), by show (p.records ++ [_]).length ≤ _; simp; omega, by show p.done.length ≤ _; omega⟩, e0, e1⟩
  split
  · refine ⟨⟨(settleG' g1 _ _).mono (by omega), by show p.records.length ≤ _; omega, ?_⟩, e0, e1⟩
    show List.length (match findO p.done c.s.by_ with | some _ => p.done | none => p.done ++ [outC c]) ≤ _
    split
    · omega
    · simp; omega
  split
  · exact ⟨⟨g1.mono (by omega), by show p.records.length ≤ _; omega, by show p.done.length ≤ _; omega⟩, e0, e1⟩
  split
  · exact ⟨⟨(trimG' g1 _).mono (by omega), by show p.records.length ≤ _; omega, by show p.done.length ≤ _; omega⟩, e0, e1⟩
  · exact g'
theorem leaseG {n : Nat} {p : Prt} {c : Cmd} (g : GdP n p) : GdP n (leaseP p c).1 := by
  unfold leaseP
  split
  · exact g
  · rename_i h
    have h0 := g.e0
    refine ⟨⟨g.sz.cells, g.sz.records, g.sz.done⟩, ?_, ?_⟩
    · show 0 ≤ c.s.epoch; omega
    · show c.s.epoch ≤ mostEpoch; omega
theorem applyG {n : Nat} {p : Prt} {c : Cmd} (g : GdP n p) (hc : Lt100 c) : GdP (n + 100) (applyP p c).1 := by
  have g' := g.mono (Nat.le_add_right n 100)
  have key : ∀ r : Prt × Rep, GdP (n + 100) r.1 → GdP (n + 100) (if r.2.s.err = 0 then r else (p, r.2)).1 := by
    intro r hr
    split
    · exact hr
    · exact g'
  unfold applyP
  refine key _ ?_
  split
  · exact (leaseG g).mono (by omega)
  · split
    · exact g'
    · exact doesG g hc
theorem ownM_lt {p : Prt} {c : Cmd} (h : Lt100 c) : Lt100 (ownM p c) := h
theorem runG : ∀ (l : List Cmd) {n : Nat} {p : Prt}, GdP n p → (∀ c ∈ l, Lt100 c) → GdP (n + 100 * l.length) (l.foldl stepP p)
  | [], _, _, g, _ => g
  | c :: l, n, p, g, h => by
    have := runG l (applyG g (ownM_lt (p := p) (h c (List.mem_cons_self ..)))) (fun x hx => h x (List.mem_cons_of_mem _ hx))
    rw [List.foldl_cons, List.length_cons, show n + 100 * (l.length + 1) = n + 100 + 100 * l.length by omega]
    exact this
theorem emptyG : GdP 0 emptyP := ⟨⟨⟨(gdRun []).good, (gdRun []).sz⟩, Nat.le_refl _, Nat.le_refl _⟩, by decide, by decide⟩
theorem own_okP (pv : PrV) (p : Prt) (cv : CmV) (c : Cmd) (other : Bool) (h : Heap) {B : Nat → Prop} (hp : pv.s = p.s) (C : CmR B h cv c) (e0 : 0 ≤ p.s.epoch) (e1 : p.s.epoch ≤ mostEpoch) {R : Value → Heap → Prop}
    (hR : ∀ cv' h', CmR B h' cv' (if other then c else ownM p c) → Ext h h' → R (.agg (eCm cv').toArray) h') : CallsH Try.prog 54 [.agg (ePr pv).toArray, .agg (eCm cv).toArray, .bool other] h R := by
  have hm : mostEpoch = 1099511627776 := rfl
  have hcs := C.s
  refine f54ok (by simp) ?_
  (try simp (config := { maxSteps := 1000000 }) (disch := first | exact Nat.le_of_ble_eq_true rfl | omega) only [AXS, AXB, J.dst, reduceIte, Nat.reduceEqDiff, Nat.reduceAdd, Nat.reduceMul, Nat.reduceLT, Nat.reduceLeDiff]); rw [f54c0_eq]; (try simp (config := { maxSteps := 1000000 }) (disch := first | exact Nat.le_of_ble_eq_true rfl | omega) only [AXS, AXB, J.dst, reduceIte, Nat.reduceEqDiff, Nat.reduceAdd, Nat.reduceMul, Nat.reduceLT, Nat.reduceLeDiff, f54r0])
  refine wL_boxN rfl ?_; rintro b3 h1 x1 s1 hb3 (B3 : Blk _ _ _ (ePr pv))
  refine wL_boxN rfl ?_; rintro b4 h2 x2 s2 hb4 (B4 : Blk _ _ _ (eCm cv))
  try simp (config := { maxSteps := 1000000 }) (disch := first | exact Nat.le_of_ble_eq_true rfl | omega) only [AXS, AXB, J.dst, reduceIte, Nat.reduceEqDiff, Nat.reduceAdd, Nat.reduceMul, Nat.reduceLT, Nat.reduceLeDiff]
  refine wL_newN ?_; rintro b6 h3 x3 s3 hb6 B6
  replace B3 := B3.ext x2
  replace B3 := B3.ext x3; replace B4 := B4.ext x3
  have x03 := (x1.trans x2).trans x3
  have fin : ∀ (h5 : Heap) (cv' : CmV) (τ : Env), Ext h h5 → Blk h5 b4 43 (eCm cv') → Blk h5 b6 43 (eCm ⟨⟨0, 0, 0, 0, ⟨0, 0, 0, 0⟩, ⟨0, 0⟩, 0, false⟩, none, 0, 0, none, 0, 0⟩) → CmR B h cv' (if other then c else ownM p c) → AX.look τ 4 = some (ptr b4 0) → AX.look τ 6 = some (ptr b6 0) →
      wC Try.prog f54c7 (endW [.cell 6 14] R) τ h5 := by
    intro h5 cv' τ x5 D4 D6 C5 t4 t6
    (try simp (config := { maxSteps := 1000000 }) (disch := first | exact Nat.le_of_ble_eq_true rfl | omega) only [AXS, AXB, J.dst, reduceIte, Nat.reduceEqDiff, Nat.reduceAdd, Nat.reduceMul, Nat.reduceLT, Nat.reduceLeDiff]); rw [f54c7_eq]; (try simp (config := { maxSteps := 1000000 }) (disch := first | exact Nat.le_of_ble_eq_true rfl | omega) only [AXS, AXB, J.dst, reduceIte, Nat.reduceEqDiff, Nat.reduceAdd, Nat.reduceMul, Nat.reduceLT, Nat.reduceLeDiff, f54r5, t4, t6, D4.rd, eCm])
    refine wL_stN (show AX.look _ _ = _ from t6) rfl rfl D6 (by decide) (eCm_one cv') ?_
    rintro h6 u6 (B7 : Blk _ _ _ (eCm cv'))
    simp (config := { maxSteps := 1000000 }) (disch := first | exact Nat.le_of_ble_eq_true rfl | omega) only [AXS, AXB, J.dst, reduceIte, Nat.reduceEqDiff, Nat.reduceAdd, Nat.reduceMul, Nat.reduceLT, Nat.reduceLeDiff, B7.rd, eCm, t6]
    exact hR cv' h6 (C5.ext (u6.ext x5 (by omega))) (u6.ext x5 (by omega))
  (try simp (config := { maxSteps := 1000000 }) (disch := first | exact Nat.le_of_ble_eq_true rfl | omega) only [AXS, AXB, J.dst, reduceIte, Nat.reduceEqDiff, Nat.reduceAdd, Nat.reduceMul, Nat.reduceLT, Nat.reduceLeDiff]); rw [f54c1_eq]; (try simp (config := { maxSteps := 1000000 }) (disch := first | exact Nat.le_of_ble_eq_true rfl | omega) only [AXS, AXB, J.dst, reduceIte, Nat.reduceEqDiff, Nat.reduceAdd, Nat.reduceMul, Nat.reduceLT, Nat.reduceLeDiff, f54r1]); rw [f54c2_eq]; (try simp (config := { maxSteps := 1000000 }) (disch := first | exact Nat.le_of_ble_eq_true rfl | omega) only [AXS, AXB, J.dst, reduceIte, Nat.reduceEqDiff, Nat.reduceAdd, Nat.reduceMul, Nat.reduceLT, Nat.reduceLeDiff])
  refine ⟨fun hh => ?_, fun hh => ?_⟩
  · have ho : other = false := by simpa using hh
    subst ho
    (try simp (config := { maxSteps := 1000000 }) (disch := first | exact Nat.le_of_ble_eq_true rfl | omega) only [AXS, AXB, J.dst, reduceIte, Nat.reduceEqDiff, Nat.reduceAdd, Nat.reduceMul, Nat.reduceLT, Nat.reduceLeDiff]); rw [f54c3_eq]; (try simp (config := { maxSteps := 1000000 }) (disch := first | exact Nat.le_of_ble_eq_true rfl | omega) only [AXS, AXB, J.dst, reduceIte, Nat.reduceEqDiff, Nat.reduceAdd, Nat.reduceMul, Nat.reduceLT, Nat.reduceLeDiff, f54r2, B3.cel, ePr, hp])
    refine wL_stN rfl rfl rfl B4 (by rw [eCm_len]; exact Nat.le_of_ble_eq_true rfl) int_one ?_
    rintro h4 u4 (D4 : Blk _ _ _ (eCm { cv with s := { cv.s with epoch := p.s.epoch } }))
    have C6 := u4.blk B6 (by omega)
    have y4 := u4.size
    (try simp (config := { maxSteps := 1000000 }) (disch := first | exact Nat.le_of_ble_eq_true rfl | omega) only [AXS, AXB, J.dst, reduceIte, Nat.reduceEqDiff, Nat.reduceAdd, Nat.reduceMul, Nat.reduceLT, Nat.reduceLeDiff]); rw [f54c4_eq]; (try simp (config := { maxSteps := 1000000 }) (disch := first | exact Nat.le_of_ble_eq_true rfl | omega) only [AXS, AXB, J.dst, reduceIte, Nat.reduceEqDiff, Nat.reduceAdd, Nat.reduceMul, Nat.reduceLT, Nat.reduceLeDiff, f54r3, D4.cel, eCm, hcs]); rw [f54c5_eq]; (try simp (config := { maxSteps := 1000000 }) (disch := first | exact Nat.le_of_ble_eq_true rfl | omega) only [AXS, AXB, J.dst, reduceIte, Nat.reduceEqDiff, Nat.reduceAdd, Nat.reduceMul, Nat.reduceLT, Nat.reduceLeDiff, D4.cel, eCm, hcs])
    refine ⟨fun hk => ?_, fun hk => ?_⟩
    · have hk' : c.s.kind = 1 := by simpa using hk
      (try simp (config := { maxSteps := 1000000 }) (disch := first | exact Nat.le_of_ble_eq_true rfl | omega) only [AXS, AXB, J.dst, reduceIte, Nat.reduceEqDiff, Nat.reduceAdd, Nat.reduceMul, Nat.reduceLT, Nat.reduceLeDiff]); rw [f54c6_eq]; (try simp (config := { maxSteps := 1000000 }) (disch := first | exact Nat.le_of_ble_eq_true rfl | omega) only [AXS, AXB, J.dst, reduceIte, Nat.reduceEqDiff, Nat.reduceAdd, Nat.reduceMul, Nat.reduceLT, Nat.reduceLeDiff, f54r4, D4.cel, eCm])
      rw [i64_wrap (by omega) (by omega)]
      refine wL_stN rfl rfl rfl D4 (by rw [eCm_len]; exact Nat.le_of_ble_eq_true rfl) int_one ?_
      rintro h5 u5 (D5 : Blk _ _ _ (eCm { cv with s := { cv.s with epoch := p.s.epoch + 1 } }))
      try simp (config := { maxSteps := 1000000 }) (disch := first | exact Nat.le_of_ble_eq_true rfl | omega) only [AXS, AXB, J.dst, reduceIte, Nat.reduceEqDiff, Nat.reduceAdd, Nat.reduceMul, Nat.reduceLT, Nat.reduceLeDiff]
      refine fin h5 _ _ (u5.ext (u4.ext x03 (by omega)) (by omega)) D5 (u5.blk C6 (by omega)) ⟨?_, C.sn, C.wn, C.spans, C.writes⟩ rfl rfl
      show _ = { c.s with epoch := if c.s.kind = 1 then p.s.epoch + 1 else p.s.epoch }
      rw [if_pos hk', ← hcs]
    · have hk' : ¬ c.s.kind = 1 := by simpa using hk
      try simp (config := { maxSteps := 1000000 }) (disch := first | exact Nat.le_of_ble_eq_true rfl | omega) only [AXS, AXB, J.dst, reduceIte, Nat.reduceEqDiff, Nat.reduceAdd, Nat.reduceMul, Nat.reduceLT, Nat.reduceLeDiff]
      refine fin h4 _ _ (u4.ext x03 (by omega)) D4 C6 ⟨?_, C.sn, C.wn, C.spans, C.writes⟩ rfl rfl
      show _ = { c.s with epoch := if c.s.kind = 1 then p.s.epoch + 1 else p.s.epoch }
      rw [if_neg hk', ← hcs]
  · have ho : other = true := by simpa using hh
    subst ho
    exact fin h3 cv _ x03 B4 B6 C rfl rfl
theorem lightM_ok (cv : CmV) (c : Cmd) (h : Heap) {B : Nat → Prop} (C : CmR B h cv c) (ws : c.spans.length ≤ maxLen) (ww : c.writes.length ≤ maxLen) {R : Value → Heap → Prop}
    (hR : ∀ (b : Bool) h', (b = true → Lt100 c) → Ext h h' → R (.bool b) h') : CallsH Try.prog 94 [.agg (eCm cv).toArray] h R := by
  unfold maxLen at ws ww
  have hsn := C.sn
  have hwn := C.wn
  refine f94ok (by simp) ?_
  (try simp (config := { maxSteps := 1000000 }) (disch := first | exact Nat.le_of_ble_eq_true rfl | omega) only [AXS, AXB, J.dst, reduceIte, Nat.reduceEqDiff, Nat.reduceAdd, Nat.reduceMul, Nat.reduceLT, Nat.reduceLeDiff]); rw [f94c0_eq]; (try simp (config := { maxSteps := 1000000 }) (disch := first | exact Nat.le_of_ble_eq_true rfl | omega) only [AXS, AXB, J.dst, reduceIte, Nat.reduceEqDiff, Nat.reduceAdd, Nat.reduceMul, Nat.reduceLT, Nat.reduceLeDiff, f94r0])
  refine wL_boxN rfl ?_; rintro b1 h1 x1 s1 hb1 (B1 : Blk _ _ _ (eCm cv))
  (try simp (config := { maxSteps := 1000000 }) (disch := first | exact Nat.le_of_ble_eq_true rfl | omega) only [AXS, AXB, J.dst, reduceIte, Nat.reduceEqDiff, Nat.reduceAdd, Nat.reduceMul, Nat.reduceLT, Nat.reduceLeDiff]); rw [f94c1_eq]; (try simp (config := { maxSteps := 1000000 }) (disch := first | exact Nat.le_of_ble_eq_true rfl | omega) only [AXS, AXB, J.dst, reduceIte, Nat.reduceEqDiff, Nat.reduceAdd, Nat.reduceMul, Nat.reduceLT, Nat.reduceLeDiff, f94r1]); rw [f94c2_eq]; (try simp (config := { maxSteps := 1000000 }) (disch := first | exact Nat.le_of_ble_eq_true rfl | omega) only [AXS, AXB, J.dst, reduceIte, Nat.reduceEqDiff, Nat.reduceAdd, Nat.reduceMul, Nat.reduceLT, Nat.reduceLeDiff, f94r2])
  rw [f94c3_eq]
  refine loop_in (fun m σ h' => h' = h1 ∧ ∃ (k : Nat) (n : Int), k + m = c.spans.length ∧ 0 ≤ n ∧ n ≤ 40000 ∧ σ = [(1, ptr b1 0), (3, vi n), (4, vi k)]) c.spans.length ⟨rfl, 0, 0, by omega, by omega, by omega, rfl⟩ ?_
  rintro m σ h' ⟨rfl, k, n, hk, hn0, hn1, rfl⟩ Q' hnx hex hrt _
  rw [f94c4_eq]
  simp (config := { maxSteps := 1000000 }) (disch := first | exact Nat.le_of_ble_eq_true rfl | omega) only [AXJ, AXS, AXB, J.dst, reduceIte, Nat.reduceEqDiff, Nat.reduceAdd, Nat.reduceMul, Nat.reduceLT, Nat.reduceLeDiff, f94r3, B1.cel, eCm, hsn]
  try simp (config := { maxSteps := 1000000 }) (disch := first | exact Nat.le_of_ble_eq_true rfl | omega) only [AXS, AXB, J.dst, reduceIte, Nat.reduceEqDiff, Nat.reduceAdd, Nat.reduceMul, Nat.reduceLT, Nat.reduceLeDiff]
  (try simp (config := { maxSteps := 1000000 }) (disch := first | exact Nat.le_of_ble_eq_true rfl | omega) only [AXS, AXB, J.dst, reduceIte, Nat.reduceEqDiff, Nat.reduceAdd, Nat.reduceMul, Nat.reduceLT, Nat.reduceLeDiff]); rw [f94c5_eq]; (try simp (config := { maxSteps := 1000000 }) (disch := first | exact Nat.le_of_ble_eq_true rfl | omega) only [AXS, AXB, J.dst, reduceIte, Nat.reduceEqDiff, Nat.reduceAdd, Nat.reduceMul, Nat.reduceLT, Nat.reduceLeDiff])
  refine ⟨fun hh => ?_, fun hh => ?_⟩
  · have hh' : (k : Int) < c.spans.length ∧ n < 16384 := by simpa using hh
    obtain ⟨s, hx⟩ := get_ex (show k < c.spans.length by omega)
    obtain ⟨b', o, hsa, hBb, hrow⟩ := (C.spans.ext x1).elem eSpn_len hx
    have hrow' : rd h' b' (o + k * 2) 2 = some (eSpn s) ∧ cel h' b' (o + k * 2 + 0) = some (.string s.lo) ∧ cel h' b' (o + k * 2 + 1) = some (.string s.hi) := ⟨hrow.rd0 2 (Nat.le_refl _), hrow 0 (by rw [eSpn_len]; omega), hrow 1 (by rw [eSpn_len]; omega)⟩
    try simp (config := { maxSteps := 1000000 }) (disch := first | exact Nat.le_of_ble_eq_true rfl | omega) only [AXS, AXB, J.dst, reduceIte, Nat.reduceEqDiff, Nat.reduceAdd, Nat.reduceMul, Nat.reduceLT, Nat.reduceLeDiff]
    rw [f94c6_eq, f94c7_eq]
    simp (config := { maxSteps := 1000000 }) (disch := first | exact Nat.le_of_ble_eq_true rfl | omega) only [AXJ, AXS, AXB, J.dst, reduceIte, Nat.reduceEqDiff, Nat.reduceAdd, Nat.reduceMul, Nat.reduceLT, Nat.reduceLeDiff, f94r4, B1.cel, eCm, hsn, hsa, hrow']
    refine ⟨by omega, by omega, fun _ => by omega, fun _ => by omega, ?_⟩
    (try simp (config := { maxSteps := 1000000 }) (disch := first | exact Nat.le_of_ble_eq_true rfl | omega) only [AXS, AXB, J.dst, reduceIte, Nat.reduceEqDiff, Nat.reduceAdd, Nat.reduceMul, Nat.reduceLT, Nat.reduceLeDiff]); rw [f94c8_eq]; (try simp (config := { maxSteps := 1000000 }) (disch := first | exact Nat.le_of_ble_eq_true rfl | omega) only [AXS, AXB, J.dst, reduceIte, Nat.reduceEqDiff, Nat.reduceAdd, Nat.reduceMul, Nat.reduceLT, Nat.reduceLeDiff])
    refine ⟨fun h8 => ?_, fun h8 => ?_⟩
    · (try simp (config := { maxSteps := 1000000 }) (disch := first | exact Nat.le_of_ble_eq_true rfl | omega) only [AXS, AXB, J.dst, reduceIte, Nat.reduceEqDiff, Nat.reduceAdd, Nat.reduceMul, Nat.reduceLT, Nat.reduceLeDiff]); rw [f94c9_eq]; (try simp (config := { maxSteps := 1000000 }) (disch := first | exact Nat.le_of_ble_eq_true rfl | omega) only [AXS, AXB, J.dst, reduceIte, Nat.reduceEqDiff, Nat.reduceAdd, Nat.reduceMul, Nat.reduceLT, Nat.reduceLeDiff, f94r5])
      refine hrt _ _ ?_
      try simp (config := { maxSteps := 1000000 }) (disch := first | exact Nat.le_of_ble_eq_true rfl | omega) only [AXS, AXB, J.dst, reduceIte, Nat.reduceEqDiff, Nat.reduceAdd, Nat.reduceMul, Nat.reduceLT, Nat.reduceLeDiff]
      exact hR false _ (fun h => by cases h) x1
    · have h8' : (s.lo.size : Int) ≤ 8192 ∧ (s.hi.size : Int) ≤ 8192 := by simpa using h8
      try simp (config := { maxSteps := 1000000 }) (disch := first | exact Nat.le_of_ble_eq_true rfl | omega) only [AXS, AXB, J.dst, reduceIte, Nat.reduceEqDiff, Nat.reduceAdd, Nat.reduceMul, Nat.reduceLT, Nat.reduceLeDiff]
      rw [f94c10_eq]
      refine drw_lt ?_
      simp (config := { maxSteps := 1000000 }) (disch := first | exact Nat.le_of_ble_eq_true rfl | omega) only [AXS, AXB, J.dst, reduceIte, Nat.reduceEqDiff, Nat.reduceAdd, Nat.reduceMul, Nat.reduceLT, Nat.reduceLeDiff, f94r6, B1.cel, eCm, hsn, hsa, hrow']
      have hb' := hrow.lt (by rw [eSpn_len]; omega)
      have hb1' := B1.lt
      refine ⟨hb1', by omega, by omega, hb', hb1', by omega, by omega, hb', ?_⟩
      rw [i64_wrap (show (-9223372036854775808 : Int) ≤ n + s.lo.size by omega) (by omega), i64_wrap (by omega) (by omega)]
      (try simp (config := { maxSteps := 1000000 }) (disch := first | exact Nat.le_of_ble_eq_true rfl | omega) only [AXS, AXB, J.dst, reduceIte, Nat.reduceEqDiff, Nat.reduceAdd, Nat.reduceMul, Nat.reduceLT, Nat.reduceLeDiff]); rw [f94c11_eq]; (try simp (config := { maxSteps := 1000000 }) (disch := first | exact Nat.le_of_ble_eq_true rfl | omega) only [AXS, AXB, J.dst, reduceIte, Nat.reduceEqDiff, Nat.reduceAdd, Nat.reduceMul, Nat.reduceLT, Nat.reduceLeDiff, f94r7])
      rw [i64_wrap (by omega) (by omega)]
      exact hnx (m - 1) _ _ (by omega) ⟨rfl, k + 1, n + s.lo.size + s.hi.size, by omega, by omega, by omega, rfl⟩
  · refine hex _ _ ?_
    clear hh hk
    (try simp (config := { maxSteps := 1000000 }) (disch := first | exact Nat.le_of_ble_eq_true rfl | omega) only [AXS, AXB, J.dst, reduceIte, Nat.reduceEqDiff, Nat.reduceAdd, Nat.reduceMul, Nat.reduceLT, Nat.reduceLeDiff]); rw [f94c12_eq]; (try simp (config := { maxSteps := 1000000 }) (disch := first | exact Nat.le_of_ble_eq_true rfl | omega) only [AXS, AXB, J.dst, reduceIte, Nat.reduceEqDiff, Nat.reduceAdd, Nat.reduceMul, Nat.reduceLT, Nat.reduceLeDiff, f94r8])
    rw [f94c13_eq]
    refine loop_in (fun m σ h2 => h2 = h' ∧ ∃ (k : Nat) (n : Int), k + m = c.writes.length ∧ 0 ≤ n ∧ n ≤ 40000 ∧ σ = [(1, ptr b1 0), (3, vi n), (5, vi k)]) c.writes.length ⟨rfl, 0, n, by omega, by omega, by omega, rfl⟩ ?_
    clear hn0 hn1 n k
    rintro m σ h2 ⟨rfl, k, n, hk, hn0, hn1, rfl⟩ Q2 hnx2 hex2 hrt2 _
    rw [f94c14_eq]
    simp (config := { maxSteps := 1000000 }) (disch := first | exact Nat.le_of_ble_eq_true rfl | omega) only [AXJ, AXS, AXB, J.dst, reduceIte, Nat.reduceEqDiff, Nat.reduceAdd, Nat.reduceMul, Nat.reduceLT, Nat.reduceLeDiff, f94r9, B1.cel, eCm, hwn]
    try simp (config := { maxSteps := 1000000 }) (disch := first | exact Nat.le_of_ble_eq_true rfl | omega) only [AXS, AXB, J.dst, reduceIte, Nat.reduceEqDiff, Nat.reduceAdd, Nat.reduceMul, Nat.reduceLT, Nat.reduceLeDiff]
    (try simp (config := { maxSteps := 1000000 }) (disch := first | exact Nat.le_of_ble_eq_true rfl | omega) only [AXS, AXB, J.dst, reduceIte, Nat.reduceEqDiff, Nat.reduceAdd, Nat.reduceMul, Nat.reduceLT, Nat.reduceLeDiff]); rw [f94c15_eq]; (try simp (config := { maxSteps := 1000000 }) (disch := first | exact Nat.le_of_ble_eq_true rfl | omega) only [AXS, AXB, J.dst, reduceIte, Nat.reduceEqDiff, Nat.reduceAdd, Nat.reduceMul, Nat.reduceLT, Nat.reduceLeDiff])
    refine ⟨fun hh => ?_, fun hh => ?_⟩
    · have hh' : (k : Int) < c.writes.length ∧ n < 16384 := by simpa using hh
      obtain ⟨w, hx⟩ := get_ex (show k < c.writes.length by omega)
      obtain ⟨b', o, hsa, hBb, hrow⟩ := (C.writes.ext x1).elem eWri_len hx
      have hrow' := row_wri hrow
      try simp (config := { maxSteps := 1000000 }) (disch := first | exact Nat.le_of_ble_eq_true rfl | omega) only [AXS, AXB, J.dst, reduceIte, Nat.reduceEqDiff, Nat.reduceAdd, Nat.reduceMul, Nat.reduceLT, Nat.reduceLeDiff]
      rw [f94c16_eq, f94c17_eq]
      simp (config := { maxSteps := 1000000 }) (disch := first | exact Nat.le_of_ble_eq_true rfl | omega) only [AXJ, AXS, AXB, J.dst, reduceIte, Nat.reduceEqDiff, Nat.reduceAdd, Nat.reduceMul, Nat.reduceLT, Nat.reduceLeDiff, f94r10, B1.cel, eCm, hwn, hsa, hrow']
      refine ⟨by omega, by omega, fun _ => by omega, fun _ => by omega, ?_⟩
      (try simp (config := { maxSteps := 1000000 }) (disch := first | exact Nat.le_of_ble_eq_true rfl | omega) only [AXS, AXB, J.dst, reduceIte, Nat.reduceEqDiff, Nat.reduceAdd, Nat.reduceMul, Nat.reduceLT, Nat.reduceLeDiff]); rw [f94c18_eq]; (try simp (config := { maxSteps := 1000000 }) (disch := first | exact Nat.le_of_ble_eq_true rfl | omega) only [AXS, AXB, J.dst, reduceIte, Nat.reduceEqDiff, Nat.reduceAdd, Nat.reduceMul, Nat.reduceLT, Nat.reduceLeDiff])
      refine ⟨fun h8 => ?_, fun h8 => ?_⟩
      · (try simp (config := { maxSteps := 1000000 }) (disch := first | exact Nat.le_of_ble_eq_true rfl | omega) only [AXS, AXB, J.dst, reduceIte, Nat.reduceEqDiff, Nat.reduceAdd, Nat.reduceMul, Nat.reduceLT, Nat.reduceLeDiff]); rw [f94c19_eq]; (try simp (config := { maxSteps := 1000000 }) (disch := first | exact Nat.le_of_ble_eq_true rfl | omega) only [AXS, AXB, J.dst, reduceIte, Nat.reduceEqDiff, Nat.reduceAdd, Nat.reduceMul, Nat.reduceLT, Nat.reduceLeDiff, f94r11])
        refine hrt2 _ _ ?_
        try simp (config := { maxSteps := 1000000 }) (disch := first | exact Nat.le_of_ble_eq_true rfl | omega) only [AXS, AXB, J.dst, reduceIte, Nat.reduceEqDiff, Nat.reduceAdd, Nat.reduceMul, Nat.reduceLT, Nat.reduceLeDiff]
        exact hR false _ (fun h => by cases h) x1
      · have h8' : (w.key.size : Int) ≤ 8192 ∧ (w.data.size : Int) ≤ 8192 := by simpa using h8
        try simp (config := { maxSteps := 1000000 }) (disch := first | exact Nat.le_of_ble_eq_true rfl | omega) only [AXS, AXB, J.dst, reduceIte, Nat.reduceEqDiff, Nat.reduceAdd, Nat.reduceMul, Nat.reduceLT, Nat.reduceLeDiff]
        rw [f94c20_eq]
        refine drw_lt ?_
        simp (config := { maxSteps := 1000000 }) (disch := first | exact Nat.le_of_ble_eq_true rfl | omega) only [AXS, AXB, J.dst, reduceIte, Nat.reduceEqDiff, Nat.reduceAdd, Nat.reduceMul, Nat.reduceLT, Nat.reduceLeDiff, f94r12, B1.cel, eCm, hwn, hsa, hrow']
        have hb' := hrow.lt (by rw [eWri_len]; omega)
        have hb1' := B1.lt
        refine ⟨hb1', by omega, by omega, hb', hb1', by omega, by omega, hb', ?_⟩
        rw [i64_wrap (show (-9223372036854775808 : Int) ≤ n + w.key.size by omega) (by omega), i64_wrap (by omega) (by omega)]
        (try simp (config := { maxSteps := 1000000 }) (disch := first | exact Nat.le_of_ble_eq_true rfl | omega) only [AXS, AXB, J.dst, reduceIte, Nat.reduceEqDiff, Nat.reduceAdd, Nat.reduceMul, Nat.reduceLT, Nat.reduceLeDiff]); rw [f94c21_eq]; (try simp (config := { maxSteps := 1000000 }) (disch := first | exact Nat.le_of_ble_eq_true rfl | omega) only [AXS, AXB, J.dst, reduceIte, Nat.reduceEqDiff, Nat.reduceAdd, Nat.reduceMul, Nat.reduceLT, Nat.reduceLeDiff, f94r13])
        rw [i64_wrap (by omega) (by omega)]
        exact hnx2 (m - 1) _ _ (by omega) ⟨rfl, k + 1, n + w.key.size + w.data.size, by omega, by omega, by omega, rfl⟩
    · refine hex2 _ _ ?_
      try simp (config := { maxSteps := 1000000 }) (disch := first | exact Nat.le_of_ble_eq_true rfl | omega) only [AXS, AXB, J.dst, reduceIte, Nat.reduceEqDiff, Nat.reduceAdd, Nat.reduceMul, Nat.reduceLT, Nat.reduceLeDiff]
      rw [f94c22_eq]
      simp (config := { maxSteps := 1000000 }) (disch := first | exact Nat.le_of_ble_eq_true rfl | omega) only [AXJ, AXS, AXB, J.dst, reduceIte, Nat.reduceEqDiff, Nat.reduceAdd, Nat.reduceMul, Nat.reduceLT, Nat.reduceLeDiff, f94r14, B1.cel, eCm, hsn]
      simp (config := { maxSteps := 1000000 }) (disch := first | exact Nat.le_of_ble_eq_true rfl | omega) only [AXJ, AXS, AXB, J.dst, reduceIte, Nat.reduceEqDiff, Nat.reduceAdd, Nat.reduceMul, Nat.reduceLT, Nat.reduceLeDiff, f94r14a, f94r14b, B1.cel, eCm, hwn]
      generalize hcc : (decide (n < 8192) && decide ((c.spans.length : Int) < 100)) = cc
      cases cc with
      | false => rw [br_false]; exact hR false _ (fun h => by cases h) x1
      | true =>
        rw [br_true]
        refine hR _ _ (fun hw => ?_) x1
        simp only [Bool.and_eq_true, decide_eq_true_eq] at hcc hw
        exact ⟨by omega, by omega⟩
/-- Are commands not too many, too great? -/
def LightM (l : List Cmd) (most : Int) : Prop := (l.length : Int) ≤ most ∧ ∀ c ∈ l, Lt100 c
def LenM (l : List Cmd) : Prop := l.length ≤ maxLen ∧ ∀ c ∈ l, c.spans.length ≤ maxLen ∧ c.writes.length ≤ maxLen
theorem lightP_ok (l : List Cmd) (most : Int) (h : Heap) {B : Nat → Prop} {a : Option Addr} {n : Nat} (S : SlM B h a l) (F : LenM l) {R : Value → Heap → Prop}
    (hR : ∀ (b : Bool) h', (b = true → LightM l most) → Ext h h' → R (.bool b) h') : CallsH Try.prog 53 [.slice a l.length n, vi most] h R := by
  have F1 := F.1
  unfold maxLen at F1
  refine f53ok (by simp) ?_
  (try simp (config := { maxSteps := 1000000 }) (disch := first | exact Nat.le_of_ble_eq_true rfl | omega) only [AXS, AXB, J.dst, reduceIte, Nat.reduceEqDiff, Nat.reduceAdd, Nat.reduceMul, Nat.reduceLT, Nat.reduceLeDiff]); rw [f53c0_eq]; (try simp (config := { maxSteps := 1000000 }) (disch := first | exact Nat.le_of_ble_eq_true rfl | omega) only [AXS, AXB, J.dst, reduceIte, Nat.reduceEqDiff, Nat.reduceAdd, Nat.reduceMul, Nat.reduceLT, Nat.reduceLeDiff, f53r0]); rw [f53c1_eq]; (try simp (config := { maxSteps := 1000000 }) (disch := first | exact Nat.le_of_ble_eq_true rfl | omega) only [AXS, AXB, J.dst, reduceIte, Nat.reduceEqDiff, Nat.reduceAdd, Nat.reduceMul, Nat.reduceLT, Nat.reduceLeDiff, f53r1]); rw [f53c2_eq]; (try simp (config := { maxSteps := 1000000 }) (disch := first | exact Nat.le_of_ble_eq_true rfl | omega) only [AXS, AXB, J.dst, reduceIte, Nat.reduceEqDiff, Nat.reduceAdd, Nat.reduceMul, Nat.reduceLT, Nat.reduceLeDiff])
  refine ⟨fun hh => ?_, fun hh => ?_⟩
  · (try simp (config := { maxSteps := 1000000 }) (disch := first | exact Nat.le_of_ble_eq_true rfl | omega) only [AXS, AXB, J.dst, reduceIte, Nat.reduceEqDiff, Nat.reduceAdd, Nat.reduceMul, Nat.reduceLT, Nat.reduceLeDiff]); rw [f53c3_eq]; (try simp (config := { maxSteps := 1000000 }) (disch := first | exact Nat.le_of_ble_eq_true rfl | omega) only [AXS, AXB, J.dst, reduceIte, Nat.reduceEqDiff, Nat.reduceAdd, Nat.reduceMul, Nat.reduceLT, Nat.reduceLeDiff, f53r2])
    exact hR false h (fun h => by cases h) (Ext.refl h)
  · have hm : (l.length : Int) ≤ most := by have := of_decide_eq_false hh; omega
    clear hh
    (try simp (config := { maxSteps := 1000000 }) (disch := first | exact Nat.le_of_ble_eq_true rfl | omega) only [AXS, AXB, J.dst, reduceIte, Nat.reduceEqDiff, Nat.reduceAdd, Nat.reduceMul, Nat.reduceLT, Nat.reduceLeDiff]); rw [f53c4_eq]; (try simp (config := { maxSteps := 1000000 }) (disch := first | exact Nat.le_of_ble_eq_true rfl | omega) only [AXS, AXB, J.dst, reduceIte, Nat.reduceEqDiff, Nat.reduceAdd, Nat.reduceMul, Nat.reduceLT, Nat.reduceLeDiff, f53r3])
    rw [f53c5_eq]
    refine loop_in (fun m σ h' => Ext h h' ∧ ∃ k : Nat, k + m = l.length ∧ (∀ j c, j < k → l[j]? = some c → Lt100 c) ∧ σ = [(0, .slice a l.length n), (5, vi k)]) l.length ⟨Ext.refl h, 0, by omega, by intros; omega, rfl⟩ ?_
    rintro m σ h1 ⟨x1, k, hk, hj, rfl⟩ Q' hnx hex hrt _
    (try simp (config := { maxSteps := 1000000 }) (disch := first | exact Nat.le_of_ble_eq_true rfl | omega) only [AXS, AXB, J.dst, reduceIte, Nat.reduceEqDiff, Nat.reduceAdd, Nat.reduceMul, Nat.reduceLT, Nat.reduceLeDiff]); rw [f53c6_eq]; (try simp (config := { maxSteps := 1000000 }) (disch := first | exact Nat.le_of_ble_eq_true rfl | omega) only [AXS, AXB, J.dst, reduceIte, Nat.reduceEqDiff, Nat.reduceAdd, Nat.reduceMul, Nat.reduceLT, Nat.reduceLeDiff, f53r4]); rw [f53c7_eq]; (try simp (config := { maxSteps := 1000000 }) (disch := first | exact Nat.le_of_ble_eq_true rfl | omega) only [AXS, AXB, J.dst, reduceIte, Nat.reduceEqDiff, Nat.reduceAdd, Nat.reduceMul, Nat.reduceLT, Nat.reduceLeDiff])
    refine ⟨fun hh => ?_, fun hh => ?_⟩
    · have hkl : k < l.length := by have := of_decide_eq_true hh; omega
      obtain ⟨c, hx⟩ := get_ex hkl
      obtain ⟨b', o, v, rfl, _, hrow, hcr⟩ := (S.ext x1).elem hx
      try simp (config := { maxSteps := 1000000 }) (disch := first | exact Nat.le_of_ble_eq_true rfl | omega) only [AXS, AXB, J.dst, reduceIte, Nat.reduceEqDiff, Nat.reduceAdd, Nat.reduceMul, Nat.reduceLT, Nat.reduceLeDiff]
      rw [f53c8_eq]
      (try simp (config := { maxSteps := 1000000 }) (disch := first | exact Nat.le_of_ble_eq_true rfl | omega) only [AXS, AXB, J.dst, reduceIte, Nat.reduceEqDiff, Nat.reduceAdd, Nat.reduceMul, Nat.reduceLT, Nat.reduceLeDiff]); rw [f53c9_eq]; (try simp (config := { maxSteps := 1000000 }) (disch := first | exact Nat.le_of_ble_eq_true rfl | omega) only [AXS, AXB, J.dst, reduceIte, Nat.reduceEqDiff, Nat.reduceAdd, Nat.reduceMul, Nat.reduceLT, Nat.reduceLeDiff, f53r5, row_cm hrow])
      refine ⟨by omega, by omega, ?_⟩
      have hF := F.2 c (List.mem_of_getElem? hx)
      refine lightM_ok v c _ hcr hF.1 hF.2 ?_
      intro b h2 hb x2
      refine ⟨trivial, ?_⟩
      (try simp (config := { maxSteps := 1000000 }) (disch := first | exact Nat.le_of_ble_eq_true rfl | omega) only [AXS, AXB, J.dst, reduceIte, Nat.reduceEqDiff, Nat.reduceAdd, Nat.reduceMul, Nat.reduceLT, Nat.reduceLeDiff]); rw [f53c10_eq]; (try simp (config := { maxSteps := 1000000 }) (disch := first | exact Nat.le_of_ble_eq_true rfl | omega) only [AXS, AXB, J.dst, reduceIte, Nat.reduceEqDiff, Nat.reduceAdd, Nat.reduceMul, Nat.reduceLT, Nat.reduceLeDiff])
      refine ⟨fun h4 => ?_, fun h4 => ?_⟩
      · (try simp (config := { maxSteps := 1000000 }) (disch := first | exact Nat.le_of_ble_eq_true rfl | omega) only [AXS, AXB, J.dst, reduceIte, Nat.reduceEqDiff, Nat.reduceAdd, Nat.reduceMul, Nat.reduceLT, Nat.reduceLeDiff]); rw [f53c11_eq]; (try simp (config := { maxSteps := 1000000 }) (disch := first | exact Nat.le_of_ble_eq_true rfl | omega) only [AXS, AXB, J.dst, reduceIte, Nat.reduceEqDiff, Nat.reduceAdd, Nat.reduceMul, Nat.reduceLT, Nat.reduceLeDiff, f53r6])
        refine hrt _ _ ?_
        try simp (config := { maxSteps := 1000000 }) (disch := first | exact Nat.le_of_ble_eq_true rfl | omega) only [AXS, AXB, J.dst, reduceIte, Nat.reduceEqDiff, Nat.reduceAdd, Nat.reduceMul, Nat.reduceLT, Nat.reduceLeDiff]
        exact hR false _ (fun h => by cases h) (x1.trans x2)
      · have hb' : b = true := by simpa using h4
        (try simp (config := { maxSteps := 1000000 }) (disch := first | exact Nat.le_of_ble_eq_true rfl | omega) only [AXS, AXB, J.dst, reduceIte, Nat.reduceEqDiff, Nat.reduceAdd, Nat.reduceMul, Nat.reduceLT, Nat.reduceLeDiff]); rw [f53c12_eq]; (try simp (config := { maxSteps := 1000000 }) (disch := first | exact Nat.le_of_ble_eq_true rfl | omega) only [AXS, AXB, J.dst, reduceIte, Nat.reduceEqDiff, Nat.reduceAdd, Nat.reduceMul, Nat.reduceLT, Nat.reduceLeDiff, f53r7])
        rw [i64_wrap (by omega) (by omega)]
        refine hnx (m - 1) _ _ (by omega) ⟨x1.trans x2, k + 1, by omega, ?_, rfl⟩
        intro j c' hjk hc'
        rcases Nat.lt_or_ge j k with hlt | hge
        · exact hj j c' hlt hc'
        · have : j = k := by omega
          subst this
          rw [hx] at hc'; cases hc'; exact hb hb'
    · have hkl : k = l.length := by have := of_decide_eq_false hh; omega
      refine hex _ _ ?_
      (try simp (config := { maxSteps := 1000000 }) (disch := first | exact Nat.le_of_ble_eq_true rfl | omega) only [AXS, AXB, J.dst, reduceIte, Nat.reduceEqDiff, Nat.reduceAdd, Nat.reduceMul, Nat.reduceLT, Nat.reduceLeDiff]); rw [f53c13_eq]; (try simp (config := { maxSteps := 1000000 }) (disch := first | exact Nat.le_of_ble_eq_true rfl | omega) only [AXS, AXB, J.dst, reduceIte, Nat.reduceEqDiff, Nat.reduceAdd, Nat.reduceMul, Nat.reduceLT, Nat.reduceLeDiff, f53r8])
      refine hR true _ (fun _ => ⟨hm, fun c hc => ?_⟩) x1
      obtain ⟨j, hjl, rfl⟩ := List.mem_iff_getElem.1 hc
      exact hj j _ (by omega) (List.getElem?_eq_getElem hjl)
end Go.Proofs.Ytefghfgmkndikaa
namespace Go.AX
open Go
/-- Parts in a row of the call's own, their lists apart from it. -/
def OwnP (lo : Nat) (h : Heap) (a : Option Addr) (n c : Nat) (ps : List Prt) : Prop :=
  ∃ vs, Own lo h 116 9 a n c (vs.flatMap ePr) ∧ n = ps.length ∧ All2 (PrR (fun b => lo ≤ b ∧ b < h.size ∧ some b ≠ ob a) h) vs ps
theorem PrR.to {B B' : Nat → Prop} {h h' : Heap} {v : PrV} {p : Prt} (r : PrR B h v p) (H : ∀ b, B b → B' b ∧ h'[b]? = h[b]?) : PrR B' h' v p :=
  ⟨r.s, r.cn, r.cc, r.rn, r.dn, (let ⟨vs, h1, h2⟩ := r.cells; ⟨vs, h1.imp fun _ _ r => r.to H, h2.to H⟩), r.records.to H, r.done.to H⟩
theorem OwnP.ext {lo : Nat} {h h' : Heap} {a : Option Addr} {n c : Nat} {ps : List Prt} (O : OwnP lo h a n c ps) (x : Ext h h') : OwnP lo h' a n c ps := by
  obtain ⟨vs, h1, h2, h3⟩ := O
  exact ⟨vs, h1.ext x, h2, h3.imp fun _ _ r => r.to fun b hb => ⟨⟨hb.1, Nat.lt_of_lt_of_le hb.2.1 x.size, hb.2.2⟩, x.at_ b hb.2.1⟩⟩
theorem OwnP.ob {lo : Nat} {h : Heap} {a : Option Addr} {n c : Nat} {ps : List Prt} (O : OwnP lo h a n c ps) : ∀ k, ob a = some k → lo ≤ k ∧ k < h.size := by
  obtain ⟨vs, h1, _⟩ := O
  exact h1.ob
theorem OwnP.elem {lo : Nat} {h : Heap} {a : Option Addr} {n c : Nat} {ps : List Prt} (O : OwnP lo h a n c ps) {i : Nat} {p : Prt} (hi : ps[i]? = some p) : ∃ b o v, a = some ⟨b, o, none⟩ ∧ Row h b (o + i * 9) (ePr v) ∧ PrR (fun b => lo ≤ b ∧ b < h.size) h v p := by
  obtain ⟨vs, h1, h2, h3⟩ := O
  obtain ⟨v, hv, hr⟩ := h3.get hi
  obtain ⟨b, o, e1, e2, e3⟩ := (SlF.of_own h1 (by rw [h2, h3.length])).elem ePr_len hv
  exact ⟨b, o, v, e1, e3, hr.imp fun b hb => ⟨hb.1, hb.2.1⟩⟩
theorem row_pr {h : Heap} {b o : Nat} {v : PrV} (r : Row h b o (ePr v)) : rd h b o 9 = some (ePr v) := r.rd0 9 (Nat.le_refl _)
theorem OwnP.push {lo : Nat} {h h' : Heap} {a a' : Option Addr} {n c' : Nat} {ps : List Prt} {v : PrV} {x : Prt} {vs : List PrV} (h2 : n = ps.length) (h3 : All2 (PrR (fun b => lo ≤ b ∧ b < h.size ∧ some b ≠ AX.ob a) h) vs ps)
    (r : PrR (fun b => lo ≤ b ∧ b < h.size ∧ some b ≠ AX.ob a) h v x) (O : Own lo h' 116 9 a' (n + 1) c' (vs.flatMap ePr ++ ePr v)) (G : Gr (AX.ob a) h h') (A : AX.ob a' = AX.ob a ∨ ∃ k, AX.ob a' = some k ∧ h.size ≤ k) : OwnP lo h' a' (n + 1) c' (ps ++ [x]) := by
  have hto : ∀ b, (lo ≤ b ∧ b < h.size ∧ some b ≠ AX.ob a) → (lo ≤ b ∧ b < h'.size ∧ some b ≠ AX.ob a') ∧ h'[b]? = h[b]? := by
    rintro b ⟨b1, b2, b3⟩
    refine ⟨⟨b1, Nat.lt_of_lt_of_le b2 G.size, ?_⟩, G.at_ b b2 b3⟩
    rcases A with e | ⟨k, e, hk⟩
    · rw [e]; exact b3
    · rw [e]; intro e'; cases e'; omega
  refine ⟨vs ++ [v], ?_, by simp [h2], (h3.imp fun _ _ r => r.to hto).append (.cons (r.to hto) .nil)⟩
  rw [List.flatMap_append]
  simpa using O
end Go.AX
namespace Go.Proofs.Ytefghfgmkndikaa
open Go Go.AX
theorem slT130 : slT Try.prog 130 116 9 120 = true := by kernel_rfl
/-- The states of a run. -/
def allP (l : List Cmd) (k : Nat) : List Prt := (List.range (k + 1)).map fun i => runP (l.take i)
theorem allP_at {l : List Cmd} {k i : Nat} (h : i ≤ k) : (allP l k)[i]? = some (runP (l.take i)) := by simp [allP, List.getElem?_map, List.getElem?_range (show i < k + 1 by omega)]
theorem allP_len (l : List Cmd) (k : Nat) : (allP l k).length = k + 1 := by simp [allP]
theorem allP_succ (l : List Cmd) (k : Nat) : allP l (k + 1) = allP l k ++ [runP (l.take (k + 1))] := by unfold allP; rw [List.range_succ, List.map_append]; (try rfl)
theorem run_succ {l : List Cmd} {k : Nat} {c : Cmd} (h : l[k]? = some c) : runP (l.take (k + 1)) = stepP (runP (l.take k)) c := by
  unfold runP; rw [List.take_add_one, h]; simp [List.foldl_append]
theorem take_lt {l : List Cmd} (h : ∀ c ∈ l, Lt100 c) (k : Nat) : ∀ c ∈ l.take k, Lt100 c := fun c hc => h c (List.mem_of_mem_take hc)
theorem runs_good {l : List Cmd} (h : ∀ c ∈ l, Lt100 c) (k : Nat) (hk : k ≤ l.length) : GdP (100 * k) (runP (l.take k)) := by
  have := runG (l.take k) emptyG (take_lt h k)
  rw [List.length_take, Nat.min_eq_left hk, Nat.zero_add] at this
  exact this
set_option maxHeartbeats 1000000 in
theorem run_ok (l : List Cmd) (h : Heap) {B : Nat → Prop} {a : Option Addr} {n : Nat} (S : SlM B h a l) (F : ∀ c ∈ l, Lt100 c) (hl : l.length ≤ 1000) {R : Value → Heap → Prop}
    (hR : ∀ a' c' h', OwnP h.size h' a' (l.length + 1) c' (allP l l.length) → Ext h h' → R (.slice a' (l.length + 1) c') h') : CallsH Try.prog 65 [.slice a l.length n] h R := by
  have hbig : big = 1000000 := rfl
  refine f65ok (by simp) ?_
  (try simp (config := { maxSteps := 1000000 }) (disch := first | exact Nat.le_of_ble_eq_true rfl | omega) only [AXS, AXB, J.dst, reduceIte, Nat.reduceEqDiff, Nat.reduceAdd, Nat.reduceMul, Nat.reduceLT, Nat.reduceLeDiff]); rw [f65c0_eq]; (try simp (config := { maxSteps := 1000000 }) (disch := first | exact Nat.le_of_ble_eq_true rfl | omega) only [AXS, AXB, J.dst, reduceIte, Nat.reduceEqDiff, Nat.reduceAdd, Nat.reduceMul, Nat.reduceLT, Nat.reduceLeDiff, f65r0]); rw [f65c1_eq]; (try simp (config := { maxSteps := 1000000 }) (disch := first | exact Nat.le_of_ble_eq_true rfl | omega) only [AXS, AXB, J.dst, reduceIte, Nat.reduceEqDiff, Nat.reduceAdd, Nat.reduceMul, Nat.reduceLT, Nat.reduceLeDiff, f65r1])
  refine wL_bslN rfl ?_; rintro b1 h1 x1 s1 hb1 (B1 : Blk _ _ _ (ePr ⟨⟨0, 0, ⟨0, 0⟩, 0, 0⟩, none, 0, 0, none, 0, 0, none, 0, 0⟩))
  (try simp (config := { maxSteps := 1000000 }) (disch := first | exact Nat.le_of_ble_eq_true rfl | omega) only [AXS, AXB, J.dst, reduceIte, Nat.reduceEqDiff, Nat.reduceAdd, Nat.reduceMul, Nat.reduceLT, Nat.reduceLeDiff]); rw [f65c2_eq]; (try simp (config := { maxSteps := 1000000 }) (disch := first | exact Nat.le_of_ble_eq_true rfl | omega) only [AXS, AXB, J.dst, reduceIte, Nat.reduceEqDiff, Nat.reduceAdd, Nat.reduceMul, Nat.reduceLT, Nat.reduceLeDiff, f65r2])
  have O1 : OwnP h.size h1 (some ⟨b1, 0, none⟩) 1 1 (allP l 0) := by
    refine ⟨[⟨⟨0, 0, ⟨0, 0⟩, 0, 0⟩, none, 0, 0, none, 0, 0, none, 0, 0⟩], Own.of_blk (by omega) B1 (by simp [ePr_len]) (Nat.le_refl _) (by decide) (by simp [ePr]), rfl, .cons ⟨rfl, rfl, Nat.le_refl _, rfl, rfl, ⟨[], .nil, .nil⟩, .nil, .nil⟩ .nil⟩
  rw [f65c3_eq]
  refine loop_in (fun m σ h' => Ext h h' ∧ ∃ (k c' : Nat) (a' : Option Addr), k + m = l.length ∧ OwnP h.size h' a' (k + 1) c' (allP l k) ∧ σ = [(0, .slice a l.length n), (3, .slice a' (k + 1 : Nat) c'), (4, vi k)]) l.length
    ⟨x1, 0, 1, _, by omega, O1, rfl⟩ ?_
  rintro m σ h2 ⟨x2, k, c', a', hk, O, rfl⟩ Q' hnx hex hrt _
  (try simp (config := { maxSteps := 1000000 }) (disch := first | exact Nat.le_of_ble_eq_true rfl | omega) only [AXS, AXB, J.dst, reduceIte, Nat.reduceEqDiff, Nat.reduceAdd, Nat.reduceMul, Nat.reduceLT, Nat.reduceLeDiff]); rw [f65c4_eq]; (try simp (config := { maxSteps := 1000000 }) (disch := first | exact Nat.le_of_ble_eq_true rfl | omega) only [AXS, AXB, J.dst, reduceIte, Nat.reduceEqDiff, Nat.reduceAdd, Nat.reduceMul, Nat.reduceLT, Nat.reduceLeDiff, f65r3]); rw [f65c5_eq]; (try simp (config := { maxSteps := 1000000 }) (disch := first | exact Nat.le_of_ble_eq_true rfl | omega) only [AXS, AXB, J.dst, reduceIte, Nat.reduceEqDiff, Nat.reduceAdd, Nat.reduceMul, Nat.reduceLT, Nat.reduceLeDiff])
  refine ⟨fun hh => ?_, fun hh => ?_⟩
  · have hkl : k < l.length := by have := of_decide_eq_true hh; omega
    obtain ⟨c, hx⟩ := get_ex hkl
    obtain ⟨b', o, cv, rfl, _, hrow, hcr⟩ := (S.ext x2).elem hx
    obtain ⟨b3, o3, pv, rfl, hrow3, hpr⟩ := O.elem (allP_at (Nat.le_refl k))
    try simp (config := { maxSteps := 1000000 }) (disch := first | exact Nat.le_of_ble_eq_true rfl | omega) only [AXS, AXB, J.dst, reduceIte, Nat.reduceEqDiff, Nat.reduceAdd, Nat.reduceMul, Nat.reduceLT, Nat.reduceLeDiff]
    rw [f65c6_eq]
    have hw : IntKind.i64.wrap (((k + 1 : Nat) : Int) - 1) = (k : Int) := by rw [i64_wrap (by omega) (by omega)]; omega
    (try simp (config := { maxSteps := 1000000 }) (disch := first | exact Nat.le_of_ble_eq_true rfl | omega) only [AXS, AXB, J.dst, reduceIte, Nat.reduceEqDiff, Nat.reduceAdd, Nat.reduceMul, Nat.reduceLT, Nat.reduceLeDiff]); rw [f65c7_eq]; (try simp (config := { maxSteps := 1000000 }) (disch := first | exact Nat.le_of_ble_eq_true rfl | omega) only [AXS, AXB, J.dst, reduceIte, Nat.reduceEqDiff, Nat.reduceAdd, Nat.reduceMul, Nat.reduceLT, Nat.reduceLeDiff, f65r4, hw, row_pr hrow3])
    refine ⟨by omega, by omega, ?_⟩
    refine wL_newN ?_; rintro b5 h3 x3 s3 hb5 B5
    try simp (config := { maxSteps := 1000000 }) (disch := first | exact Nat.le_of_ble_eq_true rfl | omega) only [AXS, AXB, J.dst, reduceIte, Nat.reduceEqDiff, Nat.reduceAdd, Nat.reduceMul, Nat.reduceLT, Nat.reduceLeDiff]
    refine wL_stN rfl rfl rfl B5 (by decide) (ePr_one pv) ?_
    rintro h4 u4 (B4 : Blk _ _ _ (ePr pv))
    have x24 := u4.ext x3 (by omega)
    have x4 := x2.trans x24
    have y4 := x24.size
    have hpr4 := hpr.ext x24
    have hcr4 := hcr.ext x24
    have hrow4 := hrow.ext x24
    have hg := runs_good F k (by omega)
    have app : ∀ hz b6 pv', Ext h4 hz → Blk hz b6 116 (ePr pv') → PrR (fun b => h4.size ≤ b ∧ b < hz.size) hz pv' (stepP (runP (l.take k)) c) →
        wC Try.prog f65c9 (X.inBlock 1 (X.then (fun σ h => wC Try.prog f65c10 Q' σ h) Q')) [(0, .slice (some ⟨b', o, none⟩) l.length n), (3, .slice (some ⟨b3, o3, none⟩) (k + 1 : Nat) c'), (4, vi k), (6, ptr b6 0)] hz := by
      intro hz b6 pv' xz B6 P6
      have xa := x4.trans xz
      have ya := xa.size
      have yz := xz.size
      have hO := O.ob
      obtain ⟨vs, h1', h2', h3'⟩ := O.ext (x24.trans xz)
      (try simp (config := { maxSteps := 1000000 }) (disch := first | exact Nat.le_of_ble_eq_true rfl | omega) only [AXS, AXB, J.dst, reduceIte, Nat.reduceEqDiff, Nat.reduceAdd, Nat.reduceMul, Nat.reduceLT, Nat.reduceLeDiff]); rw [f65c9_eq]; (try simp (config := { maxSteps := 1000000 }) (disch := first | exact Nat.le_of_ble_eq_true rfl | omega) only [AXS, AXB, J.dst, reduceIte, Nat.reduceEqDiff, Nat.reduceAdd, Nat.reduceMul, Nat.reduceLT, Nat.reduceLeDiff, f65r6, B6.rd, ePr])
      refine wL_bslN rfl ?_; rintro b7 h7 x7 s7 hb7 (B7 : Blk _ _ _ (ePr pv'))
      try simp (config := { maxSteps := 1000000 }) (disch := first | exact Nat.le_of_ble_eq_true rfl | omega) only [AXS, AXB, J.dst, reduceIte, Nat.reduceEqDiff, Nat.reduceAdd, Nat.reduceMul, Nat.reduceLT, Nat.reduceLeDiff]
      rw [wL_raw]
      refine raw_append slT130 rfl rfl rfl (h1'.ext x7) (news := ePr pv') (by rw [ePr_len]) (.inr ⟨b7, 0, rfl, B7.row⟩) (ePr_one _) (by unfold maxLen; omega) (by omega) (by have := x7.size; omega) ?_
      intro a8 c8 h8 O8 G8 A8
      refine ⟨trivial, ?_⟩
      have hb3 := hO b3 rfl
      have OP := OwnP.push (by rw [allP_len]) (h3'.imp fun _ _ r => r.to (B' := fun b => h.size ≤ b ∧ b < h7.size ∧ some b ≠ ob (some ⟨b3, o3, none⟩)) fun b hb => ⟨⟨hb.1, Nat.lt_of_lt_of_le hb.2.1 x7.size, hb.2.2⟩, x7.at_ b hb.2.1⟩)
        (P6.to (B' := fun b => h.size ≤ b ∧ b < h7.size ∧ some b ≠ ob (some ⟨b3, o3, none⟩)) fun b hb => ⟨⟨by omega, by omega, fun e => absurd (show b = b3 by simpa [AX.ob] using e) (by omega)⟩, x7.at_ b hb.2⟩) O8 G8 A8
      rw [← run_succ hx, ← allP_succ] at OP
      (try simp (config := { maxSteps := 1000000 }) (disch := first | exact Nat.le_of_ble_eq_true rfl | omega) only [AXS, AXB, J.dst, reduceIte, Nat.reduceEqDiff, Nat.reduceAdd, Nat.reduceMul, Nat.reduceLT, Nat.reduceLeDiff]); rw [f65c10_eq]; (try simp (config := { maxSteps := 1000000 }) (disch := first | exact Nat.le_of_ble_eq_true rfl | omega) only [AXS, AXB, J.dst, reduceIte, Nat.reduceEqDiff, Nat.reduceAdd, Nat.reduceMul, Nat.reduceLT, Nat.reduceLeDiff, f65r7])
      rw [i64_wrap (by omega) (by omega)]
      exact hnx (m - 1) _ _ (by omega) ⟨G8.ext (xa.trans x7) (fun j hj => by cases hj; exact hb3.1), k + 1, c8, a8, by omega, OP, rfl⟩
    have X := Ext.refl h4
    have hb5 := B4.lt
    have hb'l := hrow4.lt (by rw [eCm_len]; omega)
    have hL := F c (List.mem_of_getElem? hx)
    have hnw : 100 * k + (ownM (runP (l.take k)) c).writes.length ≤ 900000 := by have := hL.2; show 100 * k + c.writes.length ≤ _; omega
    have hsp : (ownM (runP (l.take k)) c).spans.length ≤ big := by have := hL.1; show c.spans.length ≤ _; omega
    try simp (config := { maxSteps := 1000000 }) (disch := first | exact Nat.le_of_ble_eq_true rfl | omega) only [AXS, AXB, J.dst, reduceIte, Nat.reduceEqDiff, Nat.reduceAdd, Nat.reduceMul, Nat.reduceLT, Nat.reduceLeDiff]
    rw [f65c8_eq]
    refine drt_lt ?_
    simp only [f65r5, wT_one, wT_alt, wT_nil]
    simp (config := { maxSteps := 1000000 }) (disch := first | exact Nat.le_of_ble_eq_true rfl | omega) only [AXS, AXB, J.dst, reduceIte, Nat.reduceEqDiff, Nat.reduceAdd, Nat.reduceMul, Nat.reduceLT, Nat.reduceLeDiff, B4.rd, ePr, row_cm hrow4]
    refine ⟨hb5, hb5, by omega, by omega, hb'l, ?_⟩
    all_goals try (with_reducible refine And.intro ?_ ?_)
    all_goals try (with_reducible refine And.intro ?_ ?_)
    all_goals try (with_reducible refine And.intro ?_ ?_)
    all_goals first
      | (refine own_okP pv _ cv c false _ hpr.s (hcr4.ext X) hg.e0 hg.e1 ?_; intro cv' hy C' ey; refine ⟨kp_ext X.size ey, ?_⟩; have zy := ey.size; (try replace B6 := B6.ext ey); (try replace B7 := B7.ext ey); replace X := X.trans ey; (try simp (config := { maxSteps := 1000000 }) (disch := first | exact Nat.le_of_ble_eq_true rfl | omega) only [AXS, AXB, J.dst, reduceIte, Nat.reduceEqDiff, Nat.reduceAdd, Nat.reduceMul, Nat.reduceLT, Nat.reduceLeDiff]))
      | (refine apply_ok (n := 100 * k) pv _ cv' (ownM (runP (l.take k)) c) _ (hpr4.ext X) C' hg.sz hnw hsp hg.e0 ?_; intro pv' rv hy O' K' ey; refine ⟨kp_ext X.size ey, ?_⟩; have zy := ey.size; have P' := O'.prr; (try replace B6 := B6.ext ey); (try replace B7 := B7.ext ey); replace X := X.trans ey; (try simp (config := { maxSteps := 1000000 }) (disch := first | exact Nat.le_of_ble_eq_true rfl | omega) only [AXS, AXB, J.dst, reduceIte, Nat.reduceEqDiff, Nat.reduceAdd, Nat.reduceMul, Nat.reduceLT, Nat.reduceLeDiff]))
      | (refine wL_newD (t := 116) X.size ?_; rintro b6 hy ey sy hb6 B6; have zy := ey.size; (try replace B7 := B7.ext ey); (try replace C' := C'.ext ey); (try replace P' := P'.ext ey); replace X := X.trans ey; (try simp (config := { maxSteps := 1000000 }) (disch := first | exact Nat.le_of_ble_eq_true rfl | omega) only [AXS, AXB, J.dst, reduceIte, Nat.reduceEqDiff, Nat.reduceAdd, Nat.reduceMul, Nat.reduceLT, Nat.reduceLeDiff]))
      | (refine wL_newD (t := 47) X.size ?_; rintro b7 hy ey sy hb7 B7; have zy := ey.size; (try replace B6 := B6.ext ey); (try replace C' := C'.ext ey); (try replace P' := P'.ext ey); replace X := X.trans ey; (try simp (config := { maxSteps := 1000000 }) (disch := first | exact Nat.le_of_ble_eq_true rfl | omega) only [AXS, AXB, J.dst, reduceIte, Nat.reduceEqDiff, Nat.reduceAdd, Nat.reduceMul, Nat.reduceLT, Nat.reduceLeDiff]))
    all_goals try (with_reducible refine And.intro ?_ ?_)
    all_goals try (with_reducible refine And.intro ?_ ?_)
    all_goals try (with_reducible refine And.intro ?_ ?_)
    all_goals first
      | (refine own_okP pv _ cv c false _ hpr.s (hcr4.ext X) hg.e0 hg.e1 ?_; intro cv' hy C' ey; refine ⟨kp_ext X.size ey, ?_⟩; have zy := ey.size; (try replace B6 := B6.ext ey); (try replace B7 := B7.ext ey); replace X := X.trans ey; (try simp (config := { maxSteps := 1000000 }) (disch := first | exact Nat.le_of_ble_eq_true rfl | omega) only [AXS, AXB, J.dst, reduceIte, Nat.reduceEqDiff, Nat.reduceAdd, Nat.reduceMul, Nat.reduceLT, Nat.reduceLeDiff]))
      | (refine apply_ok (n := 100 * k) pv _ cv' (ownM (runP (l.take k)) c) _ (hpr4.ext X) C' hg.sz hnw hsp hg.e0 ?_; intro pv' rv hy O' K' ey; refine ⟨kp_ext X.size ey, ?_⟩; have zy := ey.size; have P' := O'.prr; (try replace B6 := B6.ext ey); (try replace B7 := B7.ext ey); replace X := X.trans ey; (try simp (config := { maxSteps := 1000000 }) (disch := first | exact Nat.le_of_ble_eq_true rfl | omega) only [AXS, AXB, J.dst, reduceIte, Nat.reduceEqDiff, Nat.reduceAdd, Nat.reduceMul, Nat.reduceLT, Nat.reduceLeDiff]))
      | (refine wL_newD (t := 116) X.size ?_; rintro b6 hy ey sy hb6 B6; have zy := ey.size; (try replace B7 := B7.ext ey); (try replace C' := C'.ext ey); (try replace P' := P'.ext ey); replace X := X.trans ey; (try simp (config := { maxSteps := 1000000 }) (disch := first | exact Nat.le_of_ble_eq_true rfl | omega) only [AXS, AXB, J.dst, reduceIte, Nat.reduceEqDiff, Nat.reduceAdd, Nat.reduceMul, Nat.reduceLT, Nat.reduceLeDiff]))
      | (refine wL_newD (t := 47) X.size ?_; rintro b7 hy ey sy hb7 B7; have zy := ey.size; (try replace B6 := B6.ext ey); (try replace C' := C'.ext ey); (try replace P' := P'.ext ey); replace X := X.trans ey; (try simp (config := { maxSteps := 1000000 }) (disch := first | exact Nat.le_of_ble_eq_true rfl | omega) only [AXS, AXB, J.dst, reduceIte, Nat.reduceEqDiff, Nat.reduceAdd, Nat.reduceMul, Nat.reduceLT, Nat.reduceLeDiff]))
    all_goals try (with_reducible refine And.intro ?_ ?_)
    all_goals try (with_reducible refine And.intro ?_ ?_)
    all_goals try (with_reducible refine And.intro ?_ ?_)
    all_goals first
      | (refine own_okP pv _ cv c false _ hpr.s (hcr4.ext X) hg.e0 hg.e1 ?_; intro cv' hy C' ey; refine ⟨kp_ext X.size ey, ?_⟩; have zy := ey.size; (try replace B6 := B6.ext ey); (try replace B7 := B7.ext ey); replace X := X.trans ey; (try simp (config := { maxSteps := 1000000 }) (disch := first | exact Nat.le_of_ble_eq_true rfl | omega) only [AXS, AXB, J.dst, reduceIte, Nat.reduceEqDiff, Nat.reduceAdd, Nat.reduceMul, Nat.reduceLT, Nat.reduceLeDiff]))
      | (refine apply_ok (n := 100 * k) pv _ cv' (ownM (runP (l.take k)) c) _ (hpr4.ext X) C' hg.sz hnw hsp hg.e0 ?_; intro pv' rv hy O' K' ey; refine ⟨kp_ext X.size ey, ?_⟩; have zy := ey.size; have P' := O'.prr; (try replace B6 := B6.ext ey); (try replace B7 := B7.ext ey); replace X := X.trans ey; (try simp (config := { maxSteps := 1000000 }) (disch := first | exact Nat.le_of_ble_eq_true rfl | omega) only [AXS, AXB, J.dst, reduceIte, Nat.reduceEqDiff, Nat.reduceAdd, Nat.reduceMul, Nat.reduceLT, Nat.reduceLeDiff]))
      | (refine wL_newD (t := 116) X.size ?_; rintro b6 hy ey sy hb6 B6; have zy := ey.size; (try replace B7 := B7.ext ey); (try replace C' := C'.ext ey); (try replace P' := P'.ext ey); replace X := X.trans ey; (try simp (config := { maxSteps := 1000000 }) (disch := first | exact Nat.le_of_ble_eq_true rfl | omega) only [AXS, AXB, J.dst, reduceIte, Nat.reduceEqDiff, Nat.reduceAdd, Nat.reduceMul, Nat.reduceLT, Nat.reduceLeDiff]))
      | (refine wL_newD (t := 47) X.size ?_; rintro b7 hy ey sy hb7 B7; have zy := ey.size; (try replace B6 := B6.ext ey); (try replace C' := C'.ext ey); (try replace P' := P'.ext ey); replace X := X.trans ey; (try simp (config := { maxSteps := 1000000 }) (disch := first | exact Nat.le_of_ble_eq_true rfl | omega) only [AXS, AXB, J.dst, reduceIte, Nat.reduceEqDiff, Nat.reduceAdd, Nat.reduceMul, Nat.reduceLT, Nat.reduceLeDiff]))
    all_goals try (with_reducible refine And.intro ?_ ?_)
    all_goals try (with_reducible refine And.intro ?_ ?_)
    all_goals try (with_reducible refine And.intro ?_ ?_)
    all_goals first
      | (refine own_okP pv _ cv c false _ hpr.s (hcr4.ext X) hg.e0 hg.e1 ?_; intro cv' hy C' ey; refine ⟨kp_ext X.size ey, ?_⟩; have zy := ey.size; (try replace B6 := B6.ext ey); (try replace B7 := B7.ext ey); replace X := X.trans ey; (try simp (config := { maxSteps := 1000000 }) (disch := first | exact Nat.le_of_ble_eq_true rfl | omega) only [AXS, AXB, J.dst, reduceIte, Nat.reduceEqDiff, Nat.reduceAdd, Nat.reduceMul, Nat.reduceLT, Nat.reduceLeDiff]))
      | (refine apply_ok (n := 100 * k) pv _ cv' (ownM (runP (l.take k)) c) _ (hpr4.ext X) C' hg.sz hnw hsp hg.e0 ?_; intro pv' rv hy O' K' ey; refine ⟨kp_ext X.size ey, ?_⟩; have zy := ey.size; have P' := O'.prr; (try replace B6 := B6.ext ey); (try replace B7 := B7.ext ey); replace X := X.trans ey; (try simp (config := { maxSteps := 1000000 }) (disch := first | exact Nat.le_of_ble_eq_true rfl | omega) only [AXS, AXB, J.dst, reduceIte, Nat.reduceEqDiff, Nat.reduceAdd, Nat.reduceMul, Nat.reduceLT, Nat.reduceLeDiff]))
      | (refine wL_newD (t := 116) X.size ?_; rintro b6 hy ey sy hb6 B6; have zy := ey.size; (try replace B7 := B7.ext ey); (try replace C' := C'.ext ey); (try replace P' := P'.ext ey); replace X := X.trans ey; (try simp (config := { maxSteps := 1000000 }) (disch := first | exact Nat.le_of_ble_eq_true rfl | omega) only [AXS, AXB, J.dst, reduceIte, Nat.reduceEqDiff, Nat.reduceAdd, Nat.reduceMul, Nat.reduceLT, Nat.reduceLeDiff]))
      | (refine wL_newD (t := 47) X.size ?_; rintro b7 hy ey sy hb7 B7; have zy := ey.size; (try replace B6 := B6.ext ey); (try replace C' := C'.ext ey); (try replace P' := P'.ext ey); replace X := X.trans ey; (try simp (config := { maxSteps := 1000000 }) (disch := first | exact Nat.le_of_ble_eq_true rfl | omega) only [AXS, AXB, J.dst, reduceIte, Nat.reduceEqDiff, Nat.reduceAdd, Nat.reduceMul, Nat.reduceLT, Nat.reduceLeDiff]))
    all_goals
      refine wL_stD rfl rfl (by omega) rfl B6 (by decide) (ePr_one pv') ?_
      rintro hz uz (D6 : Blk _ _ _ (ePr pv'))
      try simp (config := { maxSteps := 1000000 }) (disch := first | exact Nat.le_of_ble_eq_true rfl | omega) only [AXS, AXB, J.dst, reduceIte, Nat.reduceEqDiff, Nat.reduceAdd, Nat.reduceMul, Nat.reduceLT, Nat.reduceLeDiff]
      refine wL_stD rfl rfl (by omega) rfl (uz.blk B7 (by omega)) (by decide) (eRp_one rv) ?_
      rintro hw uw (D7 : Blk _ _ _ (eRp rv))
      try simp (config := { maxSteps := 1000000 }) (disch := first | exact Nat.le_of_ble_eq_true rfl | omega) only [AXS, AXB, J.dst, reduceIte, Nat.reduceEqDiff, Nat.reduceAdd, Nat.reduceMul, Nat.reduceLT, Nat.reduceLeDiff]
      have ez := uz.size
      have ew := uw.size
      refine app hw b6 pv' (uw.ext (uz.ext X (by omega)) (by omega)) (uw.blk D6 (by omega)) ((P'.at_ (h' := hz) fun b hb => uz.ne b (by omega)).to fun b hb => ⟨⟨by omega, by omega⟩, uw.ne b (by omega)⟩)
  · have hkl : k = l.length := by have := of_decide_eq_false hh; omega
    subst hkl
    refine hex _ _ ?_
    (try simp (config := { maxSteps := 1000000 }) (disch := first | exact Nat.le_of_ble_eq_true rfl | omega) only [AXS, AXB, J.dst, reduceIte, Nat.reduceEqDiff, Nat.reduceAdd, Nat.reduceMul, Nat.reduceLT, Nat.reduceLeDiff]); rw [f65c11_eq]; (try simp (config := { maxSteps := 1000000 }) (disch := first | exact Nat.le_of_ble_eq_true rfl | omega) only [AXS, AXB, J.dst, reduceIte, Nat.reduceEqDiff, Nat.reduceAdd, Nat.reduceMul, Nat.reduceLT, Nat.reduceLeDiff, f65r8])
    exact hR _ _ _ O x2
end Go.Proofs.Ytefghfgmkndikaa
namespace Go.AX
open Go
theorem raw_map {P : Program} {o : Oper} {σ : Env} {h : Heap} {K : Value → Heap → Prop} {t : TypeId} (ho : o.op = .makeMap t none) (H : ∀ h', Ext h h' → h'.size = h.size + 1 → h'[h.size]? = some (.map #[] 0) → K (.map (some h.size)) h') : RawW P o σ h K := by
  refine ⟨?_, ?_, ?_⟩
  · rw [ho]; intro u hu
    simp only [Op.operands, Option.toArray, List.mem_toArray, List.not_mem_nil, Array.not_mem_empty] at hu
  · rw [ho]; intro cs b hh; cases hh
  · intro w hw
    subst hw
    have hrun : (Instr.makeMap t none).run P w = .ok (.map (some w.heap.size)) { w with heap := w.heap.push (.map #[] 0) } := rfl
    refine ⟨.value (.map (some w.heap.size)), _, { w with heap := w.heap.push (.map #[] 0) }, ?_, rfl, ?_, H _ ((Ext.refl w.heap).push _) (by simp) (by simp)⟩
    · simp [execOp, ho, hrun]
    · exact ⟨rfl, rfl, rfl⟩
end Go.AX
namespace Go.Proofs.Ytefghfgmkndikaa
open Go Go.AX
theorem once_none (h : Heap) {a : Option Addr} {c : Nat} {R : Value → Heap → Prop} (hR : ∀ h', Ext h h' → R (.bool true) h') : CallsH Try.prog 102 [.slice a (0 : Nat) c] h R := by
  refine f102ok (by simp) ?_
  (try simp (config := { maxSteps := 1000000 }) (disch := first | exact Nat.le_of_ble_eq_true rfl | omega) only [AXS, AXB, J.dst, reduceIte, Nat.reduceEqDiff, Nat.reduceAdd, Nat.reduceMul, Nat.reduceLT, Nat.reduceLeDiff]); rw [f102c0_eq]; (try simp (config := { maxSteps := 1000000 }) (disch := first | exact Nat.le_of_ble_eq_true rfl | omega) only [AXS, AXB, J.dst, reduceIte, Nat.reduceEqDiff, Nat.reduceAdd, Nat.reduceMul, Nat.reduceLT, Nat.reduceLeDiff, f102r0]); rw [f102c1_eq]; (try simp (config := { maxSteps := 1000000 }) (disch := first | exact Nat.le_of_ble_eq_true rfl | omega) only [AXS, AXB, J.dst, reduceIte, Nat.reduceEqDiff, Nat.reduceAdd, Nat.reduceMul, Nat.reduceLT, Nat.reduceLeDiff, f102r1])
  rw [wL_raw]
  refine raw_map rfl ?_
  intro h1 x1 _ _
  refine ⟨trivial, ?_⟩
  (try simp (config := { maxSteps := 1000000 }) (disch := first | exact Nat.le_of_ble_eq_true rfl | omega) only [AXS, AXB, J.dst, reduceIte, Nat.reduceEqDiff, Nat.reduceAdd, Nat.reduceMul, Nat.reduceLT, Nat.reduceLeDiff]); rw [f102c2_eq]; (try simp (config := { maxSteps := 1000000 }) (disch := first | exact Nat.le_of_ble_eq_true rfl | omega) only [AXS, AXB, J.dst, reduceIte, Nat.reduceEqDiff, Nat.reduceAdd, Nat.reduceMul, Nat.reduceLT, Nat.reduceLeDiff, f102r2])
  rw [f102c3_eq]
  refine loop_in (fun n σ h' => h' = h1 ∧ σ = [(3, .map (some h.size)), (7, .slice a (0 : Nat) c), (8, vi (0 : Nat)), (9, vi (0 : Nat))]) 0 ⟨rfl, rfl⟩ ?_
  rintro n σ h' ⟨rfl, rfl⟩ Q' hnx hex hrt _
  (try simp (config := { maxSteps := 1000000 }) (disch := first | exact Nat.le_of_ble_eq_true rfl | omega) only [AXS, AXB, J.dst, reduceIte, Nat.reduceEqDiff, Nat.reduceAdd, Nat.reduceMul, Nat.reduceLT, Nat.reduceLeDiff]); rw [f102c4_eq]; (try simp (config := { maxSteps := 1000000 }) (disch := first | exact Nat.le_of_ble_eq_true rfl | omega) only [AXS, AXB, J.dst, reduceIte, Nat.reduceEqDiff, Nat.reduceAdd, Nat.reduceMul, Nat.reduceLT, Nat.reduceLeDiff, f102r3]); rw [f102c5_eq]; (try simp (config := { maxSteps := 1000000 }) (disch := first | exact Nat.le_of_ble_eq_true rfl | omega) only [AXS, AXB, J.dst, reduceIte, Nat.reduceEqDiff, Nat.reduceAdd, Nat.reduceMul, Nat.reduceLT, Nat.reduceLeDiff])
  refine ⟨fun hh => ?_, fun hh => ?_⟩
  · have := of_decide_eq_true hh; omega
  · refine hex _ _ ?_
    (try simp (config := { maxSteps := 1000000 }) (disch := first | exact Nat.le_of_ble_eq_true rfl | omega) only [AXS, AXB, J.dst, reduceIte, Nat.reduceEqDiff, Nat.reduceAdd, Nat.reduceMul, Nat.reduceLT, Nat.reduceLeDiff]); rw [f102c13_eq]; (try simp (config := { maxSteps := 1000000 }) (disch := first | exact Nat.le_of_ble_eq_true rfl | omega) only [AXS, AXB, J.dst, reduceIte, Nat.reduceEqDiff, Nat.reduceAdd, Nat.reduceMul, Nat.reduceLT, Nat.reduceLeDiff, f102r9])
    exact hR _ x1
theorem mayP_none {B : Nat → Prop} {n : Nat} (pv : PrV) (p : Prt) (h : Heap) (S : PrR B h pv p) (g : GdP n p) (hn : n ≤ 900000) (hr : p.records = []) (hd : p.done = []) (hl : p.s.low ≤ p.s.closed ∨ p.s.low = 0) {R : Value → Heap → Prop}
    (hR : ∀ h', Ext h h' → R (.bool true) h') : CallsH Try.prog 60 [.agg (ePr pv).toArray] h R := by
  have hrn := S.rn
  have hdn := S.dn
  rw [hr] at hrn
  rw [hd] at hdn
  have hm : mostEpoch = 1099511627776 := rfl
  have e0 := g.e0
  have e1 := g.e1
  have hs := S.s
  refine f60ok (by simp) ?_
  (try simp (config := { maxSteps := 1000000 }) (disch := first | exact Nat.le_of_ble_eq_true rfl | omega) only [AXS, AXB, J.dst, reduceIte, Nat.reduceEqDiff, Nat.reduceAdd, Nat.reduceMul, Nat.reduceLT, Nat.reduceLeDiff]); rw [f60c0_eq]; (try simp (config := { maxSteps := 1000000 }) (disch := first | exact Nat.le_of_ble_eq_true rfl | omega) only [AXS, AXB, J.dst, reduceIte, Nat.reduceEqDiff, Nat.reduceAdd, Nat.reduceMul, Nat.reduceLT, Nat.reduceLeDiff, f60r0])
  refine wL_boxN rfl ?_; rintro b1 h1 x1 s1 hb1 (B1 : Blk _ _ _ (ePr pv))
  try simp (config := { maxSteps := 1000000 }) (disch := first | exact Nat.le_of_ble_eq_true rfl | omega) only [AXS, AXB, J.dst, reduceIte, Nat.reduceEqDiff, Nat.reduceAdd, Nat.reduceMul, Nat.reduceLT, Nat.reduceLeDiff]
  rw [f60c1_eq]
  simp (config := { maxSteps := 1000000 }) (disch := first | exact Nat.le_of_ble_eq_true rfl | omega) only [AXJ, AXS, AXB, J.dst, reduceIte, Nat.reduceEqDiff, Nat.reduceAdd, Nat.reduceMul, Nat.reduceLT, Nat.reduceLeDiff, f60r1, B1.cel, ePr, S.cn]
  refine mayG g.sz.cells hn (S.cells.ext x1) ?_
  intro h2 x2
  refine ⟨trivial, ?_⟩
  have B2 := B1.ext x2
  simp (config := { maxSteps := 1000000 }) (disch := first | exact Nat.le_of_ble_eq_true rfl | omega) only [AXJ, AXS, AXB, J.dst, reduceIte, Nat.reduceEqDiff, Nat.reduceAdd, Nat.reduceMul, Nat.reduceLT, Nat.reduceLeDiff, B2.cel, ePr, hrn, List.length_nil]
  refine once_none _ ?_
  intro h3 x3
  refine ⟨trivial, ?_⟩
  have B3 := B2.ext x3
  simp (config := { maxSteps := 1000000 }) (disch := first | exact Nat.le_of_ble_eq_true rfl | omega) only [AXJ, AXS, AXB, J.dst, reduceIte, Nat.reduceEqDiff, Nat.reduceAdd, Nat.reduceMul, Nat.reduceLT, Nat.reduceLeDiff, f60r1a, B3.cel, ePr, hdn, List.length_nil]
  refine once_none _ ?_
  intro h4 x4
  refine ⟨trivial, ?_⟩
  have B4 := B3.ext x4
  simp (config := { maxSteps := 1000000 }) (disch := first | exact Nat.le_of_ble_eq_true rfl | omega) only [AXJ, AXS, AXB, J.dst, reduceIte, Nat.reduceEqDiff, Nat.reduceAdd, Nat.reduceMul, Nat.reduceLT, Nat.reduceLeDiff]
  simp (config := { maxSteps := 1000000 }) (disch := first | exact Nat.le_of_ble_eq_true rfl | omega) only [AXJ, AXS, AXB, J.dst, reduceIte, Nat.reduceEqDiff, Nat.reduceAdd, Nat.reduceMul, Nat.reduceLT, Nat.reduceLeDiff, f60r1b, B4.cel, ePr, hs]
  simp (config := { maxSteps := 1000000 }) (disch := first | exact Nat.le_of_ble_eq_true rfl | omega) only [AXJ, AXS, AXB, J.dst, reduceIte, Nat.reduceEqDiff, Nat.reduceAdd, Nat.reduceMul, Nat.reduceLT, Nat.reduceLeDiff, f60r1c, B4.cel, ePr, hs]
  simp (config := { maxSteps := 1000000 }) (disch := first | exact Nat.le_of_ble_eq_true rfl | omega) only [AXJ, AXS, AXB, J.dst, reduceIte, Nat.reduceEqDiff, Nat.reduceAdd, Nat.reduceMul, Nat.reduceLT, Nat.reduceLeDiff, f60r1d, B4.cel, ePr, hs]
  simp (config := { maxSteps := 1000000 }) (disch := first | exact Nat.le_of_ble_eq_true rfl | omega) only [AXJ, AXS, AXB, J.dst, reduceIte, Nat.reduceEqDiff, Nat.reduceAdd, Nat.reduceMul, Nat.reduceLT, Nat.reduceLeDiff, f60r1e]
  have hfin : (decide (p.s.epoch ≥ 0) && decide (p.s.epoch ≤ 1099511627776) && (decide (p.s.low ≤ p.s.closed) || p.s.low == 0)) = true := by
    simp only [Bool.and_eq_true, Bool.or_eq_true, decide_eq_true_eq, beq_iff_eq]
    exact ⟨⟨e0, by omega⟩, hl⟩
  rw [hfin]
  exact hR _ (((x1.trans x2).trans x3).trans x4)
def pg1 : Cmd := ⟨⟨1, 1, 2, 0, ⟨0, 0, 0, 0⟩, ⟨0, 0⟩, 0, false⟩, [], []⟩
def pg2 : Cmd := ⟨⟨3, 1, 0, 0, ⟨1, 0, 0, 0⟩, ⟨5, 0⟩, 0, false⟩, [], [⟨⟨#[107]⟩, false, ⟨#[120]⟩⟩]⟩
def pg3 : Cmd := ⟨⟨2, 1, 0, 0, ⟨0, 0, 0, 0⟩, ⟨9, 0⟩, 0, false⟩, [⟨⟨#[97]⟩, ⟨#[122]⟩⟩], []⟩
theorem pg_facts : (applyP emptyP pg1).2.s.err = 0 ∧ (applyP emptyP pg1).1.s.holder = 2 ∧ (applyP (applyP emptyP pg1).1 pg2).2.s.err = 0 ∧ (applyP (applyP (applyP emptyP pg1).1 pg2).1 pg3).2.s.err = 20 ∧
    (applyP (applyP emptyP pg1).1 pg2).1.records = [] ∧ (applyP (applyP emptyP pg1).1 pg2).1.done = [] ∧ (applyP (applyP emptyP pg1).1 pg2).1.s.low = 0 := by
  refine ⟨rfl, rfl, by decide, ?_, by decide, by decide, by decide⟩
  kernel_rfl
def zPr : PrV := ⟨⟨0, 0, ⟨0, 0⟩, 0, 0⟩, none, 0, 0, none, 0, 0, none, 0, 0⟩
theorem zPr_ok {B : Nat → Prop} (h : Heap) : PrR B h zPr emptyP := ⟨rfl, rfl, Nat.le_refl _, rfl, rfl, ⟨[], .nil, .nil⟩, .nil, .nil⟩
theorem begunP_ok (h : Heap) {R : Value → Heap → Prop} (hR : ∀ h', Ext h h' → R (.bool true) h') : CallsH Try.prog 52 [] h R := by
  have hbig : big = 1000000 := rfl
  obtain ⟨f1, f2, f3, f4, f5, f6, f7⟩ := pg_facts
  have g0 := emptyG
  have g1 := applyG (c := pg1) g0 ⟨by decide, by decide⟩
  have g2 := applyG (c := pg2) g1 ⟨by decide, by decide⟩
  refine f52ok (by simp) ?_
  (try simp (config := { maxSteps := 1000000 }) (disch := first | exact Nat.le_of_ble_eq_true rfl | omega) only [AXS, AXB, J.dst, reduceIte, Nat.reduceEqDiff, Nat.reduceAdd, Nat.reduceMul, Nat.reduceLT, Nat.reduceLeDiff]); rw [f52c0_eq]; (try simp (config := { maxSteps := 1000000 }) (disch := first | exact Nat.le_of_ble_eq_true rfl | omega) only [AXS, AXB, J.dst, reduceIte, Nat.reduceEqDiff, Nat.reduceAdd, Nat.reduceMul, Nat.reduceLT, Nat.reduceLeDiff, f52r0]); rw [f52c1_eq]; (try simp (config := { maxSteps := 1000000 }) (disch := first | exact Nat.le_of_ble_eq_true rfl | omega) only [AXS, AXB, J.dst, reduceIte, Nat.reduceEqDiff, Nat.reduceAdd, Nat.reduceMul, Nat.reduceLT, Nat.reduceLeDiff, f52r1])
  refine apply_ok (B := fun _ => True) (B' := fun _ => True) zPr emptyP ⟨pg1.s, none, 0, 0, none, 0, 0⟩ pg1 _ (zPr_ok _) ⟨rfl, rfl, rfl, .nil, .nil⟩ g0.sz (by decide) (by decide) g0.e0 ?_
  intro p1 r1 h1 P1 K1 x1
  refine ⟨trivial, ?_⟩
  try simp (config := { maxSteps := 1000000 }) (disch := first | exact Nat.le_of_ble_eq_true rfl | omega) only [AXS, AXB, J.dst, reduceIte, Nat.reduceEqDiff, Nat.reduceAdd, Nat.reduceMul, Nat.reduceLT, Nat.reduceLeDiff]
  refine wL_newN ?_; rintro b1 h2 x2 s2 hb1 B1
  try simp (config := { maxSteps := 1000000 }) (disch := first | exact Nat.le_of_ble_eq_true rfl | omega) only [AXS, AXB, J.dst, reduceIte, Nat.reduceEqDiff, Nat.reduceAdd, Nat.reduceMul, Nat.reduceLT, Nat.reduceLeDiff]
  refine wL_newN ?_; rintro b2 h3 x3 s3 hb2 B2
  replace B1 := B1.ext x3
  try simp (config := { maxSteps := 1000000 }) (disch := first | exact Nat.le_of_ble_eq_true rfl | omega) only [AXS, AXB, J.dst, reduceIte, Nat.reduceEqDiff, Nat.reduceAdd, Nat.reduceMul, Nat.reduceLT, Nat.reduceLeDiff]
  refine wL_stN rfl rfl rfl B1 (by decide) (ePr_one p1) ?_
  rintro h4 u4 (B1 : Blk _ _ _ (ePr p1))
  try simp (config := { maxSteps := 1000000 }) (disch := first | exact Nat.le_of_ble_eq_true rfl | omega) only [AXS, AXB, J.dst, reduceIte, Nat.reduceEqDiff, Nat.reduceAdd, Nat.reduceMul, Nat.reduceLT, Nat.reduceLeDiff]
  refine wL_stN rfl rfl rfl (u4.blk B2 (by omega)) (by decide) (eRp_one r1) ?_
  rintro h5 u5 (B2 : Blk _ _ _ (eRp r1))
  replace B1 := u5.blk B1 (by omega)
  have x15 := u5.ext (u4.ext (x2.trans x3) (by omega)) (by omega)
  have y4 := u4.size
  have y5 := u5.size
  have P5 := P1.prr.ext x15
  have hr1 := K1.s
  (try simp (config := { maxSteps := 1000000 }) (disch := first | exact Nat.le_of_ble_eq_true rfl | omega) only [AXS, AXB, J.dst, reduceIte, Nat.reduceEqDiff, Nat.reduceAdd, Nat.reduceMul, Nat.reduceLT, Nat.reduceLeDiff]); rw [f52c2_eq]; (try simp (config := { maxSteps := 1000000 }) (disch := first | exact Nat.le_of_ble_eq_true rfl | omega) only [AXS, AXB, J.dst, reduceIte, Nat.reduceEqDiff, Nat.reduceAdd, Nat.reduceMul, Nat.reduceLT, Nat.reduceLeDiff, f52r2, B1.rd, ePr])
  refine wL_bslN rfl ?_; rintro b3 h6 x6 s6 hb3 (B3 : Blk _ _ _ (eWri ⟨⟨#[107]⟩, false, ⟨#[120]⟩⟩))
  try simp (config := { maxSteps := 1000000 }) (disch := first | exact Nat.le_of_ble_eq_true rfl | omega) only [AXS, AXB, J.dst, reduceIte, Nat.reduceEqDiff, Nat.reduceAdd, Nat.reduceMul, Nat.reduceLT, Nat.reduceLeDiff]
  refine apply_ok (B' := fun _ => True) p1 (applyP emptyP pg1).1 ⟨pg2.s, none, 0, 0, some ⟨b3, 0, none⟩, 1, 1⟩ pg2 _ (P5.ext x6) ⟨rfl, rfl, rfl, .nil, fun _ => ⟨b3, 0, rfl, trivial, B3.row⟩⟩ g1.sz (by decide) (by decide) g1.e0 ?_
  intro p2 r2 h7 P2 K2 x7
  refine ⟨trivial, ?_⟩
  replace B1 := B1.ext (x6.trans x7); replace B2 := B2.ext (x6.trans x7)
  have y6 := x6.size
  have y7 := x7.size
  try simp (config := { maxSteps := 1000000 }) (disch := first | exact Nat.le_of_ble_eq_true rfl | omega) only [AXS, AXB, J.dst, reduceIte, Nat.reduceEqDiff, Nat.reduceAdd, Nat.reduceMul, Nat.reduceLT, Nat.reduceLeDiff]
  refine wL_newN ?_; rintro b4 h8 x8 s8 hb4 B4
  try simp (config := { maxSteps := 1000000 }) (disch := first | exact Nat.le_of_ble_eq_true rfl | omega) only [AXS, AXB, J.dst, reduceIte, Nat.reduceEqDiff, Nat.reduceAdd, Nat.reduceMul, Nat.reduceLT, Nat.reduceLeDiff]
  refine wL_newN ?_; rintro b5 h9 x9 s9 hb5 B5
  replace B1 := B1.ext x8; replace B2 := B2.ext x8
  replace B1 := B1.ext x9; replace B2 := B2.ext x9; replace B4 := B4.ext x9
  try simp (config := { maxSteps := 1000000 }) (disch := first | exact Nat.le_of_ble_eq_true rfl | omega) only [AXS, AXB, J.dst, reduceIte, Nat.reduceEqDiff, Nat.reduceAdd, Nat.reduceMul, Nat.reduceLT, Nat.reduceLeDiff]
  refine wL_stN rfl rfl rfl B4 (by decide) (ePr_one p2) ?_
  rintro h10 u10 (B4 : Blk _ _ _ (ePr p2))
  try simp (config := { maxSteps := 1000000 }) (disch := first | exact Nat.le_of_ble_eq_true rfl | omega) only [AXS, AXB, J.dst, reduceIte, Nat.reduceEqDiff, Nat.reduceAdd, Nat.reduceMul, Nat.reduceLT, Nat.reduceLeDiff]
  refine wL_stN rfl rfl rfl (u10.blk B5 (by omega)) (by decide) (eRp_one r2) ?_
  rintro h11 u11 (B5 : Blk _ _ _ (eRp r2))
  replace B4 := u11.blk B4 (by omega)
  replace B1 := u11.blk (u10.blk B1 (by omega)) (by omega)
  replace B2 := u11.blk (u10.blk B2 (by omega)) (by omega)
  have x711 := u11.ext (u10.ext (x8.trans x9) (by omega)) (by omega)
  have y10 := u10.size
  have y11 := u11.size
  have P11 := P2.prr.ext x711
  have hr2 := K2.s
  (try simp (config := { maxSteps := 1000000 }) (disch := first | exact Nat.le_of_ble_eq_true rfl | omega) only [AXS, AXB, J.dst, reduceIte, Nat.reduceEqDiff, Nat.reduceAdd, Nat.reduceMul, Nat.reduceLT, Nat.reduceLeDiff]); rw [f52c3_eq]; (try simp (config := { maxSteps := 1000000 }) (disch := first | exact Nat.le_of_ble_eq_true rfl | omega) only [AXS, AXB, J.dst, reduceIte, Nat.reduceEqDiff, Nat.reduceAdd, Nat.reduceMul, Nat.reduceLT, Nat.reduceLeDiff, f52r3, B4.rd, ePr])
  refine wL_bslN rfl ?_; rintro b6 h12 x12 s12 hb6 (B6 : Blk _ _ _ (eSpn ⟨⟨#[97]⟩, ⟨#[122]⟩⟩))
  try simp (config := { maxSteps := 1000000 }) (disch := first | exact Nat.le_of_ble_eq_true rfl | omega) only [AXS, AXB, J.dst, reduceIte, Nat.reduceEqDiff, Nat.reduceAdd, Nat.reduceMul, Nat.reduceLT, Nat.reduceLeDiff]
  refine apply_ok (B' := fun _ => True) p2 (applyP (applyP emptyP pg1).1 pg2).1 ⟨pg3.s, some ⟨b6, 0, none⟩, 1, 1, none, 0, 0⟩ pg3 _ (P11.ext x12) ⟨rfl, rfl, rfl, fun _ => ⟨b6, 0, rfl, trivial, B6.row⟩, .nil⟩ g2.sz (by decide) (by decide) g2.e0 ?_
  intro p3 r3 h13 P3 K3 x13
  refine ⟨trivial, ?_⟩
  replace B1 := B1.ext (x12.trans x13); replace B2 := B2.ext (x12.trans x13); replace B4 := B4.ext (x12.trans x13); replace B5 := B5.ext (x12.trans x13)
  have y12 := x12.size
  have y13 := x13.size
  try simp (config := { maxSteps := 1000000 }) (disch := first | exact Nat.le_of_ble_eq_true rfl | omega) only [AXS, AXB, J.dst, reduceIte, Nat.reduceEqDiff, Nat.reduceAdd, Nat.reduceMul, Nat.reduceLT, Nat.reduceLeDiff]
  refine wL_newN ?_; rintro b7 h14 x14 s14 hb7 B7
  try simp (config := { maxSteps := 1000000 }) (disch := first | exact Nat.le_of_ble_eq_true rfl | omega) only [AXS, AXB, J.dst, reduceIte, Nat.reduceEqDiff, Nat.reduceAdd, Nat.reduceMul, Nat.reduceLT, Nat.reduceLeDiff]
  refine wL_newN ?_; rintro b8 h15 xb15 s15 hb8 B8
  replace B1 := B1.ext x14; replace B2 := B2.ext x14; replace B4 := B4.ext x14; replace B5 := B5.ext x14
  replace B1 := B1.ext xb15; replace B2 := B2.ext xb15; replace B4 := B4.ext xb15; replace B5 := B5.ext xb15; replace B7 := B7.ext xb15
  try simp (config := { maxSteps := 1000000 }) (disch := first | exact Nat.le_of_ble_eq_true rfl | omega) only [AXS, AXB, J.dst, reduceIte, Nat.reduceEqDiff, Nat.reduceAdd, Nat.reduceMul, Nat.reduceLT, Nat.reduceLeDiff]
  refine wL_stN rfl rfl rfl B7 (by decide) (ePr_one p3) ?_
  rintro h16 u16 (B7 : Blk _ _ _ (ePr p3))
  try simp (config := { maxSteps := 1000000 }) (disch := first | exact Nat.le_of_ble_eq_true rfl | omega) only [AXS, AXB, J.dst, reduceIte, Nat.reduceEqDiff, Nat.reduceAdd, Nat.reduceMul, Nat.reduceLT, Nat.reduceLeDiff]
  refine wL_stN rfl rfl rfl (u16.blk B8 (by omega)) (by decide) (eRp_one r3) ?_
  rintro h17 u17 (B8 : Blk _ _ _ (eRp r3))
  replace B1 := u17.blk (u16.blk B1 (by omega)) (by omega)
  replace B2 := u17.blk (u16.blk B2 (by omega)) (by omega)
  replace B4 := u17.blk (u16.blk B4 (by omega)) (by omega)
  replace B5 := u17.blk (u16.blk B5 (by omega)) (by omega)
  have x1117 := u17.ext (u16.ext (((x12.trans x13).trans x14).trans xb15) (by omega)) (by omega)
  have P17 := P11.ext x1117
  have hp1 := P1.s
  have hr3 := K3.s
  try simp (config := { maxSteps := 1000000 }) (disch := first | exact Nat.le_of_ble_eq_true rfl | omega) only [AXS, AXB, J.dst, reduceIte, Nat.reduceEqDiff, Nat.reduceAdd, Nat.reduceMul, Nat.reduceLT, Nat.reduceLeDiff]
  rw [f52c4_eq]
  simp (config := { maxSteps := 1000000 }) (disch := first | exact Nat.le_of_ble_eq_true rfl | omega) only [AXJ, AXS, AXB, J.dst, reduceIte, Nat.reduceEqDiff, Nat.reduceAdd, Nat.reduceMul, Nat.reduceLT, Nat.reduceLeDiff, f52r4, B2.cel, eRp, hr1, f1, B1.cel, ePr, hp1, f2]
  simp (config := { maxSteps := 1000000 }) (disch := first | exact Nat.le_of_ble_eq_true rfl | omega) only [AXJ, AXS, AXB, J.dst, reduceIte, Nat.reduceEqDiff, Nat.reduceAdd, Nat.reduceMul, Nat.reduceLT, Nat.reduceLeDiff, f52r4a, B5.cel, eRp, hr2, f3]
  simp (config := { maxSteps := 1000000 }) (disch := first | exact Nat.le_of_ble_eq_true rfl | omega) only [AXJ, AXS, AXB, J.dst, reduceIte, Nat.reduceEqDiff, Nat.reduceAdd, Nat.reduceMul, Nat.reduceLT, Nat.reduceLeDiff, f52r4b, B8.cel, eRp, hr3, f4]
  simp (config := { maxSteps := 1000000 }) (disch := first | exact Nat.le_of_ble_eq_true rfl | omega) only [AXJ, AXS, AXB, J.dst, reduceIte, Nat.reduceEqDiff, Nat.reduceAdd, Nat.reduceMul, Nat.reduceLT, Nat.reduceLeDiff, f52r4c, B4.rd, ePr]
  refine mayP_none p2 (applyP (applyP emptyP pg1).1 pg2).1 _ P17 g2 (by decide) f5 f6 (.inr f7) ?_
  intro h18 x18
  refine ⟨trivial, ?_⟩
  try simp (config := { maxSteps := 1000000 }) (disch := first | exact Nat.le_of_ble_eq_true rfl | omega) only [AXJ, AXS, AXB, J.dst, reduceIte, Nat.reduceEqDiff, Nat.reduceAdd, Nat.reduceMul, Nat.reduceLT, Nat.reduceLeDiff]
  try simp (config := { maxSteps := 1000000 }) (disch := first | exact Nat.le_of_ble_eq_true rfl | omega) only [AXJ, AXS, AXB, J.dst, reduceIte, Nat.reduceEqDiff, Nat.reduceAdd, Nat.reduceMul, Nat.reduceLT, Nat.reduceLeDiff, f52r4d]
  exact hR _ ((((x1.trans (x15.trans (x6.trans x7))).trans x711).trans x1117).trans x18)
end Go.Proofs.Ytefghfgmkndikaa
namespace Go.Proofs.Ytefghfgmkndikaa
open Go Go.AX
/-- b is a state that came behind a. -/
structure Later (a b : Prt) : Prop where
  closed : a.s.closed ≤ b.s.closed
  low : a.s.low ≤ b.s.low
  epoch : a.s.epoch ≤ b.s.epoch
  floor : Stamp.lt b.s.floor a.s.floor = false
  records : a.records <+: b.records
  done : a.done <+: b.done
theorem Later.refl (p : Prt) : Later p p := ⟨Int.le_refl _, Int.le_refl _, Int.le_refl _, Stamp.lt_irrefl _, List.prefix_rfl, List.prefix_rfl⟩
theorem maxI_ge (x y : Int) : x ≤ maxI x y := by unfold maxI; split <;> omega
theorem maxS_ge (x y : Stamp) : Stamp.lt (maxS x y) x = false := by
  unfold maxS
  cases h : Stamp.lt x y with
  | true => rw [if_pos rfl]; exact Stamp.lt_asymm h
  | false => rw [if_neg (by simp)]; exact Stamp.lt_irrefl x
theorem doesLater (p : Prt) (c : Cmd) : Later p (doesP p c).1 := by
  have r := Later.refl p
  unfold doesP
  split
  · rcases readP_1 p c with h | h <;> rw [h]
    · exact r
    · exact ⟨r.closed, r.low, r.epoch, maxS_ge _ _, r.records, r.done⟩
  split
  · rcases prepP_1 p c with h | h <;> rw [h]
    · exact r
    · exact ⟨r.closed, r.low, r.epoch, r.floor, r.records, r.done⟩
  split
  · split
    · exact r
    · exact ⟨r.closed, r.low, r.epoch, r.floor, List.prefix_append _ _, r.done⟩
  split
  · refine ⟨r.closed, r.low, r.epoch, r.floor, r.records, ?_⟩
    show p.done <+: (match findO p.done c.s.by_ with | some _ => p.done | none => p.done ++ [outC c])
    split
    · exact List.prefix_rfl
    · exact List.prefix_append _ _
  split
  · exact ⟨maxI_ge _ _, r.low, r.epoch, r.floor, r.records, r.done⟩
  split
  · exact ⟨r.closed, maxI_ge _ _, r.epoch, r.floor, r.records, r.done⟩
  · exact r
theorem leaseLater (p : Prt) (c : Cmd) : Later p (leaseP p c).1 := by
  have r := Later.refl p
  unfold leaseP
  split
  · exact r
  · rename_i h
    refine ⟨r.closed, r.low, ?_, r.floor, r.records, r.done⟩
    show p.s.epoch ≤ c.s.epoch; omega
theorem applyP_cases (p : Prt) (c : Cmd) : (applyP p c).1 = p ∨ (c.s.kind = 1 ∧ applyP p c = leaseP p c) ∨ (¬ c.s.kind = 1 ∧ ¬ (p.s.epoch = 0 ∨ c.s.epoch ≠ p.s.epoch) ∧ applyP p c = doesP p c) := by
  have key : ∀ r : Prt × Rep, (if r.2.s.err = 0 then r else (p, r.2)).1 = p ∨ (if r.2.s.err = 0 then r else (p, r.2)) = r := by
    intro r
    split
    · exact .inr rfl
    · exact .inl rfl
  unfold applyP
  by_cases h1 : c.s.kind = 1
  · simp only [if_pos h1]
    rcases key (leaseP p c) with h | h
    · exact .inl h
    · exact .inr (.inl ⟨h1, h⟩)
  · by_cases h2 : p.s.epoch = 0 ∨ c.s.epoch ≠ p.s.epoch
    · left; simp only [if_neg h1, if_pos h2]; rcases key (p, errR 25) with h | h
      · exact h
      · rw [h]
    · simp only [if_neg h1, if_neg h2]
      rcases key (doesP p c) with h | h
      · exact .inl h
      · exact .inr (.inr ⟨h1, h2, h⟩)
theorem applyLater (p : Prt) (c : Cmd) : Later p (applyP p c).1 := by
  rcases applyP_cases p c with h | ⟨_, h⟩ | ⟨_, _, h⟩
  · rw [h]; exact Later.refl p
  · rw [h]; exact leaseLater p c
  · rw [h]; exact doesLater p c
end Go.Proofs.Ytefghfgmkndikaa
namespace Go.Proofs.Ytefghfgmkndikaa
open Go Go.AX Go.ChangeShapes Go.WideShapes Go.RowKit Go.Deep
section
variable {H : Type} {enc : TypeId × Value → H} {w : World} {base : Nat}
theorem drop_split {α : Type} (l : List α) (a k b : Nat) (h : b = a + k) : l.drop a = (l.drop a).take k ++ l.drop b := by
  subst h
  rw [← List.drop_drop, List.take_append_drop]
theorem kdI {cs : List Value} (h0 : All2 kdV [.i .i64] cs) : ∃ x : Int, cs = [vi x] := by
  obtain ⟨c0, m0, rfl, ⟨x, rfl, _⟩, h1⟩ := all2_cons h0
  have := all2_nil h1; subst this
  exact ⟨x, rfl⟩
theorem kdB {cs : List Value} (h0 : All2 kdV [.b] cs) : ∃ x : Bool, cs = [.bool x] := by
  obtain ⟨c0, m0, rfl, ⟨x, rfl⟩, h1⟩ := all2_cons h0
  have := all2_nil h1; subst this
  exact ⟨x, rfl⟩
theorem sz43 : Try.prog.cellsOf 43 = 14 := by kernel_rfl
theorem sz3 : Try.prog.cellsOf 3 = 1 := by kernel_rfl
theorem sz2 : Try.prog.cellsOf 2 = 1 := by kernel_rfl
theorem sz37 : Try.prog.cellsOf 37 = 4 := by kernel_rfl
theorem sz39 : Try.prog.cellsOf 39 = 2 := by kernel_rfl
theorem sz40 : Try.prog.cellsOf 40 = 1 := by kernel_rfl
theorem sz41 : Try.prog.cellsOf 41 = 1 := by kernel_rfl
theorem sz94 : Try.prog.cellsOf 94 = 2 := by kernel_rfl
theorem sz70 : Try.prog.cellsOf 70 = 3 := by kernel_rfl
theorem flat3 : flatT Try.prog 20 3 = some [.i .i64] := by kernel_rfl
theorem flat2 : flatT Try.prog 20 2 = some [.i .i64] := by kernel_rfl
theorem flat4 : flatT Try.prog 20 4 = some [.b] := by kernel_rfl
theorem und40 : Try.prog.underlying 40 = some (.slice 94) := by kernel_rfl
theorem und41 : Try.prog.underlying 41 = some (.slice 70) := by kernel_rfl
theorem und111 : Try.prog.underlying 111 = some (.slice 43) := by kernel_rfl
theorem fld43 : isStrF Try.prog 43 [(3, 0), (3, 1), (3, 2), (3, 3), (37, 4), (39, 8), (2, 10), (4, 11), (40, 12), (41, 13)] = true := by kernel_rfl
set_option maxRecDepth 100000 in
theorem trod_cmd {n : Nat} {cs : List Value} {y : DataW H × List MemPlace} (h : DataW.trod enc Try.prog w 0 (fun _ => true) true n 43 cs = some y) :
    ∃ v, cs = eCm v ∧ ∃ c, CmR (fun b => b < w.heap.size) w.heap v c ∧ c.spans.length ≤ maxLen ∧ c.writes.length ≤ maxLen := by
  obtain ⟨hlen, hf⟩ := trod_fields fld43 h
  obtain ⟨n0, y0, h0⟩ := hf (3, 0) (by simp)
  obtain ⟨n1, y1, h1⟩ := hf (3, 1) (by simp)
  obtain ⟨n2, y2, h2⟩ := hf (3, 2) (by simp)
  obtain ⟨n3, y3, h3⟩ := hf (3, 3) (by simp)
  obtain ⟨n4, y4, h4⟩ := hf (37, 4) (by simp)
  obtain ⟨n5, y5, h5⟩ := hf (39, 8) (by simp)
  obtain ⟨n6, y6, h6⟩ := hf (2, 10) (by simp)
  obtain ⟨n7, y7, h7⟩ := hf (4, 11) (by simp)
  obtain ⟨n8, y8, h8⟩ := hf (40, 12) (by simp)
  obtain ⟨n9, y9, h9⟩ := hf (41, 13) (by simp)
  simp only [sz3, sz37, sz39, sz2, sz4, sz40, sz41] at h0 h1 h2 h3 h4 h5 h6 h7 h8 h9
  rw [sz43] at hlen
  obtain ⟨kind, e0⟩ := kdI (flatT_trod _ _ _ _ _ _ flat3 h0)
  obtain ⟨epoch, e1⟩ := kdI (flatT_trod _ _ _ _ _ _ flat3 h1)
  obtain ⟨node, e2⟩ := kdI (flatT_trod _ _ _ _ _ _ flat3 h2)
  obtain ⟨home, e3⟩ := kdI (flatT_trod _ _ _ _ _ _ flat3 h3)
  obtain ⟨by_, e4⟩ := kdTry (flatT_trod _ _ _ _ _ _ flat37 h4)
  obtain ⟨at_, e5⟩ := kdStamp (flatT_trod _ _ _ _ _ _ flat39 h5)
  obtain ⟨wall, e6⟩ := kdI (flatT_trod _ _ _ _ _ _ flat2 h6)
  obtain ⟨yes, e7⟩ := kdB (flatT_trod _ _ _ _ _ _ flat4 h7)
  obtain ⟨sa, sn, sc, ss, e8, hs1, hs2, hs3, S⟩ := open_flat und40 flat94 sz94 (by decide) (fun _ => kdSpn) eSpn_len h8
  obtain ⟨wa, wn, wc, ws, e9, hw1, hw2, hw3, W⟩ := open_flat und41 flat70 sz70 (by decide) (fun _ => kdWri) eWri_len h9
  have hcs : cs = (cs.drop 0).take 1 ++ ((cs.drop 1).take 1 ++ ((cs.drop 2).take 1 ++ ((cs.drop 3).take 1 ++ ((cs.drop 4).take 4 ++ ((cs.drop 8).take 2 ++ ((cs.drop 10).take 1 ++ ((cs.drop 11).take 1 ++ ((cs.drop 12).take 1 ++ (cs.drop 13).take 1)))))))) := by
    have e : (cs.drop 13).take 1 = cs.drop 13 := by rw [List.take_of_length_le]; rw [List.length_drop]; omega
    rw [e, ← drop_split cs 12 1 13 rfl, ← drop_split cs 11 1 12 rfl, ← drop_split cs 10 1 11 rfl, ← drop_split cs 8 2 10 rfl, ← drop_split cs 4 4 8 rfl, ← drop_split cs 3 1 4 rfl, ← drop_split cs 2 1 3 rfl, ← drop_split cs 1 1 2 rfl, ← drop_split cs 0 1 1 rfl, List.drop_zero]
  rw [e0, e1, e2, e3, e4, e5, e6, e7, e8, e9] at hcs
  refine ⟨⟨⟨kind, epoch, node, home, by_, at_, wall, yes⟩, sa, sn, sc, wa, wn, wc⟩, hcs, ⟨⟨kind, epoch, node, home, by_, at_, wall, yes⟩, ss, ws⟩, ⟨rfl, hs1.symm, hw1.symm, S, W⟩, ?_, ?_⟩
  · show ss.length ≤ maxLen; omega
  · show ws.length ≤ maxLen; omega
set_option maxRecDepth 100000 in
theorem argCmds {v : Value} {d : DataW H} {p : List MemPlace} (hv : Value.okWide Try.prog w .any base 111 v) (h : DataW.Trod enc Try.prog w 0 (fun _ => true) true 111 v d p) :
    ∃ a c l, v = .slice a l.length c ∧ LenM l ∧ SlM (fun b => b < w.heap.size) w.heap a l := by
  obtain ⟨a0, n0, c0, rfl⟩ := okWide_slice und111 hv
  obtain ⟨fuel, hf⟩ := h
  obtain ⟨a, n, c, ds, h1, h2, h3, h4, S, hQ⟩ := open_rows (e := eCm) (Q := fun v => ∃ c, CmR (fun b => b < w.heap.size) w.heap v c ∧ c.spans.length ≤ maxLen ∧ c.writes.length ≤ maxLen) und111 sz43 (by decide) (fun n cs y h => trod_cmd h) eCm_len hf
  obtain ⟨cs, hcs⟩ := all2_ex hQ
  have : a0 = a ∧ n0 = n ∧ c0 = c := by simpa [Value.cells] using h1
  obtain ⟨rfl, rfl, rfl⟩ := this
  have hl := hcs.length
  subst h2
  refine ⟨a0, c0, cs, by rw [hl], ⟨by omega, ?_⟩, ⟨ds, hcs.imp fun _ _ r => r.1, S⟩⟩
  clear S hQ hl
  intro c hc
  obtain ⟨i, hi, rfl⟩ := List.mem_iff_getElem.1 hc
  obtain ⟨v, _, hr⟩ := hcs.get (List.getElem?_eq_getElem hi)
  exact hr.2
end
end Go.Proofs.Ytefghfgmkndikaa
namespace Go.Proofs.Ytefghfgmkndikaa
open Go.AX
set_option maxRecDepth 100000
section
variable {Q : X → Env → Heap → Prop} {σ : Env} {h : Heap}
end
section
variable {Q : X → Env → Heap → Prop} {σ : Env} {h : Heap}
end
section
variable {Q : X → Env → Heap → Prop} {σ : Env} {h : Heap}
end
section
variable {Q : X → Env → Heap → Prop} {σ : Env} {h : Heap}
end
section
variable {Q : X → Env → Heap → Prop} {σ : Env} {h : Heap}
end
section
variable {Q : X → Env → Heap → Prop} {σ : Env} {h : Heap}
end
section
variable {Q : X → Env → Heap → Prop} {σ : Env} {h : Heap}
end
section
variable {Q : X → Env → Heap → Prop} {σ : Env} {h : Heap}
end
section
variable {Q : X → Env → Heap → Prop} {σ : Env} {h : Heap}
end
section
variable {Q : X → Env → Heap → Prop} {σ : Env} {h : Heap}
end
section
variable {Q : X → Env → Heap → Prop} {σ : Env} {h : Heap}
end
section
variable {Q : X → Env → Heap → Prop} {σ : Env} {h : Heap}
end
section
variable {Q : X → Env → Heap → Prop} {σ : Env} {h : Heap}
end
def f66r0 : List I := [.op (.mov 2 (.const (.bool false))),
  .kp [0]]
def f66r1 : List I := [.op (.mov 3 (.const (.int .i64 0))),
  .kp [0, 3]]
def f66r2 : List I := [.op (.mov 4 (.tmp 3)),
  .op (.mov 5 (.tmp 0)),
  .op (.len 6 true (.tmp 5)),
  .op (.bin 7 .lss (.tmp 4) (.tmp 6)),
  .kp [0, 3, 7]]
def f66r3 : List I := [.op (.mov 10 (.tmp 0)),
  .op (.mov 11 (.tmp 3)),
  .op (.iad 12 14 (.tmp 10) (.tmp 11)),
  .op (.fad 13 8 (.tmp 12)),
  .op (.fad 14 1 (.tmp 13)),
  .op (.ld 15 none (.tmp 14)),
  .op (.bin 16 .lss (.tmp 15) (.const (.int .i64 0))),
  .kp [0, 3, 16]]
def f66r4 : List I := [.op (.mov 2 (.const (.bool true))),
  .kp [2]]
def f66r5 : List I := [.op (.mov 8 (.tmp 3)),
  .op (.bin 9 .add (.tmp 8) (.const (.int .i64 1))),
  .op (.mov 3 (.tmp 9)),
  .kp [0, 3]]
def f66r6 : List I := [.op (.mov 2 (.const (.bool false))),
  .kp [2]]
def f66c8 : C := (.seq (.reg f66r4) .ret)
def f66c7 : C := (.cond (.tmp 16) f66c8 .skip)
def f66c6 : C := (.seq (.reg f66r3) f66c7)
def f66c9 : C := (.reg f66r5)
def f66c5 : C := (.seq (.block 1 f66c6) f66c9)
def f66c4 : C := (.seq (.cond (.tmp 7) .skip (.exit 0)) f66c5)
def f66c3 : C := (.seq (.reg f66r2) f66c4)
def f66c10 : C := (.seq (.reg f66r6) .ret)
def f66c2 : C := (.seq (.block 0 (.loop f66c3)) f66c10)
def f66c1 : C := (.seq (.reg f66r1) f66c2)
def f66c0 : C := (.seq (.reg f66r0) f66c1)
theorem f66cmp : cmpF Try.prog Try.f66 [.l [.o 0, .kp [0]],
  .l [.o 0, .kp [0, 3]],
  .l [.o 0, .o 1, .o 2, .o 3, .kp [0, 3, 7]],
  .l [.o 0, .o 1, .o 2, .o 3, .o 4, .o 5, .o 6, .kp [0, 3, 16]],
  .l [.o 0, .kp [2]],
  .l [.o 0, .o 1, .o 2, .kp [0, 3]],
  .l [.o 0, .kp [2]]] = some (f66c0, [.tmp 2]) := by kernel_rfl
theorem f66ok {args : List Value} {h : Heap} {R : Value → Heap → Prop} (hn : args.length ≤ 17) (H : wC Try.prog f66c0 (endW [.tmp 2] R) (envOf 0 args) h) : CallsH Try.prog 66 args h R :=
  fn_ok2 Try.func66 f66cmp hn H
section
variable {Q : X → Env → Heap → Prop} {σ : Env} {h : Heap}
theorem f66c8_eq : wC Try.prog f66c8 Q σ h = (wL Try.prog none f66r4 0 (fun σ h => Q .ret σ h) σ h) := rfl
theorem f66c7_eq : wC Try.prog f66c7 Q σ h = (bd (evO σ (.tmp 16)) fun v => bd (asB v) fun t => br t (wC Try.prog f66c8 Q σ h) (Q .normal σ h)) := rfl
theorem f66c6_eq : wC Try.prog f66c6 Q σ h = (wL Try.prog none f66r3 0 (fun σ h => wC Try.prog f66c7 Q σ h) σ h) := rfl
theorem f66c9_eq : wC Try.prog f66c9 Q σ h = (wL Try.prog none f66r5 0 (fun σ h => Q .normal σ h) σ h) := rfl
theorem f66c5_eq : wC Try.prog f66c5 Q σ h = (wC Try.prog f66c6 (X.inBlock 1 (X.then (fun σ h => wC Try.prog f66c9 Q σ h) Q)) σ h) := rfl
theorem f66c4_eq : wC Try.prog f66c4 Q σ h = (bd (evO σ (.tmp 7)) fun v => bd (asB v) fun t => br t (wC Try.prog f66c5 Q σ h) (Q (.exit 0) σ h)) := rfl
theorem f66c3_eq : wC Try.prog f66c3 Q σ h = (wL Try.prog none f66r2 0 (fun σ h => wC Try.prog f66c4 Q σ h) σ h) := rfl
theorem f66c10_eq : wC Try.prog f66c10 Q σ h = (wL Try.prog none f66r6 0 (fun σ h => Q .ret σ h) σ h) := rfl
theorem f66c2_eq : wC Try.prog f66c2 Q σ h = (loopW (wC Try.prog f66c3) (X.inBlock 0 (X.then (fun σ h => wC Try.prog f66c10 Q σ h) Q)) σ h) := rfl
theorem f66c1_eq : wC Try.prog f66c1 Q σ h = (wL Try.prog none f66r1 0 (fun σ h => wC Try.prog f66c2 Q σ h) σ h) := rfl
theorem f66c0_eq : wC Try.prog f66c0 Q σ h = (wL Try.prog none f66r0 0 (fun σ h => wC Try.prog f66c1 Q σ h) σ h) := rfl
end
section
variable {Q : X → Env → Heap → Prop} {σ : Env} {h : Heap}
end
end Go.Proofs.Ytefghfgmkndikaa
namespace Go.Proofs.Ytefghfgmkndikaa
open Go Go.AX
end Go.Proofs.Ytefghfgmkndikaa
namespace Go.Proofs.Ytefghfgmkndikaa
open Go Go.AX
theorem scanL_err (t : Stamp) (most : Int) (xs : List Cell) (acc : List Pai) : (scanL t most xs acc).2 = 0 ∨ (scanL t most xs acc).2 = 3 := by
  rw [scanL_eq]
  split
  · exact .inl rfl
  · exact .inr rfl
theorem readL_err (p : Prt) (t : Stamp) : ∀ (ss : List Spn) (acc : List Pai), (readL p t ss acc).2 = 0 ∨ (readL p t ss acc).2 = 3
  | [], _ => .inl rfl
  | s :: ss, acc => by
    unfold readL
    dsimp only
    split
    · exact readL_err p t ss _
    · exact scanL_err t _ _ _
theorem readP_err (p : Prt) (c : Cmd) : (readP p c).2.s.err ≠ 25 := by
  unfold readP
  split
  · show (24 : Int) ≠ 25; decide
  · split
    · show (20 : Int) ≠ 25; decide
    · dsimp only
      split
      · show (0 : Int) ≠ 25; decide
      · show (readL p c.s.at_ c.spans []).2 ≠ 25
        rcases readL_err p c.s.at_ c.spans [] with h | h <;> rw [h] <;> decide
theorem prepP_err (p : Prt) (c : Cmd) : (prepP p c).2.s.err ≠ 25 := by
  unfold prepP
  split
  · show (26 : Int) ≠ 25; decide
  · split
    · show (0 : Int) ≠ 25; decide
    · split
      · show (21 : Int) ≠ 25; decide
      · split
        · show (22 : Int) ≠ 25; decide
        · split
          · show (20 : Int) ≠ 25; decide
          · show (0 : Int) ≠ 25; decide
theorem doesP_err (p : Prt) (c : Cmd) : (doesP p c).2.s.err ≠ 25 := by
  unfold doesP
  split
  · exact readP_err p c
  split
  · exact prepP_err p c
  split
  · split
    · show (0 : Int) ≠ 25; decide
    · show (0 : Int) ≠ 25; decide
  split
  · show (0 : Int) ≠ 25; decide
  split
  · show (0 : Int) ≠ 25; decide
  split
  · show (0 : Int) ≠ 25; decide
  · show (9 : Int) ≠ 25; decide
theorem other_law (p : Prt) (c : Cmd) (hk : ¬ c.s.kind = 1) : ((p.s.epoch = 0 ∨ c.s.epoch ≠ p.s.epoch) → applyP p c = (p, errR 25)) ∧ (¬ (p.s.epoch = 0 ∨ c.s.epoch ≠ p.s.epoch) → (applyP p c).2.s.err ≠ 25) := by
  refine ⟨fun h => ?_, fun h => ?_⟩
  · unfold applyP
    simp only [if_neg hk, if_pos h]
    split <;> rfl
  · unfold applyP
    simp only [if_neg hk, if_neg h]
    split
    · exact doesP_err p c
    · exact doesP_err p c
end Go.Proofs.Ytefghfgmkndikaa
namespace Go.AX
open Go
/-- Two ways, where it is plain which one: for simp ahead of the ways themselves. -/
theorem br_TT (A B : Prop) : br (true == true) A B = A := by simp [br]
theorem br_TF (A B : Prop) : br (true == false) A B = B := by simp [br]
theorem br_FT (A B : Prop) : br (false == true) A B = B := by simp [br]
theorem br_FF (A B : Prop) : br (false == false) A B = A := by simp [br]
end Go.AX
namespace Go.Proofs.Ytefghfgmkndikaa
open Go Go.AX
/-- A command of the part's own epoch that is no lease. -/
theorem applyP_own (p : Prt) (c : Cmd) (hk : ¬ c.s.kind = 1) (h0 : ¬ p.s.epoch = 0) (he : c.s.epoch = p.s.epoch) : applyP p c = (if (doesP p c).2.s.err = 0 then doesP p c else (p, (doesP p c).2)) := by
  have hn : ¬ (p.s.epoch = 0 ∨ c.s.epoch ≠ p.s.epoch) := fun h => h.elim h0 (fun h => h he)
  unfold applyP
  simp only [if_neg hk, if_neg hn]
end Go.Proofs.Ytefghfgmkndikaa
namespace Go.Proofs.Ytefghfgmkndikaa
open Go Go.AX
theorem apply_not {p : Prt} {c : Cmd} (h : (applyP p c).2.s.err ≠ 0) : (applyP p c).1 = p := by
  have key : ∀ r : Prt × Rep, (if r.2.s.err = 0 then r else (p, r.2)).2.s.err ≠ 0 → (if r.2.s.err = 0 then r else (p, r.2)).1 = p := by
    intro r
    split
    · rename_i h'; intro h; exact absurd h' h
    · intro _; rfl
  exact key _ h
/-- The ways of a Prepare that is OK. -/
theorem prep_cases {p : Prt} {c : Cmd} (h : (prepP p c).2.s.err = 0) : findO p.done c.s.by_ = none ∧ ((mineL p.cells c.s.by_ = true ∧ prepP p c = (p, ⟨okS, []⟩)) ∨
    (mineL p.cells c.s.by_ = false ∧ ¬ c.s.at_.wall ≤ p.s.closed ∧ Stamp.lt c.s.at_ p.s.floor = false ∧ (∀ w ∈ c.writes, (heldK p.cells w.key).2 = false) ∧
      prepP p c = ({ p with cells := c.writes.foldl (fun cs w => lockL cs w (lkC c)) p.cells }, ⟨okS, []⟩))) := by
  cases hd : findO p.done c.s.by_ with
  | some o =>
    exfalso
    unfold prepP at h
    rw [hd] at h
    exact absurd h (by show ¬ (26 : Int) = 0; decide)
  | none =>
    refine ⟨rfl, ?_⟩
    cases hm : mineL p.cells c.s.by_ with
    | true => left; refine ⟨rfl, ?_⟩; unfold prepP; rw [hd]; simp only [hm, if_true]
    | false =>
      right
      by_cases hc : c.s.at_.wall ≤ p.s.closed
      · exfalso
        unfold prepP at h
        rw [hd] at h
        simp only [hm, Bool.false_eq_true, if_false, if_pos hc] at h
        exact absurd h (by show ¬ (21 : Int) = 0; decide)
      · cases hf : Stamp.lt c.s.at_ p.s.floor with
        | true =>
          exfalso
          unfold prepP at h
          rw [hd] at h
          simp only [hm, Bool.false_eq_true, if_false, if_neg hc, hf, if_true] at h
          exact absurd h (by show ¬ (22 : Int) = 0; decide)
        | false =>
          cases hx : c.writes.find? fun w => (heldK p.cells w.key).2 with
          | some w =>
            exfalso
            unfold prepP at h
            rw [hd] at h
            simp only [hm, Bool.false_eq_true, if_false, if_neg hc, hf, hx] at h
            exact absurd h (by show ¬ (20 : Int) = 0; decide)
          | none =>
            refine ⟨rfl, hc, rfl, fun w hw => ?_, ?_⟩
            · rw [List.find?_eq_none] at hx
              simpa using hx w hw
            · unfold prepP
              rw [hd]
              simp only [hm, Bool.false_eq_true, if_false, if_neg hc, hf, hx]
end Go.Proofs.Ytefghfgmkndikaa
namespace Go.Proofs.Ytefghfgmkndikaa
open Go Go.AX
/-- All locks of these keys are behind the stamp. -/
def FreeAt (t : Stamp) (P : ByteArray → Bool) (cs : List Cell) : Prop := ∀ k, P k = true → ∀ l, heldK cs k = (l, true) → Stamp.lt t l.at_ = true
theorem held_cell {cs : List Cell} {key : ByteArray} {l : Lck} (h : heldK cs key = (l, true)) : ∃ c, cellK cs key = some c ∧ c.locked = true ∧ c.lock = l := by
  unfold heldK at h
  cases hc : cellK cs key with
  | none => rw [hc] at h; cases h
  | some c =>
    rw [hc] at h
    dsimp only at h
    cases hl : c.locked with
    | false => rw [hl] at h; cases h
    | true => rw [hl] at h; exact ⟨c, rfl, hl, by simpa using h⟩
theorem cell_held {cs : List Cell} {key : ByteArray} {c : Cell} (h : cellK cs key = some c) (hl : c.locked = true) : heldK cs key = (c.lock, true) := by
  unfold heldK; rw [h]; simp [hl]
theorem blocks_free {cs : List Cell} (g : Good cs) (t : Stamp) (P : ByteArray → Bool) : (blocksL t (cs.filter fun c => P c.key)).2 = false ↔ FreeAt t P cs := by
  have e : (blocksL t (cs.filter fun c => P c.key)).2 = false ↔ ∀ c ∈ cs, P c.key = true → blocksP t c = false := by
    unfold blocksL
    cases h : (cs.filter fun c => P c.key).find? (blocksP t) with
    | none =>
      rw [List.find?_eq_none] at h
      refine ⟨fun _ c hc hp => ?_, fun _ => rfl⟩
      simpa using h c (List.mem_filter.2 ⟨hc, by simpa using hp⟩)
    | some x =>
      have h1 := List.find?_some h
      have h2 := List.mem_of_find?_eq_some h
      rw [List.mem_filter] at h2
      refine ⟨fun h => (by cases h), fun H => ?_⟩
      rw [H x h2.1 (by simpa using h2.2)] at h1
      cases h1
  rw [e]
  constructor
  · intro H k hk l hl
    obtain ⟨c, hc, h1, h2⟩ := held_cell hl
    obtain ⟨h3, h4⟩ := cellK_key hc
    have := H c h4 (by rw [h3]; exact hk)
    unfold blocksP at this
    rw [h1, h2] at this
    simpa using this
  · intro H c hc hp
    unfold blocksP
    cases hl : c.locked with
    | false => rfl
    | true =>
      have := H c.key hp c.lock (cell_held (cellK_self g.sorted hc) hl)
      simp [this]
theorem pairs_mem {cs : List Cell} (g : Good cs) (t : Stamp) (P : ByteArray → Bool) (k v : ByteArray) : (⟨k, v⟩ : Pai) ∈ pairsL t (cs.filter fun c => P c.key) ↔ P k = true ∧ getK cs k t = (v, true) := by
  unfold pairsL
  rw [List.mem_filterMap]
  constructor
  · rintro ⟨c, hc, h⟩
    rw [List.mem_filter] at hc
    unfold pairO at h
    split at h
    · rename_i ht
      cases h
      refine ⟨by simpa using hc.2, ?_⟩
      rw [getK_self g.sorted hc.1]
      exact Prod.ext rfl ht
    · cases h
  · rintro ⟨hp, hg⟩
    rw [getK_tell g] at hg
    cases hc : cellK cs k with
    | none => rw [hc] at hg; cases hg
    | some c =>
      rw [hc] at hg
      obtain ⟨h1, h2⟩ := cellK_key hc
      have hg' : tellV c.vers t = (v, true) := hg
      refine ⟨c, List.mem_filter.2 ⟨h2, by rw [h1]; simpa using hp⟩, ?_⟩
      unfold pairO
      rw [hg', h1]
      rfl
theorem pairs_rise (t : Stamp) (P : ByteArray → Bool) {cs : List Cell} (hs : Sorted cs) : (pairsL t (cs.filter fun c => P c.key)).Pairwise fun a b => klt a.key b.key = true := by
  have h1 : (cs.filter fun c => P c.key).Pairwise fun a b => klt a.key b.key = true := List.Pairwise.filter _ hs
  unfold pairsL
  rw [List.pairwise_filterMap]
  refine h1.imp ?_
  intro a b hab x hx y hy
  have key : ∀ (c : Cell) (z : Pai), pairO t c = some z → z.key = c.key := by
    intro c z h
    unfold pairO at h
    split at h
    · cases h; rfl
    · cases h
  rw [key a x hx, key b y hy]
  exact hab
theorem rise_eq : ∀ {l m : List Pai}, (l.Pairwise fun a b => klt a.key b.key = true) → (m.Pairwise fun a b => klt a.key b.key = true) → (∀ x, x ∈ l ↔ x ∈ m) → l = m
  | [], [], _, _, _ => rfl
  | [], y :: m, _, _, h => by have := (h y).2 (List.mem_cons_self ..); cases this
  | x :: l, [], _, _, h => by have := (h x).1 (List.mem_cons_self ..); cases this
  | x :: l, y :: m, hl, hm, h => by
    rw [List.pairwise_cons] at hl hm
    have hxy : x = y := by
      rcases List.mem_cons.1 ((h x).1 (List.mem_cons_self ..)) with e | hx
      · exact e
      · rcases List.mem_cons.1 ((h y).2 (List.mem_cons_self ..)) with e | hy
        · exact e.symm
        · have h1 := hm.1 x hx
          have h2 := hl.1 y hy
          rw [klt_asymm h1] at h2
          cases h2
    subst hxy
    rw [rise_eq hl.2 hm.2 fun z => ?_]
    constructor
    · intro hz
      rcases List.mem_cons.1 ((h z).1 (List.mem_cons_of_mem _ hz)) with e | e
      · subst e
        have := hl.1 z hz
        rw [klt_irrefl] at this
        cases this
      · exact e
    · intro hz
      rcases List.mem_cons.1 ((h z).2 (List.mem_cons_of_mem _ hz)) with e | e
      · subst e
        have := hm.1 z hz
        rw [klt_irrefl] at this
        cases this
      · exact e
theorem pairs_get {cs ds : List Cell} (g : Good cs) (k : Good ds) (t : Stamp) (P : ByteArray → Bool) (h : ∀ key, P key = true → getK cs key t = getK ds key t) : pairsL t (cs.filter fun c => P c.key) = pairsL t (ds.filter fun c => P c.key) := by
  refine rise_eq (pairs_rise t P g.sorted) (pairs_rise t P k.sorted) ?_
  rintro ⟨key, v⟩
  rw [pairs_mem g, pairs_mem k]
  constructor
  · rintro ⟨h1, h2⟩; exact ⟨h1, by rw [← h key h1]; exact h2⟩
  · rintro ⟨h1, h2⟩; exact ⟨h1, by rw [h key h1]; exact h2⟩
theorem lock_get {cs : List Cell} (g : Good cs) (w : Wri) (l : Lck) (key : ByteArray) (t : Stamp) : getK (lockL cs w l) key t = getK cs key t := by
  rw [getK_tell (lock_good w l g), getK_tell g, cellK_lock g]
  split
  · rename_i h
    subst h
    cases cellK cs w.key <;> rfl
  · rfl
theorem locks_get {l : Lck} (key : ByteArray) (t : Stamp) : ∀ (ws : List Wri) {cs : List Cell} (_ : Good cs), getK (ws.foldl (fun cs w => lockL cs w l) cs) key t = getK cs key t
  | [], _, _ => rfl
  | w :: ws, cs, g => by rw [List.foldl_cons, locks_get key t ws (lock_good w l g), lock_get g]
theorem lock_free_ {cs : List Cell} (g : Good cs) (w : Wri) (l : Lck) {t : Stamp} {P : ByteArray → Bool} (hF : FreeAt t P cs) (hl : Stamp.lt t l.at_ = true) : FreeAt t P (lockL cs w l) := by
  intro k hk m hm
  by_cases hkw : k = w.key
  · subst hkw
    rw [held_lock g] at hm
    cases hm
    exact hl
  · rw [apart_held g w l k hkw] at hm
    exact hF k hk m hm
theorem locks_free {l : Lck} {t : Stamp} {P : ByteArray → Bool} (hl : Stamp.lt t l.at_ = true) : ∀ (ws : List Wri) {cs : List Cell} (_ : Good cs), FreeAt t P cs → FreeAt t P (ws.foldl (fun cs w => lockL cs w l) cs)
  | [], _, _, hF => hF
  | w :: ws, cs, g, hF => locks_free hl ws (lock_good w l g) (lock_free_ g w l hF hl)
theorem settle_keeps {cs : List Cell} (g : Good cs) (by_ : Try4) (yes : Bool) {t : Stamp} {P : ByteArray → Bool} (hF : FreeAt t P cs) :
    FreeAt t P (settleL cs by_ yes) ∧ ∀ k, P k = true → getK (settleL cs by_ yes) k t = getK cs k t := by
  have g2 := settle_good by_ yes g
  constructor
  · intro k hk l hl
    obtain ⟨d, hd, h1, h2⟩ := held_cell hl
    rw [cellK_settle g] at hd
    cases hc : cellK cs k with
    | none => rw [hc] at hd; cases hd
    | some c =>
      rw [hc, Option.bind_some] at hd
      have hd2 : d = settleC by_ yes c := by
        unfold leftC at hd
        split at hd
        · cases hd; rfl
        · cases hd
      subst hd2
      unfold settleC at h1 h2
      split at h1
      · cases h1
      · rename_i hn
        rw [if_neg hn] at h2
        exact hF k hk l (by rw [← h2]; exact cell_held hc h1)
  · intro k hk
    rw [getK_tell g2, getK_tell g, cellK_settle g]
    cases hc : cellK cs k with
    | none => rfl
    | some c =>
      rw [Option.bind_some, tellC_left]
      show _ = tellV c.vers t
      unfold settleC
      split
      · rename_i hl
        rw [Bool.and_eq_true] at hl
        have hlt := hF k hk c.lock (cell_held hc hl.1)
        dsimp only
        cases yes with
        | false => rfl
        | true =>
          simp only [if_true]
          rw [putV_eq _ (g.ok c (cellK_key hc).2).vs, tellV_eq, tellV_eq]
          exact tell_ahead (v := verL c.lock) hlt _ _
      · rfl
theorem trim_keeps {cs : List Cell} (g : Good cs) {below t : Stamp} {P : ByteArray → Bool} (hF : FreeAt t P cs) (ht : Stamp.lt t below = false) :
    FreeAt t P (trimL cs below) ∧ ∀ k, P k = true → getK (trimL cs below) k t = getK cs k t := by
  constructor
  · intro k hk l hl
    obtain ⟨d, hd, h1, h2⟩ := held_cell hl
    rw [cellK_trim g] at hd
    cases hc : cellK cs k with
    | none => rw [hc] at hd; cases hd
    | some c =>
      rw [hc, Option.bind_some] at hd
      have hd2 : d = trimC below c := by
        unfold leftC at hd
        split at hd
        · cases hd; rfl
        · cases hd
      subst hd2
      have h1' : c.locked = true := h1
      have h2' : c.lock = l := h2
      exact hF k hk l (by rw [← h2']; exact cell_held hc h1')
  · intro k _
    rw [getK_tell (trim_good below g), getK_tell g, cellK_trim g]
    cases hc : cellK cs k with
    | none => rfl
    | some c =>
      rw [Option.bind_some, tellC_left]
      show tellV (c.vers.drop (cutV c.vers below)) t = tellV c.vers t
      exact tell_trim (g.ok c (cellK_key hc).2).vs ht
/-- A command leaves what is told at a stamp, if it writes behind it and trims ahead of it. -/
theorem keep_step {n : Nat} {p : Prt} {c : Cmd} (g : GdP n p) {t : Stamp} {P : ByteArray → Bool} (hF : FreeAt t P p.cells)
    (hp : c.s.kind = 3 → p.s.closed < c.s.at_.wall → Stamp.lt c.s.at_ p.s.floor = false → Stamp.lt t c.s.at_ = true) (ht : (applyP p c).1.s.low ≤ t.wall) (h0 : 0 ≤ t.tie) :
    FreeAt t P (applyP p c).1.cells ∧ ∀ k, P k = true → getK (applyP p c).1.cells k t = getK p.cells k t := by
  have gg := g.sz.cells.good
  have self : FreeAt t P p.cells ∧ ∀ k, P k = true → getK p.cells k t = getK p.cells k t := ⟨hF, fun _ _ => rfl⟩
  rcases applyP_cases p c with h | ⟨_, h⟩ | ⟨_, _, h⟩
  · rw [h]; exact self
  · rw [h]
    unfold leaseP
    split
    · exact self
    · exact self
  · rw [h] at ht ⊢
    by_cases hr : (doesP p c).2.s.err = 0
    · unfold doesP at ht hr ⊢
      split
      · rcases readP_1 p c with e | e <;> rw [e] <;> exact self
      rename_i k2
      rw [if_neg k2] at ht hr
      split
      · rename_i k3
        rw [if_pos k3] at ht hr
        obtain ⟨_, ⟨_, e⟩ | ⟨_, e1, e2, _, e⟩⟩ := prep_cases hr
        · rw [e]; exact self
        · rw [e]
          have hl : Stamp.lt t (lkC c).at_ = true := hp k3 (by omega) e2
          exact ⟨locks_free hl _ gg hF, fun k _ => locks_get k t _ gg⟩
      rename_i k3
      rw [if_neg k3] at ht hr
      split
      · split <;> exact self
      rename_i k4
      rw [if_neg k4] at ht hr
      split
      · exact settle_keeps gg c.s.by_ c.s.yes hF
      rename_i k5
      rw [if_neg k5] at ht hr
      split
      · exact self
      rename_i k6
      rw [if_neg k6] at ht hr
      split
      · rename_i k7
        rw [if_pos k7] at ht hr
        refine trim_keeps gg hF ?_
        have ht' : maxI p.s.low (minI c.s.wall p.s.closed) ≤ t.wall := ht
        cases hx : Stamp.lt t ⟨maxI p.s.low (minI c.s.wall p.s.closed), 0⟩ with
        | false => rfl
        | true =>
          rw [Stamp.lt_iff] at hx
          dsimp only at hx
          omega
      · exact self
    · have hx := applyP_cases p c
      have : (doesP p c).1 = p := by
        have h2 : (applyP p c).2.s.err ≠ 0 := by rw [h]; exact hr
        have h3 := apply_not h2
        rw [← h]; exact h3
      rw [this]; exact self
end Go.Proofs.Ytefghfgmkndikaa
namespace Go.AX
open Go
theorem row_cm2 {h : Heap} {b o : Nat} {v : CmV} (r : Row h b o (eCm v)) : cel h b (o + 0) = some (vi v.s.kind) ∧ rd h b (o + 8) 2 = some (eStamp v.s.at_) ∧ cel h b (o + 8 + 1) = some (vi v.s.at_.tie) :=
  ⟨r 0 (by rw [eCm_len]; omega), r.rd 8 2 (by rw [eCm_len]; omega), r 9 (by rw [eCm_len]; omega)⟩
theorem Stamp.ge_trans {a b c : Stamp} (h : Stamp.lt b a = false) (k : Stamp.lt c b = false) : Stamp.lt c a = false := by
  cases hx : Stamp.lt c a with
  | false => rfl
  | true =>
    have h' : ¬ Stamp.lt b a = true := by rw [h]; simp
    have k' : ¬ Stamp.lt c b = true := by rw [k]; simp
    rw [Stamp.lt_iff] at h' k' hx
    omega
/-- An index that any number gives. -/
theorem mod_idx (r : Int) {n : Nat} (h : 0 < n) : 0 ≤ (r.tmod n + n).tmod n ∧ (r.tmod n + n).tmod n < n ∧ -(n : Int) < r.tmod n ∧ r.tmod n < n := by
  have h0 : (0 : Int) < n := by omega
  have h1 := Int.tmod_lt_of_pos r h0
  have h2 := Int.lt_tmod_of_pos r h0
  exact ⟨Int.tmod_nonneg _ (by omega), Int.tmod_lt_of_pos _ h0, h2, h1⟩
end Go.AX
namespace Go.Proofs.Ytefghfgmkndikaa
open Go Go.AX
theorem negative_ok {B : Nat → Prop} {a : Option Addr} {n : Nat} (l : List Cmd) (h : Heap) (S : SlM B h a l) (hl : l.length ≤ 1000) {R : Value → Heap → Prop}
    (hR : ∀ b : Bool, (b = false → ∀ c ∈ l, 0 ≤ c.s.at_.tie) → R (.bool b) h) : CallsH Try.prog 66 [.slice a l.length n] h R := by
  refine f66ok (by simp) ?_
  (try simp (config := { maxSteps := 1000000 }) (disch := first | exact Nat.le_of_ble_eq_true rfl | omega) only [AXS, AXB, J.dst, reduceIte, Nat.reduceEqDiff, Nat.reduceAdd, Nat.reduceMul, Nat.reduceLT, Nat.reduceLeDiff]); rw [f66c0_eq]; (try simp (config := { maxSteps := 1000000 }) (disch := first | exact Nat.le_of_ble_eq_true rfl | omega) only [AXS, AXB, J.dst, reduceIte, Nat.reduceEqDiff, Nat.reduceAdd, Nat.reduceMul, Nat.reduceLT, Nat.reduceLeDiff, f66r0]); rw [f66c1_eq]; (try simp (config := { maxSteps := 1000000 }) (disch := first | exact Nat.le_of_ble_eq_true rfl | omega) only [AXS, AXB, J.dst, reduceIte, Nat.reduceEqDiff, Nat.reduceAdd, Nat.reduceMul, Nat.reduceLT, Nat.reduceLeDiff, f66r1])
  rw [f66c2_eq]
  refine loop_in (fun m σ h' => h' = h ∧ ∃ k : Nat, k + m = l.length ∧ (∀ (j : Nat) (c : Cmd), j < k → l[j]? = some c → 0 ≤ c.s.at_.tie) ∧ σ = [(0, .slice a l.length n), (3, vi k)]) l.length ⟨rfl, 0, by omega, by intros; omega, rfl⟩ ?_
  rintro m σ h' ⟨rfl, k, hk, hj, rfl⟩ Q' hnx hex hrt _
  (try simp (config := { maxSteps := 1000000 }) (disch := first | exact Nat.le_of_ble_eq_true rfl | omega) only [AXS, AXB, J.dst, reduceIte, Nat.reduceEqDiff, Nat.reduceAdd, Nat.reduceMul, Nat.reduceLT, Nat.reduceLeDiff]); rw [f66c3_eq]; (try simp (config := { maxSteps := 1000000 }) (disch := first | exact Nat.le_of_ble_eq_true rfl | omega) only [AXS, AXB, J.dst, reduceIte, Nat.reduceEqDiff, Nat.reduceAdd, Nat.reduceMul, Nat.reduceLT, Nat.reduceLeDiff, f66r2]); rw [f66c4_eq]; (try simp (config := { maxSteps := 1000000 }) (disch := first | exact Nat.le_of_ble_eq_true rfl | omega) only [AXS, AXB, J.dst, reduceIte, Nat.reduceEqDiff, Nat.reduceAdd, Nat.reduceMul, Nat.reduceLT, Nat.reduceLeDiff])
  refine ⟨fun hh => ?_, fun hh => ?_⟩
  · have hkl : k < l.length := by have := of_decide_eq_true hh; omega
    obtain ⟨c, hx⟩ := get_ex hkl
    obtain ⟨b', o, v, rfl, _, hrow, hcr⟩ := S.elem hx
    (try simp (config := { maxSteps := 1000000 }) (disch := first | exact Nat.le_of_ble_eq_true rfl | omega) only [AXS, AXB, J.dst, reduceIte, Nat.reduceEqDiff, Nat.reduceAdd, Nat.reduceMul, Nat.reduceLT, Nat.reduceLeDiff]); rw [f66c5_eq]; (try simp (config := { maxSteps := 1000000 }) (disch := first | exact Nat.le_of_ble_eq_true rfl | omega) only [AXS, AXB, J.dst, reduceIte, Nat.reduceEqDiff, Nat.reduceAdd, Nat.reduceMul, Nat.reduceLT, Nat.reduceLeDiff])
    rw [f66c6_eq]

    simp (config := { maxSteps := 1000000 }) (disch := first | exact Nat.le_of_ble_eq_true rfl | omega) only [AXS, AXB, J.dst, reduceIte, Nat.reduceEqDiff, Nat.reduceAdd, Nat.reduceMul, Nat.reduceLT, Nat.reduceLeDiff, f66r3, row_cm2 hrow, hcr.s]
    refine ⟨by omega, by omega, ?_⟩
    rw [f66c7_eq]
    simp (config := { maxSteps := 1000000 }) (disch := first | exact Nat.le_of_ble_eq_true rfl | omega) only [AXS, AXB, J.dst, reduceIte, Nat.reduceEqDiff, Nat.reduceAdd, Nat.reduceMul, Nat.reduceLT, Nat.reduceLeDiff]
    refine ⟨fun h7 => ?_, fun h7 => ?_⟩
    · (try simp (config := { maxSteps := 1000000 }) (disch := first | exact Nat.le_of_ble_eq_true rfl | omega) only [AXS, AXB, J.dst, reduceIte, Nat.reduceEqDiff, Nat.reduceAdd, Nat.reduceMul, Nat.reduceLT, Nat.reduceLeDiff]); rw [f66c8_eq]; (try simp (config := { maxSteps := 1000000 }) (disch := first | exact Nat.le_of_ble_eq_true rfl | omega) only [AXS, AXB, J.dst, reduceIte, Nat.reduceEqDiff, Nat.reduceAdd, Nat.reduceMul, Nat.reduceLT, Nat.reduceLeDiff, f66r4])
      refine hrt _ _ ?_
      simp (config := { maxSteps := 1000000 }) (disch := first | exact Nat.le_of_ble_eq_true rfl | omega) only [AXS, AXB, J.dst, reduceIte, Nat.reduceEqDiff, Nat.reduceAdd, Nat.reduceMul, Nat.reduceLT, Nat.reduceLeDiff]
      exact hR true (fun h => by cases h)
    · (try simp (config := { maxSteps := 1000000 }) (disch := first | exact Nat.le_of_ble_eq_true rfl | omega) only [AXS, AXB, J.dst, reduceIte, Nat.reduceEqDiff, Nat.reduceAdd, Nat.reduceMul, Nat.reduceLT, Nat.reduceLeDiff]); rw [f66c9_eq]; (try simp (config := { maxSteps := 1000000 }) (disch := first | exact Nat.le_of_ble_eq_true rfl | omega) only [AXS, AXB, J.dst, reduceIte, Nat.reduceEqDiff, Nat.reduceAdd, Nat.reduceMul, Nat.reduceLT, Nat.reduceLeDiff, f66r5])
      rw [i64_wrap (by omega) (by omega)]
      refine hnx (m - 1) _ _ (by omega) ⟨rfl, k + 1, by omega, ?_, rfl⟩
      intro j c' hj' hc'
      rcases Nat.lt_or_ge j k with hlt | hge
      · exact hj j c' hlt hc'
      · have : j = k := by omega
        subst this
        rw [hx] at hc'; cases hc'
        have := of_decide_eq_false h7
        omega
  · have hkl : k = l.length := by have := of_decide_eq_false hh; omega
    subst hkl
    refine hex _ _ ?_
    (try simp (config := { maxSteps := 1000000 }) (disch := first | exact Nat.le_of_ble_eq_true rfl | omega) only [AXS, AXB, J.dst, reduceIte, Nat.reduceEqDiff, Nat.reduceAdd, Nat.reduceMul, Nat.reduceLT, Nat.reduceLeDiff]); rw [f66c10_eq]; (try simp (config := { maxSteps := 1000000 }) (disch := first | exact Nat.le_of_ble_eq_true rfl | omega) only [AXS, AXB, J.dst, reduceIte, Nat.reduceEqDiff, Nat.reduceAdd, Nat.reduceMul, Nat.reduceLT, Nat.reduceLeDiff, f66r6])
    refine hR false (fun _ c hc => ?_)
    obtain ⟨j, hjl, rfl⟩ := List.mem_iff_getElem.1 hc
    exact hj j _ (by omega) (List.getElem?_eq_getElem hjl)
def toldL (p : Prt) (t : Stamp) (ss : List Spn) : List Pai := ss.flatMap fun s => pairsL t (cellsIn p s)
theorem readL_told {p : Prt} (g : Good p.cells) (t : Stamp) : ∀ (ss : List Spn) (acc : List Pai), (readL p t ss acc).2 = 0 → acc.length ≤ 512 → (readL p t ss acc).1 = acc ++ toldL p t ss ∧ (readL p t ss acc).1.length ≤ 512
  | [], acc, _, h => ⟨by simp [toldL, readL], h⟩
  | s :: ss, acc, h0, h => by
    have e : withinL p.cells s = cellsIn p s := withinL_eq s g.sorted
    have hs := scanL_eq t (512 - acc.length) (withinL p.cells s) []
    rw [e] at hs
    have hu : readL p t (s :: ss) acc = if (scanL t (512 - acc.length) (withinL p.cells s) []).2 = 0 then readL p t ss (acc ++ (scanL t (512 - acc.length) (withinL p.cells s) []).1) else (acc, (scanL t (512 - acc.length) (withinL p.cells s) []).2) := rfl
    rw [hu] at h0 ⊢
    rw [e] at h0 ⊢
    by_cases hr : (scanL t (512 - acc.length) (cellsIn p s) []).2 = 0
    · rw [if_pos hr] at h0 ⊢
      have e1 : (scanL t (512 - acc.length) (cellsIn p s) []).1 = pairsL t (cellsIn p s) ∧ (acc ++ pairsL t (cellsIn p s)).length ≤ 512 := by
        rw [hs] at hr ⊢
        split at hr
        · rename_i hc
          rw [if_pos hc]
          refine ⟨by simp, ?_⟩
          rw [List.length_append]
          rcases hc with hc | hc
          · rw [hc]; simpa using h
          · simp only [List.length_nil] at hc; omega
        · exact absurd hr (by show ¬ (3 : Int) = 0; decide)
      rw [e1.1] at h0 ⊢
      obtain ⟨a1, a2⟩ := readL_told g t ss _ h0 e1.2
      refine ⟨?_, a2⟩
      rw [a1, List.append_assoc]
      rfl
    · rw [if_neg hr] at h0
      exact absurd h0 hr
theorem read_start {p : Prt} {c : Cmd} (g : Good p.cells) (hk : c.s.kind = 2) (h : (applyP p c).2.s.err = 0) :
    (∀ s ∈ c.spans, (blocksL c.s.at_ (cellsIn p s)).2 = false) ∧ (applyP p c).1 = { p with s := { p.s with floor := maxS p.s.floor c.s.at_ } } ∧ (applyP p c).2.pairs = toldL p c.s.at_ c.spans ∧ (toldL p c.s.at_ c.spans).length ≤ 512 := by
  by_cases he : p.s.epoch = 0 ∨ c.s.epoch ≠ p.s.epoch
  · rw [(other_law p c (by omega)).1 he] at h
    exact absurd h (by show ¬ (25 : Int) = 0; decide)
  · have he1 : ¬ p.s.epoch = 0 := fun h => he (.inl h)
    have he2 : c.s.epoch = p.s.epoch := Decidable.byContradiction fun h => he (.inr h)
    have hap := applyP_own p c (by omega) he1 he2
    have hd : doesP p c = readP p c := by unfold doesP; rw [if_pos hk]
    rw [hd] at hap
    by_cases hr : (readP p c).2.s.err = 0
    · rw [if_pos hr] at hap
      rw [hap]
      have hl : ¬ c.s.at_.wall < p.s.low := by
        intro hl
        unfold readP at hr
        rw [if_pos hl] at hr
        exact absurd hr (by show ¬ (24 : Int) = 0; decide)
      cases hf : c.spans.find? (fun s => (blocksL c.s.at_ (cellsIn p s)).2) with
      | some s =>
        exfalso
        unfold readP at hr
        rw [if_neg hl, hf] at hr
        exact absurd hr (by show ¬ (20 : Int) = 0; decide)
      | none =>
        by_cases h2 : (readL p c.s.at_ c.spans []).2 = 0
        · have e : readP p c = ({ p with s := { p.s with floor := maxS p.s.floor c.s.at_ } }, ⟨okS, (readL p c.s.at_ c.spans []).1⟩) := by
            unfold readP; rw [if_neg hl, hf]; simp only [if_pos h2]
          obtain ⟨a1, a2⟩ := readL_told g c.s.at_ c.spans [] h2 (by simp)
          rw [e]
          refine ⟨fun s hs => ?_, rfl, ?_, ?_⟩
          · rw [List.find?_eq_none] at hf
            simpa using hf s hs
          · show (readL p c.s.at_ c.spans []).1 = _
            rw [a1]; rfl
          · rw [a1] at a2
            simpa using a2
        · exfalso
          unfold readP at hr
          rw [if_neg hl, hf] at hr
          simp only [if_neg h2] at hr
          exact h2 hr
    · rw [if_neg hr] at hap
      rw [hap] at h
      exact absurd h hr
/-- What is told at a stamp is as it was. -/
structure Rd (t : Stamp) (ss : List Spn) (p0 p : Prt) : Prop where
  free : ∀ s ∈ ss, FreeAt t (inS s) p.cells
  told : ∀ s ∈ ss, pairsL t (cellsIn p s) = pairsL t (cellsIn p0 s)
  floor : Stamp.lt p.s.floor t = false
theorem Rd.step {n : Nat} {t : Stamp} {ss : List Spn} {p0 p : Prt} {c : Cmd} (r : Rd t ss p0 p) (g : GdP n p) (hc : Lt100 c) (h0 : 0 ≤ t.tie) (hne : ¬ (c.s.kind = 3 ∧ c.s.at_ = t)) (hlow : ¬ t.wall < (applyP p c).1.s.low) : Rd t ss p0 (applyP p c).1 := by
  have gq := applyG g hc
  have hp : c.s.kind = 3 → p.s.closed < c.s.at_.wall → Stamp.lt c.s.at_ p.s.floor = false → Stamp.lt t c.s.at_ = true := by
    intro k3 _ hf
    have h1 := Stamp.ge_trans r.floor hf
    rcases Stamp.lt_total t c.s.at_ with h | h | h
    · exact h
    · exact absurd ⟨k3, h.symm⟩ hne
    · rw [h] at h1; cases h1
  refine ⟨fun s hs => ?_, fun s hs => ?_, ?_⟩
  · exact (keep_step g (r.free s hs) hp (by omega) h0).1
  · rw [← r.told s hs]
    exact pairs_get gq.sz.cells.good g.sz.cells.good t (inS s) (keep_step g (r.free s hs) hp (by omega) h0).2
  · exact Stamp.ge_trans r.floor (applyLater p c).floor
theorem Rd.start {p : Prt} {c : Cmd} (g : Good p.cells) (h : ∀ s ∈ c.spans, (blocksL c.s.at_ (cellsIn p s)).2 = false) : Rd c.s.at_ c.spans p { p with s := { p.s with floor := maxS p.s.floor c.s.at_ } } := by
  refine ⟨fun s hs => (blocks_free g c.s.at_ (inS s)).1 (h s hs), fun _ _ => rfl, ?_⟩
  show Stamp.lt (maxS p.s.floor c.s.at_) c.s.at_ = false
  unfold maxS
  split
  · exact Stamp.lt_irrefl _
  · rename_i hh
    cases hx : Stamp.lt p.s.floor c.s.at_ with
    | false => rfl
    | true => exact absurd hx hh
theorem Rd.blocks {n : Nat} {t : Stamp} {ss : List Spn} {p0 p : Prt} (r : Rd t ss p0 p) (g : GdP n p) {s : Spn} (hs : s ∈ ss) : (blocksL t (p.cells.filter fun c => inS s c.key)).2 = false :=
  (blocks_free g.sz.cells.good t (inS s)).2 (r.free s hs)
theorem Rd.scan {n : Nat} {t : Stamp} {ss : List Spn} {p0 p : Prt} (r : Rd t ss p0 p) (g : GdP n p) {s : Spn} (hs : s ∈ ss) {most : Int} (hm : ((pairsL t (cellsIn p0 s)).length : Int) ≤ most) : scanL t most (withinL p.cells s) [] = (pairsL t (cellsIn p0 s), 0) := by
  rw [scanL_eq, show withinL p.cells s = cellsIn p s from withinL_eq s g.sz.cells.good.sorted, r.told s hs, if_pos (.inr (by simpa using hm))]
  simp
/-- What is closed is told the same. -/
structure Cl (t : Stamp) (s : Spn) (p0 p : Prt) : Prop where
  free : FreeAt t (inS s) p.cells
  told : pairsL t (cellsIn p s) = pairsL t (cellsIn p0 s)
  closed : t.wall ≤ p.s.closed
theorem Cl.start {n : Nat} {t : Stamp} {s : Spn} {p : Prt} (g : GdP n p) (h : (blocksL t (p.cells.filter fun c => inS s c.key)).2 = false) (hc : t.wall ≤ p.s.closed) : Cl t s p p :=
  ⟨(blocks_free g.sz.cells.good t (inS s)).1 h, rfl, hc⟩
theorem Cl.step {n : Nat} {t : Stamp} {s : Spn} {p0 p : Prt} {c : Cmd} (r : Cl t s p0 p) (g : GdP n p) (hc : Lt100 c) (h0 : 0 ≤ t.tie) (hlow : (applyP p c).1.s.low ≤ t.wall) : Cl t s p0 (applyP p c).1 := by
  have gq := applyG g hc
  have hp : c.s.kind = 3 → p.s.closed < c.s.at_.wall → Stamp.lt c.s.at_ p.s.floor = false → Stamp.lt t c.s.at_ = true := by
    intro _ h1 _
    have h2 := r.closed
    rw [Stamp.lt_iff]
    left; omega
  refine ⟨(keep_step g r.free hp hlow h0).1, ?_, Int.le_trans r.closed (applyLater p c).closed⟩
  rw [← r.told]
  exact pairs_get gq.sz.cells.good g.sz.cells.good t (inS s) (keep_step g r.free hp hlow h0).2
theorem Cl.blocks {n : Nat} {t : Stamp} {s : Spn} {p0 p : Prt} (r : Cl t s p0 p) (g : GdP n p) : (blocksL t (p.cells.filter fun c => inS s c.key)).2 = false :=
  (blocks_free g.sz.cells.good t (inS s)).2 r.free
theorem Cl.scan {n m : Nat} {t : Stamp} {s : Spn} {p0 p : Prt} (r : Cl t s p0 p) (g : GdP n p) (g0 : GdP m p0) (most : Int) : scanL t most (withinL p.cells s) [] = scanL t most (withinL p0.cells s) [] := by
  rw [scanL_eq, scanL_eq, show withinL p.cells s = cellsIn p s from withinL_eq s g.sz.cells.good.sorted, show withinL p0.cells s = cellsIn p0 s from withinL_eq s g0.sz.cells.good.sorted, r.told]
end Go.Proofs.Ytefghfgmkndikaa
