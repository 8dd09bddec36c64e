/-
  Walks: the reference's Trim.
-/
import Derived.Test.YtefghfgmkndikaaWE
set_option linter.unusedSimpArgs false
set_option linter.unusedVariables false
namespace Go.AX
open Go
def preV (vs : List Ver) (below : Stamp) : Nat := (vs.takeWhile fun v => !Stamp.lt below v.at_).length
def rcutV (vs : List Ver) (below : Stamp) : Nat :=
  if 0 < preV vs below ∧ (vs.getD (preV vs below - 1) default).drop = false then preV vs below - 1 else preV vs below
def rtrimC (below : Stamp) (c : Cell) : Cell := { c with vers := c.vers.drop (rcutV c.vers below) }
def rtrimL (cs : List Cell) (below : Stamp) : List Cell := cs.filterMap fun c => leftC (rtrimC below c)
theorem preV_eq (t : Stamp) : ∀ (vs : List Ver) (i : Nat), i ≤ vs.length → (∀ p v, p < i → vs[p]? = some v → Stamp.lt t v.at_ = false) → (∀ v, vs[i]? = some v → Stamp.lt t v.at_ = true) → preV vs t = i
  | [], i, h, _, _ => by have : i = 0 := by simpa using h
                         subst this; rfl
  | c :: cs, 0, _, _, h => by
    have := h c rfl
    simp [preV, List.takeWhile, this]
  | c :: cs, i + 1, hl, h, h' => by
    have h0 := h 0 c (by omega) rfl
    have := preV_eq t cs i (by simpa using hl) (fun p d hp hd => h (p + 1) d (by omega) (by simpa using hd)) (fun d hd => h' d (by simpa using hd))
    unfold preV at this ⊢
    simp [List.takeWhile, h0, this]
theorem preV_le (vs : List Ver) (t : Stamp) : preV vs t ≤ vs.length := by unfold preV; exact List.Sublist.length_le (List.takeWhile_sublist _)
theorem rcutV_le (vs : List Ver) (t : Stamp) : rcutV vs t ≤ vs.length := by
  have := preV_le vs t
  unfold rcutV; split <;> omega
/-- A part of a slice, from a place on. -/
theorem SlF.drop {B : Nat → Prop} {h : Heap} {a a' : Option Addr} {vs : List Ver} (S : SlF B h eVer a vs) {l c : Nat} (hc : vs.length ≤ c) (ha : l < c → a' = a.map (·.add (l * 4))) : SlF B h eVer a' (vs.drop l) := by
  intro hne
  have hlt : l < vs.length := by
    rcases Nat.lt_or_ge l vs.length with h | h
    · exact h
    · exact absurd (List.drop_of_length_le h) hne
  obtain ⟨b, o, rfl, hb, hrow⟩ := S (by rintro rfl; simp at hlt)
  refine ⟨b, o + l * 4, by rw [ha (by omega), Option.map_some, add_mk], hb, ?_⟩
  have := hrow.sub (l * 4) ((vs.flatMap eVer).length - l * 4)
  rw [List.take_of_length_le (by rw [List.length_drop]; omega), flatMap_drop eVer_len] at this
  exact this
end Go.AX
namespace Go.Proofs.Ytefghfgmkndikaa
open Go Go.AX

theorem rtrim_ok {B : Nat → Prop} {a : Option Addr} {c : Nat} (cs : List Cell) (below : Stamp) (h : Heap) (S : SlC B h a cs) (hn : cs.length ≤ big) (F : ∀ c ∈ cs, c.vers.length < big) {R : Value → Heap → Prop}
    (hR : ∀ a' n' c' h', OwnC h.size h' a' n' c' (rtrimL cs below) → Ext h h' → R (.slice a' n' c') h') : CallsH Try.prog 81 [.slice a cs.length c, .agg (eStamp below).toArray] h R := by
  have hbig : big = 1000000 := rfl
  refine f81ok (by simp) ?_
  (try simp (disch := first | exact Nat.le_of_ble_eq_true rfl | omega) only [AXR, AXB, J.dst, reduceIte, Nat.reduceEqDiff, Nat.reduceAdd, Nat.reduceMul, Nat.reduceLT, Nat.reduceLeDiff]); rw [f81c0_eq]; (try simp (disch := first | exact Nat.le_of_ble_eq_true rfl | omega) only [AXR, AXB, J.dst, reduceIte, Nat.reduceEqDiff, Nat.reduceAdd, Nat.reduceMul, Nat.reduceLT, Nat.reduceLeDiff, f81r0, f81r1, f81r2, f81r3, f81r4, f81r5, f81r6, f81r7, f81r8, f81r9, f81r10, f81r11, f81r12, f81r13, f81r14, f81r15])
  refine wL_boxN rfl ?_; rintro b1 h1 e1 s1 hb1 (B1 : Blk _ _ _ (eStamp below))
  (try simp (disch := first | exact Nat.le_of_ble_eq_true rfl | omega) only [AXR, AXB, J.dst, reduceIte, Nat.reduceEqDiff, Nat.reduceAdd, Nat.reduceMul, Nat.reduceLT, Nat.reduceLeDiff]); rw [f81c1_eq]; (try simp (disch := first | exact Nat.le_of_ble_eq_true rfl | omega) only [AXR, AXB, J.dst, reduceIte, Nat.reduceEqDiff, Nat.reduceAdd, Nat.reduceMul, Nat.reduceLT, Nat.reduceLeDiff, f81r0, f81r1, f81r2, f81r3, f81r4, f81r5, f81r6, f81r7, f81r8, f81r9, f81r10, f81r11, f81r12, f81r13, f81r14, f81r15]); rw [f81c2_eq]; (try simp (disch := first | exact Nat.le_of_ble_eq_true rfl | omega) only [AXR, AXB, J.dst, reduceIte, Nat.reduceEqDiff, Nat.reduceAdd, Nat.reduceMul, Nat.reduceLT, Nat.reduceLeDiff, f81r0, f81r1, f81r2, f81r3, f81r4, f81r5, f81r6, f81r7, f81r8, f81r9, f81r10, f81r11, f81r12, f81r13, f81r14, f81r15])
  refine copy_ok cs _ (S.ext e1) hn (fun c hc => Nat.le_of_lt (F c hc)) ?_
  intro al cl h2 L e2
  try simp (disch := first | exact Nat.le_of_ble_eq_true rfl | omega) only [AXR, AXB, J.dst, reduceIte, Nat.reduceEqDiff, Nat.reduceAdd, Nat.reduceMul, Nat.reduceLT, Nat.reduceLeDiff]
  (try simp (disch := first | exact Nat.le_of_ble_eq_true rfl | omega) only [AXR, AXB, J.dst, reduceIte, Nat.reduceEqDiff, Nat.reduceAdd, Nat.reduceMul, Nat.reduceLT, Nat.reduceLeDiff]); rw [f81c3_eq]; (try simp (disch := first | exact Nat.le_of_ble_eq_true rfl | omega) only [AXR, AXB, J.dst, reduceIte, Nat.reduceEqDiff, Nat.reduceAdd, Nat.reduceMul, Nat.reduceLT, Nat.reduceLeDiff, f81r0, f81r1, f81r2, f81r3, f81r4, f81r5, f81r6, f81r7, f81r8, f81r9, f81r10, f81r11, f81r12, f81r13, f81r14, f81r15])
  rw [f81c4_eq]
  have e12 := e1.trans e2
  refine loop_in (fun n σ h' => Ext h2 h' ∧ ∃ (k m c' : Nat) (a' : Option Addr), k + n = cs.length ∧ m ≤ k ∧ OwnC h1.size h' a' m c' ((cs.take k).filterMap fun c => leftC (rtrimC below c)) ∧ (∀ j, ob a' = some j → h2.size ≤ j) ∧
      σ = [(3, ptr b1 0), (5, .slice a' m c'), (6, .slice al cs.length cl), (7, vi k)])
    cs.length ⟨Ext.refl _, 0, 0, 0, none, by omega, by omega, OwnC.nil _ _, by simp [ob], rfl⟩ ?_
  rintro n σ h' ⟨e3, k, m, c', a', hk, hm, O, hA, rfl⟩ Q' hnx hex hrt _
  obtain ⟨vsl, L1, L2, L3⟩ := L
  have S2 : SlC (fun b => h1.size ≤ b ∧ b < h2.size) h2 al cs := OwnC.slc ⟨vsl, L1, L2, L3⟩
  (try simp (disch := first | exact Nat.le_of_ble_eq_true rfl | omega) only [AXR, AXB, J.dst, reduceIte, Nat.reduceEqDiff, Nat.reduceAdd, Nat.reduceMul, Nat.reduceLT, Nat.reduceLeDiff]); rw [f81c5_eq]; (try simp (disch := first | exact Nat.le_of_ble_eq_true rfl | omega) only [AXR, AXB, J.dst, reduceIte, Nat.reduceEqDiff, Nat.reduceAdd, Nat.reduceMul, Nat.reduceLT, Nat.reduceLeDiff, f81r0, f81r1, f81r2, f81r3, f81r4, f81r5, f81r6, f81r7, f81r8, f81r9, f81r10, f81r11, f81r12, f81r13, f81r14, f81r15]); rw [f81c6_eq]; (try simp (disch := first | exact Nat.le_of_ble_eq_true rfl | omega) only [AXR, AXB, J.dst, reduceIte, Nat.reduceEqDiff, Nat.reduceAdd, Nat.reduceMul, Nat.reduceLT, Nat.reduceLeDiff, f81r0, f81r1, f81r2, f81r3, f81r4, f81r5, f81r6, f81r7, f81r8, f81r9, f81r10, f81r11, f81r12, f81r13, f81r14, f81r15])
  refine ⟨fun h2 => ?_, fun h2 => ?_⟩
  · have hkl : k < cs.length := by have := of_decide_eq_true h2; omega
    obtain ⟨x, hx⟩ := get_ex hkl
    obtain ⟨b, o, v, rfl, _, hrow, hcr⟩ := S2.elem hx
    have hxF := F x (List.mem_of_getElem? hx)
    rw [f81c7_eq]
    (try simp (disch := first | exact Nat.le_of_ble_eq_true rfl | omega) only [AXR, AXB, J.dst, reduceIte, Nat.reduceEqDiff, Nat.reduceAdd, Nat.reduceMul, Nat.reduceLT, Nat.reduceLeDiff]); rw [f81c8_eq]; (try simp (disch := first | exact Nat.le_of_ble_eq_true rfl | omega) only [AXR, AXB, J.dst, reduceIte, Nat.reduceEqDiff, Nat.reduceAdd, Nat.reduceMul, Nat.reduceLT, Nat.reduceLeDiff, f81r0, f81r1, f81r2, f81r3, f81r4, f81r5, f81r6, f81r7, f81r8, f81r9, f81r10, f81r11, f81r12, f81r13, f81r14, f81r15, row_cv (hrow.ext e3)])
    refine ⟨by omega, by omega, ?_⟩
    refine wL_newN ?_; rintro b4 h4 e4 s4 hb4 B4
    refine wL_stN rfl rfl rfl B4 (by decide) (eCV_one v) ?_; rintro h5 u5 (B5 : Blk _ _ _ (eCV v))
    have e5 := u5.ext e4 (by omega)
    try simp (disch := first | exact Nat.le_of_ble_eq_true rfl | omega) only [AXR, AXB, J.dst, reduceIte, Nat.reduceEqDiff, Nat.reduceAdd, Nat.reduceMul, Nat.reduceLT, Nat.reduceLeDiff]
    have hO := O.row
    have hs1 := B1.lt
    have hs2 := e2.size
    have hs3 := e3.size
    have hs5 := e5.size
    have e35 := e3.trans e5
    have hb45 := B5.lt
    -- what is left is appended
    have app : ∀ (h8 : Heap) (τ : Env) (v8 : CV) (c8 : Cell), Ext h' h8 → Blk h8 b4 103 (eCV v8) → CR (fun b => h1.size ≤ b ∧ b < h8.size ∧ some b ≠ ob a') h8 v8 c8 → c8 = rtrimC below x →
        AX.look τ 3 = some (ptr b1 0) → AX.look τ 5 = some (.slice a' m c') → AX.look τ 8 = some (ptr b4 0) → AX.look τ 6 = some (.slice (some ⟨b, o, none⟩) cs.length cl) → AX.look τ 7 = some (vi k) →
        wC Try.prog f81c19 (X.inBlock 1 (X.then (fun σ h => wC Try.prog f81c22 Q' σ h) Q')) τ h8 := by
      intro h8 τ v8 c8 e8 B8 O8 hres l3 l5 l8 l6 l7
      have hw : IntKind.i64.wrap ((k : Int) + 1) = ((k + 1 : Nat) : Int) := i64_wrap (by omega) (by omega)
      have hskip : leftC c8 = none → wC Try.prog f81c20 (X.inBlock 1 (X.then (fun σ h => wC Try.prog f81c22 Q' σ h) Q')) [(3, ptr b1 0), (5, .slice a' m c'), (6, .slice (some ⟨b, o, none⟩) cs.length cl), (7, vi k), (8, ptr b4 0), (66, .bool false)] h8 := by
        intro hl
        (try simp (disch := first | exact Nat.le_of_ble_eq_true rfl | omega) only [AXR, AXB, J.dst, reduceIte, Nat.reduceEqDiff, Nat.reduceAdd, Nat.reduceMul, Nat.reduceLT, Nat.reduceLeDiff]); rw [f81c20_eq]; (try simp (disch := first | exact Nat.le_of_ble_eq_true rfl | omega) only [AXR, AXB, J.dst, reduceIte, Nat.reduceEqDiff, Nat.reduceAdd, Nat.reduceMul, Nat.reduceLT, Nat.reduceLeDiff, f81r0, f81r1, f81r2, f81r3, f81r4, f81r5, f81r6, f81r7, f81r8, f81r9, f81r10, f81r11, f81r12, f81r13, f81r14, f81r15, br_false])
        (try simp (disch := first | exact Nat.le_of_ble_eq_true rfl | omega) only [AXR, AXB, J.dst, reduceIte, Nat.reduceEqDiff, Nat.reduceAdd, Nat.reduceMul, Nat.reduceLT, Nat.reduceLeDiff]); rw [f81c22_eq]; (try simp (disch := first | exact Nat.le_of_ble_eq_true rfl | omega) only [AXR, AXB, J.dst, reduceIte, Nat.reduceEqDiff, Nat.reduceAdd, Nat.reduceMul, Nat.reduceLT, Nat.reduceLeDiff, f81r0, f81r1, f81r2, f81r3, f81r4, f81r5, f81r6, f81r7, f81r8, f81r9, f81r10, f81r11, f81r12, f81r13, f81r14, f81r15, hw])
        refine hnx (n - 1) _ _ (by omega) ⟨e3.trans e8, k + 1, m, c', a', by omega, by omega, ?_, hA, rfl⟩
        rw [List.take_add_one, hx, List.filterMap_append]
        simp only [Option.toList, List.filterMap_cons, List.filterMap_nil, ← hres, hl, List.append_nil]
        exact O.ext e8
      have hkeep : leftC c8 = some c8 → wC Try.prog f81c20 (X.inBlock 1 (X.then (fun σ h => wC Try.prog f81c22 Q' σ h) Q')) [(3, ptr b1 0), (5, .slice a' m c'), (6, .slice (some ⟨b, o, none⟩) cs.length cl), (7, vi k), (8, ptr b4 0), (66, .bool true)] h8 := by
        intro hl
        (try simp (disch := first | exact Nat.le_of_ble_eq_true rfl | omega) only [AXR, AXB, J.dst, reduceIte, Nat.reduceEqDiff, Nat.reduceAdd, Nat.reduceMul, Nat.reduceLT, Nat.reduceLeDiff]); rw [f81c20_eq]; (try simp (disch := first | exact Nat.le_of_ble_eq_true rfl | omega) only [AXR, AXB, J.dst, reduceIte, Nat.reduceEqDiff, Nat.reduceAdd, Nat.reduceMul, Nat.reduceLT, Nat.reduceLeDiff, f81r0, f81r1, f81r2, f81r3, f81r4, f81r5, f81r6, f81r7, f81r8, f81r9, f81r10, f81r11, f81r12, f81r13, f81r14, f81r15, br_true])
        (try simp (disch := first | exact Nat.le_of_ble_eq_true rfl | omega) only [AXR, AXB, J.dst, reduceIte, Nat.reduceEqDiff, Nat.reduceAdd, Nat.reduceMul, Nat.reduceLT, Nat.reduceLeDiff]); rw [f81c21_eq]; (try simp (disch := first | exact Nat.le_of_ble_eq_true rfl | omega) only [AXR, AXB, J.dst, reduceIte, Nat.reduceEqDiff, Nat.reduceAdd, Nat.reduceMul, Nat.reduceLT, Nat.reduceLeDiff, f81r0, f81r1, f81r2, f81r3, f81r4, f81r5, f81r6, f81r7, f81r8, f81r9, f81r10, f81r11, f81r12, f81r13, f81r14, f81r15, B8.rd, eCV])
        refine wL_bslN rfl ?_; rintro b9 h9 e9 s9 hb9 (B9 : Blk _ _ _ (eCV v8))
        try simp (disch := first | exact Nat.le_of_ble_eq_true rfl | omega) only [AXR, AXB, J.dst, reduceIte, Nat.reduceEqDiff, Nat.reduceAdd, Nat.reduceMul, Nat.reduceLT, Nat.reduceLeDiff]
        rw [wL_raw]
        have e89 := e8.trans e9
        have hs89 := e89.size
        refine raw_push rfl rfl rfl (O.ext e89) B9 (O8.to fun b hb => ⟨⟨hb.1, ?_, hb.2.2⟩, e9.at_ b hb.2.1⟩) (by omega) (by omega) ?_
        · have := e9.size; omega
        intro a10 c10 h10 O10 G10 A10
        refine ⟨trivial, ?_⟩
        try simp (disch := first | exact Nat.le_of_ble_eq_true rfl | omega) only [AXR, AXB, J.dst, reduceIte, Nat.reduceEqDiff, Nat.reduceAdd, Nat.reduceMul, Nat.reduceLT, Nat.reduceLeDiff]
        (try simp (disch := first | exact Nat.le_of_ble_eq_true rfl | omega) only [AXR, AXB, J.dst, reduceIte, Nat.reduceEqDiff, Nat.reduceAdd, Nat.reduceMul, Nat.reduceLT, Nat.reduceLeDiff]); rw [f81c22_eq]; (try simp (disch := first | exact Nat.le_of_ble_eq_true rfl | omega) only [AXR, AXB, J.dst, reduceIte, Nat.reduceEqDiff, Nat.reduceAdd, Nat.reduceMul, Nat.reduceLT, Nat.reduceLeDiff, f81r0, f81r1, f81r2, f81r3, f81r4, f81r5, f81r6, f81r7, f81r8, f81r9, f81r10, f81r11, f81r12, f81r13, f81r14, f81r15, hw])
        refine hnx (n - 1) _ _ (by omega) ⟨G10.ext (e3.trans e89) hA, k + 1, m + 1, c10, a10, by omega, by omega, ?_, ?_, rfl⟩
        · rw [List.take_add_one, hx, List.filterMap_append]
          simp only [Option.toList, List.filterMap_cons, List.filterMap_nil, ← hres, hl]
          exact O10
        · intro j hj
          rcases A10 with e | ⟨q, e, hq⟩
          · exact hA j (e ▸ hj)
          · rw [e] at hj; cases hj; omega
      (try simp (disch := first | exact Nat.le_of_ble_eq_true rfl | omega) only [AXR, AXB, J.dst, reduceIte, Nat.reduceEqDiff, Nat.reduceAdd, Nat.reduceMul, Nat.reduceLT, Nat.reduceLeDiff]); rw [f81c19_eq]; (try simp (disch := first | exact Nat.le_of_ble_eq_true rfl | omega) only [AXR, AXB, J.dst, reduceIte, Nat.reduceEqDiff, Nat.reduceAdd, Nat.reduceMul, Nat.reduceLT, Nat.reduceLeDiff, f81r0, f81r1, f81r2, f81r3, f81r4, f81r5, f81r6, f81r7, f81r8, f81r9, f81r10, f81r11, f81r12, f81r13, f81r14, f81r15, B8.cel, eCV, l3, l5, l8, l6, l7])
      have hlk := O8.locked
      rw [vers_pos c8 O8.vn, hlk]
      refine ⟨fun hl => hkeep (by simp [leftC, hl]), fun hl => ?_⟩
      by_cases hv : c8.vers = []
      · rw [decide_eq_false (by simp [hv])]
        exact hskip (by simp [leftC, hl, hv])
      · rw [decide_eq_true hv]
        exact hkeep (by simp [leftC, hv])
    have O5 : CR (fun b => h1.size ≤ b ∧ b < h5.size ∧ some b ≠ ob a' ∧ b ≠ b4) h5 v x := hcr.to fun b hb => ⟨⟨hb.1, by omega, fun e => by have := hA b e.symm; omega, by omega⟩, e35.at_ b hb.2⟩
    have hcap := hcr.cap
    -- the slicing
    have sli : ∀ (h8 : Heap) (l : Nat) (τ : Env), Ext h5 h8 → l = rcutV x.vers below →
        AX.look τ 3 = some (ptr b1 0) → AX.look τ 5 = some (.slice a' m c') → AX.look τ 8 = some (ptr b4 0) → AX.look τ 6 = some (.slice (some ⟨b, o, none⟩) cs.length cl) → AX.look τ 7 = some (vi k) → AX.look τ 9 = some (vi l) →
        wC Try.prog f81c18 (X.inBlock 1 (X.then (fun σ h => wC Try.prog f81c22 Q' σ h) Q')) τ h8 := by
      intro h8 l τ e8 hl l3 l5 l8 l6 l7 l9
      have hll := rcutV_le x.vers below
      rw [← hl] at hll
      have B8 := B5.ext e8
      have hvn := hcr.vn
      (try simp (disch := first | exact Nat.le_of_ble_eq_true rfl | omega) only [AXR, AXB, J.dst, reduceIte, Nat.reduceEqDiff, Nat.reduceAdd, Nat.reduceMul, Nat.reduceLT, Nat.reduceLeDiff]); rw [f81c18_eq]; (try simp (disch := first | exact Nat.le_of_ble_eq_true rfl | omega) only [AXR, AXB, J.dst, reduceIte, Nat.reduceEqDiff, Nat.reduceAdd, Nat.reduceMul, Nat.reduceLT, Nat.reduceLeDiff, f81r0, f81r1, f81r2, f81r3, f81r4, f81r5, f81r6, f81r7, f81r8, f81r9, f81r10, f81r11, f81r12, f81r13, f81r14, f81r15, B8.cel, eCV, l3, l5, l8, l6, l7, l9])
      refine slc_lo' (l := l) (by omega) hcap ?_
      intro a9 ha9
      try simp (disch := first | exact Nat.le_of_ble_eq_true rfl | omega) only [AXR, AXB, J.dst, reduceIte, Nat.reduceEqDiff, Nat.reduceAdd, Nat.reduceMul, Nat.reduceLT, Nat.reduceLeDiff, l3, l5, l8, l6, l7, l9]
      refine wL_stN rfl rfl rfl B8 (by rw [eCV_len]; exact Nat.le_of_ble_eq_true rfl) (one_sl _ _ _) ?_
      rintro h9 u9 (B9 : Blk _ _ _ (eCV { v with va := a9, vn := v.vn - l, vc := v.vc - l }))
      simp (disch := first | exact Nat.le_of_ble_eq_true rfl | omega) only [AXR, AXB, J.dst, reduceIte, Nat.reduceEqDiff, Nat.reduceAdd, Nat.reduceMul, Nat.reduceLT, Nat.reduceLeDiff, l3, l5, l8, l6, l7, l9]
      refine app h9 _ { v with va := a9, vn := v.vn - l, vc := v.vc - l } (rtrimC below x) (u9.ext (e5.trans e8) (by omega)) B9 ?_ rfl rfl rfl rfl rfl rfl
      refine ⟨hcr.key, hcr.locked, hcr.lock, ?_, Nat.sub_le_sub_right hcap l, ?_⟩
      · show v.vn - l = (x.vers.drop _).length
        rw [List.length_drop, ← hl, hvn]
      · show SlF _ _ _ _ (x.vers.drop _)
        rw [← hl]
        refine (O5.vers.drop (c := v.vc) (by rw [← hvn]; exact hcap) ha9).to fun b hb => ⟨⟨hb.1, by rw [u9.size]; have := e8.size; omega, hb.2.2.1⟩, (u9.ne b hb.2.2.2).trans (e8.at_ b hb.2.1)⟩
    have B17 : Blk h5 b1 39 (eStamp below) := B1.ext (e2.trans e35)
    have hvn := hcr.vn
    have hpl := preV_le x.vers below
    -- behind the loop
    have stop : ∀ (h8 : Heap) (τ : Env), Ext h5 h8 →
        AX.look τ 3 = some (ptr b1 0) → AX.look τ 5 = some (.slice a' m c') → AX.look τ 8 = some (ptr b4 0) → AX.look τ 6 = some (.slice (some ⟨b, o, none⟩) cs.length cl) → AX.look τ 7 = some (vi k) → AX.look τ 9 = some (vi (preV x.vers below)) →
        wC Try.prog f81c15 (X.inBlock 1 (X.then (fun σ h => wC Try.prog f81c22 Q' σ h) Q')) τ h8 := by
      intro h8 τ e8 l3 l5 l8 l6 l7 l9
      have B8 := B5.ext e8
      (try simp (disch := first | exact Nat.le_of_ble_eq_true rfl | omega) only [AXR, AXB, J.dst, reduceIte, Nat.reduceEqDiff, Nat.reduceAdd, Nat.reduceMul, Nat.reduceLT, Nat.reduceLeDiff]); rw [f81c15_eq]; (try simp (disch := first | exact Nat.le_of_ble_eq_true rfl | omega) only [AXR, AXB, J.dst, reduceIte, Nat.reduceEqDiff, Nat.reduceAdd, Nat.reduceMul, Nat.reduceLT, Nat.reduceLeDiff, f81r0, f81r1, f81r2, f81r3, f81r4, f81r5, f81r6, f81r7, f81r8, f81r9, f81r10, f81r11, f81r12, f81r13, f81r14, f81r15, B8.cel, eCV, l3, l5, l8, l6, l7, l9, hvn])
      generalize hp : preV x.vers below = p at *
      refine ⟨fun hh => ?_, fun hh => ?_⟩
      · have hpos : 0 < p := by have := of_decide_eq_true hh; omega
        have hw : IntKind.i64.wrap ((p : Int) - 1) = ((p - 1 : Nat) : Int) := by rw [i64_wrap (by omega) (by omega)]; omega
        obtain ⟨u, hu⟩ := get_ex (show p - 1 < x.vers.length by omega)
        obtain ⟨b', o', ha, _, hrow'⟩ := (O5.ext e8).vers.elem eVer_len hu
        simp (disch := first | exact Nat.le_of_ble_eq_true rfl | omega) only [AXR, AXB, J.dst, reduceIte, Nat.reduceEqDiff, Nat.reduceAdd, Nat.reduceMul, Nat.reduceLT, Nat.reduceLeDiff, hw, ha, row_ver hrow']
        refine ⟨by omega, by omega, ?_⟩
        cases hd : u.drop with
        | false =>
          (try simp (disch := first | exact Nat.le_of_ble_eq_true rfl | omega) only [AXR, AXB, J.dst, reduceIte, Nat.reduceEqDiff, Nat.reduceAdd, Nat.reduceMul, Nat.reduceLT, Nat.reduceLeDiff]); rw [f81c16_eq]; (try simp (disch := first | exact Nat.le_of_ble_eq_true rfl | omega) only [AXR, AXB, J.dst, reduceIte, Nat.reduceEqDiff, Nat.reduceAdd, Nat.reduceMul, Nat.reduceLT, Nat.reduceLeDiff, f81r0, f81r1, f81r2, f81r3, f81r4, f81r5, f81r6, f81r7, f81r8, f81r9, f81r10, f81r11, f81r12, f81r13, f81r14, f81r15, Bool.not_false, br_true])
          (try simp (disch := first | exact Nat.le_of_ble_eq_true rfl | omega) only [AXR, AXB, J.dst, reduceIte, Nat.reduceEqDiff, Nat.reduceAdd, Nat.reduceMul, Nat.reduceLT, Nat.reduceLeDiff]); rw [f81c17_eq]; (try simp (disch := first | exact Nat.le_of_ble_eq_true rfl | omega) only [AXR, AXB, J.dst, reduceIte, Nat.reduceEqDiff, Nat.reduceAdd, Nat.reduceMul, Nat.reduceLT, Nat.reduceLeDiff, f81r0, f81r1, f81r2, f81r3, f81r4, f81r5, f81r6, f81r7, f81r8, f81r9, f81r10, f81r11, f81r12, f81r13, f81r14, f81r15, hw])
          refine sli h8 (p - 1) _ e8 ?_ rfl rfl rfl rfl rfl rfl
          unfold rcutV
          rw [hp, if_pos ⟨hpos, by rw [getD_of hu]; exact hd⟩]
        | true =>
          (try simp (disch := first | exact Nat.le_of_ble_eq_true rfl | omega) only [AXR, AXB, J.dst, reduceIte, Nat.reduceEqDiff, Nat.reduceAdd, Nat.reduceMul, Nat.reduceLT, Nat.reduceLeDiff]); rw [f81c16_eq]; (try simp (disch := first | exact Nat.le_of_ble_eq_true rfl | omega) only [AXR, AXB, J.dst, reduceIte, Nat.reduceEqDiff, Nat.reduceAdd, Nat.reduceMul, Nat.reduceLT, Nat.reduceLeDiff, f81r0, f81r1, f81r2, f81r3, f81r4, f81r5, f81r6, f81r7, f81r8, f81r9, f81r10, f81r11, f81r12, f81r13, f81r14, f81r15, Bool.not_true, br_false])
          refine sli h8 p _ e8 ?_ rfl rfl rfl rfl rfl rfl
          unfold rcutV
          rw [hp, if_neg (fun h => by have := h.2; rw [getD_of hu, hd] at this; cases this)]
      · have hz : p = 0 := by have := of_decide_eq_false hh; omega
        (try simp (disch := first | exact Nat.le_of_ble_eq_true rfl | omega) only [AXR, AXB, J.dst, reduceIte, Nat.reduceEqDiff, Nat.reduceAdd, Nat.reduceMul, Nat.reduceLT, Nat.reduceLeDiff]); rw [f81c16_eq]; (try simp (disch := first | exact Nat.le_of_ble_eq_true rfl | omega) only [AXR, AXB, J.dst, reduceIte, Nat.reduceEqDiff, Nat.reduceAdd, Nat.reduceMul, Nat.reduceLT, Nat.reduceLeDiff, f81r0, f81r1, f81r2, f81r3, f81r4, f81r5, f81r6, f81r7, f81r8, f81r9, f81r10, f81r11, f81r12, f81r13, f81r14, f81r15, br_false])
        refine sli h8 p _ e8 ?_ rfl rfl rfl rfl rfl rfl
        unfold rcutV
        rw [hp, if_neg (fun h => by have := h.1; omega)]
    (try simp (disch := first | exact Nat.le_of_ble_eq_true rfl | omega) only [AXR, AXB, J.dst, reduceIte, Nat.reduceEqDiff, Nat.reduceAdd, Nat.reduceMul, Nat.reduceLT, Nat.reduceLeDiff]); rw [f81c9_eq]; (try simp (disch := first | exact Nat.le_of_ble_eq_true rfl | omega) only [AXR, AXB, J.dst, reduceIte, Nat.reduceEqDiff, Nat.reduceAdd, Nat.reduceMul, Nat.reduceLT, Nat.reduceLeDiff, f81r0, f81r1, f81r2, f81r3, f81r4, f81r5, f81r6, f81r7, f81r8, f81r9, f81r10, f81r11, f81r12, f81r13, f81r14, f81r15])
    rw [f81c10_eq]
    refine loop_in (fun n2 σ h'' => Ext h5 h'' ∧ ∃ j : Nat, j + n2 = x.vers.length ∧ σ = [(3, ptr b1 0), (5, .slice a' m c'), (6, .slice (some ⟨b, o, none⟩) cs.length cl), (7, vi k), (8, ptr b4 0), (9, vi j)] ∧ ∀ p u, p < j → x.vers[p]? = some u → Stamp.lt below u.at_ = false)
      x.vers.length ⟨Ext.refl _, 0, by omega, rfl, by intros; omega⟩ ?_
    rintro n2 σ h8 ⟨e8, j, hj, rfl, hnk⟩ Q2 hnx2 hex2 hrt2 hnr2
    have B8 := B5.ext e8
    have B18 := B17.ext e8
    rw [f81c11_eq]
    refine drw_lt ?_
    simp only [f81r7, wL_mov, wL_fad, wL_ld1, wL_len, wL_bin, wL_sc, evO_tmp, look_cons, Nat.reduceEqDiff, reduceIte, bd_some, asP_ptr, ldOk_some, ldHeap_some, B8.cel, eCV, List.getElem?_cons_succ, List.getElem?_cons_zero, Nat.zero_add, lenV_sl, hvn, binV_lss, asB_bool, br_eqT]
    refine ⟨B8.lt, fun hh => ?_, fun hh => ?_⟩
    · have hjl : j < x.vers.length := by have := of_decide_eq_true hh; omega
      obtain ⟨u, hu⟩ := get_ex hjl
      obtain ⟨b', o', ha, _, hrow'⟩ := (O5.ext e8).vers.elem eVer_len hu
      rw [ha]
      simp (disch := first | exact Nat.le_of_ble_eq_true rfl | omega) only [AXR, AXB, J.dst, reduceIte, Nat.reduceEqDiff, Nat.reduceAdd, Nat.reduceMul, Nat.reduceLT, Nat.reduceLeDiff, ha, B8.cel, B18.rd, row_ver hrow', eCV, eStamp, hvn]
      refine ⟨B18.lt, B8.lt, by omega, by omega, hrow'.lt (by rw [eVer_len]; omega), ?_⟩
      refine rless_ok below u.at_ _ ?_
      intro h9 e9
      refine ⟨kp_ext (Nat.le_refl _) e9, ?_⟩
      try simp (disch := first | exact Nat.le_of_ble_eq_true rfl | omega) only [AXR, AXB, J.dst, reduceIte, Nat.reduceEqDiff, Nat.reduceAdd, Nat.reduceMul, Nat.reduceLT, Nat.reduceLeDiff]
      (try simp (disch := first | exact Nat.le_of_ble_eq_true rfl | omega) only [AXR, AXB, J.dst, reduceIte, Nat.reduceEqDiff, Nat.reduceAdd, Nat.reduceMul, Nat.reduceLT, Nat.reduceLeDiff]); rw [f81c12_eq]; (try simp (disch := first | exact Nat.le_of_ble_eq_true rfl | omega) only [AXR, AXB, J.dst, reduceIte, Nat.reduceEqDiff, Nat.reduceAdd, Nat.reduceMul, Nat.reduceLT, Nat.reduceLeDiff, f81r0, f81r1, f81r2, f81r3, f81r4, f81r5, f81r6, f81r7, f81r8, f81r9, f81r10, f81r11, f81r12, f81r13, f81r14, f81r15])
      refine ⟨fun h4 => ?_, fun h4 => ?_⟩
      · have h4' : Stamp.lt below u.at_ = false := by simpa using h4
        rw [f81c13_eq]
        (try simp (disch := first | exact Nat.le_of_ble_eq_true rfl | omega) only [AXR, AXB, J.dst, reduceIte, Nat.reduceEqDiff, Nat.reduceAdd, Nat.reduceMul, Nat.reduceLT, Nat.reduceLeDiff]); rw [f81c14_eq]; (try simp (disch := first | exact Nat.le_of_ble_eq_true rfl | omega) only [AXR, AXB, J.dst, reduceIte, Nat.reduceEqDiff, Nat.reduceAdd, Nat.reduceMul, Nat.reduceLT, Nat.reduceLeDiff, f81r0, f81r1, f81r2, f81r3, f81r4, f81r5, f81r6, f81r7, f81r8, f81r9, f81r10, f81r11, f81r12, f81r13, f81r14, f81r15])
        rw [i64_wrap (by omega) (by omega)]
        refine hnx2 (n2 - 1) _ _ (by omega) ⟨e8.trans e9, j + 1, by omega, rfl, ?_⟩
        intro p u' hp hu'
        rcases Nat.lt_or_ge p j with hlt | hge
        · exact hnk p u' hlt hu'
        · have : p = j := by omega
          subst this
          rw [hu] at hu'; cases hu'; exact h4'
      · have h4' : Stamp.lt below u.at_ = true := by simpa using h4
        have hpe := preV_eq below x.vers j (by omega) hnk (fun u' hu' => by rw [hu] at hu'; cases hu'; exact h4')
        refine hex2 _ _ ?_
        exact stop h9 _ (e8.trans e9) rfl rfl rfl rfl rfl (by rw [hpe]; rfl)
    · have hjl : j = x.vers.length := by have := of_decide_eq_false hh; omega
      have hpe := preV_eq below x.vers j (by omega) hnk (fun u' hu' => by rw [hjl, List.getElem?_eq_none (Nat.le_refl _)] at hu'; cases hu')
      try simp (disch := first | exact Nat.le_of_ble_eq_true rfl | omega) only [AXR, AXB, J.dst, reduceIte, Nat.reduceEqDiff, Nat.reduceAdd, Nat.reduceMul, Nat.reduceLT, Nat.reduceLeDiff]
      (try simp (disch := first | exact Nat.le_of_ble_eq_true rfl | omega) only [AXR, AXB, J.dst, reduceIte, Nat.reduceEqDiff, Nat.reduceAdd, Nat.reduceMul, Nat.reduceLT, Nat.reduceLeDiff]); rw [f81c12_eq]; (try simp (disch := first | exact Nat.le_of_ble_eq_true rfl | omega) only [AXR, AXB, J.dst, reduceIte, Nat.reduceEqDiff, Nat.reduceAdd, Nat.reduceMul, Nat.reduceLT, Nat.reduceLeDiff, f81r0, f81r1, f81r2, f81r3, f81r4, f81r5, f81r6, f81r7, f81r8, f81r9, f81r10, f81r11, f81r12, f81r13, f81r14, f81r15, br_false])
      refine hex2 _ _ ?_
      exact stop h8 _ e8 rfl rfl rfl rfl rfl (by rw [hpe]; rfl)
  · have hkl : k = cs.length := by have := of_decide_eq_false h2; omega
    subst hkl
    refine hex _ _ ?_
    (try simp (disch := first | exact Nat.le_of_ble_eq_true rfl | omega) only [AXR, AXB, J.dst, reduceIte, Nat.reduceEqDiff, Nat.reduceAdd, Nat.reduceMul, Nat.reduceLT, Nat.reduceLeDiff]); rw [f81c23_eq]; (try simp (disch := first | exact Nat.le_of_ble_eq_true rfl | omega) only [AXR, AXB, J.dst, reduceIte, Nat.reduceEqDiff, Nat.reduceAdd, Nat.reduceMul, Nat.reduceLT, Nat.reduceLeDiff, f81r0, f81r1, f81r2, f81r3, f81r4, f81r5, f81r6, f81r7, f81r8, f81r9, f81r10, f81r11, f81r12, f81r13, f81r14, f81r15])
    rw [List.take_length] at O
    exact hR _ _ _ _ (O.mono e1.size) (e12.trans e3)
end Go.Proofs.Ytefghfgmkndikaa
