/-
  Walks: Trim.
-/
import Derived.Test.YtefghfgmkndikaaWB
set_option linter.unusedSimpArgs false
set_option linter.unusedVariables false
namespace Go.AX
open Go
/-- How many versions a trim takes away. -/
def cutV (vs : List Ver) (below : Stamp) : Nat :=
  if lastV vs below < 0 then 0 else if (vs.getD (lastV vs below).toNat default).drop then (lastV vs below).toNat + 1 else (lastV vs below).toNat
def trimC (below : Stamp) (c : Cell) : Cell := { c with vers := c.vers.drop (cutV c.vers below) }
def trimL (cs : List Cell) (below : Stamp) : List Cell := cs.filterMap fun c => leftC (trimC below c)
theorem cutV_le (vs : List Ver) (t : Stamp) : cutV vs t ≤ vs.length := by
  have := lastV_le vs t
  unfold cutV
  split
  · omega
  · split <;> omega
theorem SlF.of_drop {lo : Nat} {h : Heap} {a a' : Option Addr} {n c : Nat} {vs : List Ver} (O : Own lo h 108 4 a n c (vs.flatMap eVer)) (hn : n = vs.length) {l : Nat} (ha : l < c → a' = a.map (·.add (l * 4))) :
    SlF (fun b => lo ≤ b ∧ b < h.size ∧ ob a = some b) h eVer a' (vs.drop l) := by
  intro hne
  have hlt : l < vs.length := by
    rcases Nat.lt_or_ge l vs.length with h | h
    · exact h
    · exact absurd (List.drop_of_length_le h) hne
  obtain ⟨hr1, _⟩ := O.room
  obtain ⟨g, rfl, hg, hrow⟩ := O.row (by omega)
  refine ⟨g, l * 4, by rw [ha (by omega), Option.map_some, add_mk, Nat.zero_add], ⟨hg, (O.ob g rfl).2, rfl⟩, ?_⟩
  have := hrow.sub (l * 4) ((vs.flatMap eVer).length - l * 4)
  rw [List.take_of_length_le (by rw [List.length_drop]; omega), flatMap_drop eVer_len, Nat.zero_add] at this
  exact this
end Go.AX
namespace Go.Proofs.Ytefghfgmkndikaa
open Go Go.AX

theorem trim_ok {B : Nat → Prop} {a : Option Addr} {c : Nat} (cs : List Cell) (below : Stamp) (h : Heap) (S : SlC B h a cs) (hn : cs.length ≤ big) (F : ∀ c ∈ cs, c.vers.length < big) {R : Value → Heap → Prop}
    (hR : ∀ a' n' c' h', OwnC h.size h' a' n' c' (trimL cs below) → Ext h h' → R (.slice a' n' c') h') : CallsH Try.prog 46 [.slice a cs.length c, .agg (eStamp below).toArray] h R := by
  have hbig : big = 1000000 := rfl
  refine f46ok (by simp) ?_
  (try simp (disch := first | exact Nat.le_of_ble_eq_true rfl | omega) only [AXR, AXB, J.dst, reduceIte, Nat.reduceEqDiff, Nat.reduceAdd, Nat.reduceMul, Nat.reduceLT, Nat.reduceLeDiff]); rw [f46c0_eq]; (try simp (disch := first | exact Nat.le_of_ble_eq_true rfl | omega) only [AXR, AXB, J.dst, reduceIte, Nat.reduceEqDiff, Nat.reduceAdd, Nat.reduceMul, Nat.reduceLT, Nat.reduceLeDiff, f46r0, f46r1, f46r2, f46r3, f46r4, f46r5, f46r6, f46r7, f46r8, f46r9, f46r10, f46r11, f46r12, f46r13, f46r14])
  refine wL_boxN rfl ?_; rintro b1 h1 e1 s1 hb1 (B1 : Blk _ _ _ (eStamp below))
  (try simp (disch := first | exact Nat.le_of_ble_eq_true rfl | omega) only [AXR, AXB, J.dst, reduceIte, Nat.reduceEqDiff, Nat.reduceAdd, Nat.reduceMul, Nat.reduceLT, Nat.reduceLeDiff]); rw [f46c1_eq]; (try simp (disch := first | exact Nat.le_of_ble_eq_true rfl | omega) only [AXR, AXB, J.dst, reduceIte, Nat.reduceEqDiff, Nat.reduceAdd, Nat.reduceMul, Nat.reduceLT, Nat.reduceLeDiff, f46r0, f46r1, f46r2, f46r3, f46r4, f46r5, f46r6, f46r7, f46r8, f46r9, f46r10, f46r11, f46r12, f46r13, f46r14]); rw [f46c2_eq]; (try simp (disch := first | exact Nat.le_of_ble_eq_true rfl | omega) only [AXR, AXB, J.dst, reduceIte, Nat.reduceEqDiff, Nat.reduceAdd, Nat.reduceMul, Nat.reduceLT, Nat.reduceLeDiff, f46r0, f46r1, f46r2, f46r3, f46r4, f46r5, f46r6, f46r7, f46r8, f46r9, f46r10, f46r11, f46r12, f46r13, f46r14])
  rw [f46c3_eq]
  refine loop_in (fun n σ h' => Ext h1 h' ∧ ∃ (k m c' : Nat) (a' : Option Addr), k + n = cs.length ∧ m ≤ k ∧ OwnC h1.size h' a' m c' ((cs.take k).filterMap fun c => leftC (trimC below c)) ∧
      σ = [(3, ptr b1 0), (5, .slice a' m c'), (9, .slice a cs.length c), (10, vi cs.length), (11, vi k)])
    cs.length ⟨Ext.refl _, 0, 0, 0, none, by omega, by omega, OwnC.nil _ _, rfl⟩ ?_
  rintro n σ h' ⟨e2, k, m, c', a', hk, hm, O, rfl⟩ Q' hnx hex hrt _
  have eh := e1.trans e2
  (try simp (disch := first | exact Nat.le_of_ble_eq_true rfl | omega) only [AXR, AXB, J.dst, reduceIte, Nat.reduceEqDiff, Nat.reduceAdd, Nat.reduceMul, Nat.reduceLT, Nat.reduceLeDiff]); rw [f46c4_eq]; (try simp (disch := first | exact Nat.le_of_ble_eq_true rfl | omega) only [AXR, AXB, J.dst, reduceIte, Nat.reduceEqDiff, Nat.reduceAdd, Nat.reduceMul, Nat.reduceLT, Nat.reduceLeDiff, f46r0, f46r1, f46r2, f46r3, f46r4, f46r5, f46r6, f46r7, f46r8, f46r9, f46r10, f46r11, f46r12, f46r13, f46r14]); rw [f46c5_eq]; (try simp (disch := first | exact Nat.le_of_ble_eq_true rfl | omega) only [AXR, AXB, J.dst, reduceIte, Nat.reduceEqDiff, Nat.reduceAdd, Nat.reduceMul, Nat.reduceLT, Nat.reduceLeDiff, f46r0, f46r1, f46r2, f46r3, f46r4, f46r5, f46r6, f46r7, f46r8, f46r9, f46r10, f46r11, f46r12, f46r13, f46r14])
  refine ⟨fun h2 => ?_, fun h2 => ?_⟩
  · have hkl : k < cs.length := by have := of_decide_eq_true h2; omega
    obtain ⟨x, hx⟩ := get_ex hkl
    obtain ⟨b, o, v, rfl, _, hrow, hcr⟩ := (S.ext eh).elem hx
    have hxF := F x (List.mem_of_getElem? hx)
    rw [f46c6_eq]
    (try simp (disch := first | exact Nat.le_of_ble_eq_true rfl | omega) only [AXR, AXB, J.dst, reduceIte, Nat.reduceEqDiff, Nat.reduceAdd, Nat.reduceMul, Nat.reduceLT, Nat.reduceLeDiff]); rw [f46c7_eq]; (try simp (disch := first | exact Nat.le_of_ble_eq_true rfl | omega) only [AXR, AXB, J.dst, reduceIte, Nat.reduceEqDiff, Nat.reduceAdd, Nat.reduceMul, Nat.reduceLT, Nat.reduceLeDiff, f46r0, f46r1, f46r2, f46r3, f46r4, f46r5, f46r6, f46r7, f46r8, f46r9, f46r10, f46r11, f46r12, f46r13, f46r14, row_cv hrow])
    refine ⟨by omega, by omega, ?_⟩
    refine wL_newN ?_; rintro b4 h4 e4 s4 hb4 B4
    refine wL_stN rfl rfl rfl B4 (by decide) (eCV_one v) ?_; rintro h5 u5 (B5 : Blk _ _ _ (eCV v))
    have e5 := u5.ext e4 (by omega)
    (try simp (disch := first | exact Nat.le_of_ble_eq_true rfl | omega) only [AXR, AXB, J.dst, reduceIte, Nat.reduceEqDiff, Nat.reduceAdd, Nat.reduceMul, Nat.reduceLT, Nat.reduceLeDiff]); rw [f46c8_eq]; (try simp (disch := first | exact Nat.le_of_ble_eq_true rfl | omega) only [AXR, AXB, J.dst, reduceIte, Nat.reduceEqDiff, Nat.reduceAdd, Nat.reduceMul, Nat.reduceLT, Nat.reduceLeDiff, f46r0, f46r1, f46r2, f46r3, f46r4, f46r5, f46r6, f46r7, f46r8, f46r9, f46r10, f46r11, f46r12, f46r13, f46r14, B5.rd, eCV])
    refine own_ok v x _ (hcr.ext e5) (by omega) ?_
    intro x' h6 O6 e6
    try simp (disch := first | exact Nat.le_of_ble_eq_true rfl | omega) only [AXR, AXB, J.dst, reduceIte, Nat.reduceEqDiff, Nat.reduceAdd, Nat.reduceMul, Nat.reduceLT, Nat.reduceLeDiff]
    have hb45 := B5.lt
    replace B5 := B5.ext e6
    refine wL_stN rfl rfl rfl B5 (by rw [eCV_len]; exact Nat.le_of_ble_eq_true rfl) (eCV_one x') ?_; rintro h7 u7 (B7 : Blk _ _ _ (eCV x'))
    try simp (disch := first | exact Nat.le_of_ble_eq_true rfl | omega) only [AXR, AXB, J.dst, reduceIte, Nat.reduceEqDiff, Nat.reduceAdd, Nat.reduceMul, Nat.reduceLT, Nat.reduceLeDiff]
    have O7 := O6.box u7 hb45
    have e7 : Ext h' h7 := u7.ext (e5.trans e6) (by omega)
    have hO := O.row
    have hs1 := B1.lt
    have hse := eh.size
    have hs2 := e2.size
    have hs5 := e5.size
    -- what is left is appended
    have app : ∀ (h8 : Heap) (τ : Env) (v8 : CV) (c8 : Cell), Ext h' h8 → Blk h8 b4 103 (eCV v8) → CR (fun b => h5.size ≤ b ∧ b < h8.size) h8 v8 c8 → c8 = trimC below x →
        AX.look τ 3 = some (ptr b1 0) → AX.look τ 5 = some (.slice a' m c') → AX.look τ 7 = some (ptr b4 0) → AX.look τ 9 = some (.slice (some ⟨b, o, none⟩) cs.length c) → AX.look τ 10 = some (vi cs.length) → AX.look τ 11 = some (vi k) →
        wC Try.prog f46c16 (X.inBlock 1 (X.then (fun σ h => wC Try.prog f46c19 Q' σ h) Q')) τ h8 := by
      intro h8 τ v8 c8 e8 B8 O8 hres l3 l5 l7 l9 l10 l11
      have hw : IntKind.i64.wrap ((k : Int) + 1) = ((k + 1 : Nat) : Int) := i64_wrap (by omega) (by omega)
      have hskip : leftC c8 = none → wC Try.prog f46c17 (X.inBlock 1 (X.then (fun σ h => wC Try.prog f46c19 Q' σ h) Q')) [(3, ptr b1 0), (5, .slice a' m c'), (7, ptr b4 0), (9, .slice (some ⟨b, o, none⟩) cs.length c), (10, vi cs.length), (11, vi k), (43, .bool false)] h8 := by
        intro hl
        (try simp (disch := first | exact Nat.le_of_ble_eq_true rfl | omega) only [AXR, AXB, J.dst, reduceIte, Nat.reduceEqDiff, Nat.reduceAdd, Nat.reduceMul, Nat.reduceLT, Nat.reduceLeDiff]); rw [f46c17_eq]; (try simp (disch := first | exact Nat.le_of_ble_eq_true rfl | omega) only [AXR, AXB, J.dst, reduceIte, Nat.reduceEqDiff, Nat.reduceAdd, Nat.reduceMul, Nat.reduceLT, Nat.reduceLeDiff, f46r0, f46r1, f46r2, f46r3, f46r4, f46r5, f46r6, f46r7, f46r8, f46r9, f46r10, f46r11, f46r12, f46r13, f46r14, br_false])
        (try simp (disch := first | exact Nat.le_of_ble_eq_true rfl | omega) only [AXR, AXB, J.dst, reduceIte, Nat.reduceEqDiff, Nat.reduceAdd, Nat.reduceMul, Nat.reduceLT, Nat.reduceLeDiff]); rw [f46c19_eq]; (try simp (disch := first | exact Nat.le_of_ble_eq_true rfl | omega) only [AXR, AXB, J.dst, reduceIte, Nat.reduceEqDiff, Nat.reduceAdd, Nat.reduceMul, Nat.reduceLT, Nat.reduceLeDiff, f46r0, f46r1, f46r2, f46r3, f46r4, f46r5, f46r6, f46r7, f46r8, f46r9, f46r10, f46r11, f46r12, f46r13, f46r14, hw])
        refine hnx (n - 1) _ _ (by omega) ⟨e2.trans e8, k + 1, m, c', a', by omega, by omega, ?_, rfl⟩
        rw [List.take_add_one, hx, List.filterMap_append]
        simp only [Option.toList, List.filterMap_cons, List.filterMap_nil, ← hres, hl, List.append_nil]
        exact O.ext e8
      have hkeep : leftC c8 = some c8 → wC Try.prog f46c17 (X.inBlock 1 (X.then (fun σ h => wC Try.prog f46c19 Q' σ h) Q')) [(3, ptr b1 0), (5, .slice a' m c'), (7, ptr b4 0), (9, .slice (some ⟨b, o, none⟩) cs.length c), (10, vi cs.length), (11, vi k), (43, .bool true)] h8 := by
        intro hl
        (try simp (disch := first | exact Nat.le_of_ble_eq_true rfl | omega) only [AXR, AXB, J.dst, reduceIte, Nat.reduceEqDiff, Nat.reduceAdd, Nat.reduceMul, Nat.reduceLT, Nat.reduceLeDiff]); rw [f46c17_eq]; (try simp (disch := first | exact Nat.le_of_ble_eq_true rfl | omega) only [AXR, AXB, J.dst, reduceIte, Nat.reduceEqDiff, Nat.reduceAdd, Nat.reduceMul, Nat.reduceLT, Nat.reduceLeDiff, f46r0, f46r1, f46r2, f46r3, f46r4, f46r5, f46r6, f46r7, f46r8, f46r9, f46r10, f46r11, f46r12, f46r13, f46r14, br_true])
        (try simp (disch := first | exact Nat.le_of_ble_eq_true rfl | omega) only [AXR, AXB, J.dst, reduceIte, Nat.reduceEqDiff, Nat.reduceAdd, Nat.reduceMul, Nat.reduceLT, Nat.reduceLeDiff]); rw [f46c18_eq]; (try simp (disch := first | exact Nat.le_of_ble_eq_true rfl | omega) only [AXR, AXB, J.dst, reduceIte, Nat.reduceEqDiff, Nat.reduceAdd, Nat.reduceMul, Nat.reduceLT, Nat.reduceLeDiff, f46r0, f46r1, f46r2, f46r3, f46r4, f46r5, f46r6, f46r7, f46r8, f46r9, f46r10, f46r11, f46r12, f46r13, f46r14, B8.rd, eCV])
        refine wL_bslN rfl ?_; rintro b9 h9 e9 s9 hb9 (B9 : Blk _ _ _ (eCV v8))
        try simp (disch := first | exact Nat.le_of_ble_eq_true rfl | omega) only [AXR, AXB, J.dst, reduceIte, Nat.reduceEqDiff, Nat.reduceAdd, Nat.reduceMul, Nat.reduceLT, Nat.reduceLeDiff]
        rw [wL_raw]
        have e89 := e8.trans e9
        have hs89 := e89.size
        refine raw_push rfl rfl rfl (O.ext e89) B9 (O8.to fun b hb => ⟨⟨?_, ?_, ?_⟩, e9.at_ b hb.2⟩) (by omega) (by omega) ?_
        · omega
        · have := e9.size; omega
        · intro e; have := hO b e.symm; omega
        intro a10 c10 h10 O10 G10 A10
        refine ⟨trivial, ?_⟩
        try simp (disch := first | exact Nat.le_of_ble_eq_true rfl | omega) only [AXR, AXB, J.dst, reduceIte, Nat.reduceEqDiff, Nat.reduceAdd, Nat.reduceMul, Nat.reduceLT, Nat.reduceLeDiff]
        (try simp (disch := first | exact Nat.le_of_ble_eq_true rfl | omega) only [AXR, AXB, J.dst, reduceIte, Nat.reduceEqDiff, Nat.reduceAdd, Nat.reduceMul, Nat.reduceLT, Nat.reduceLeDiff]); rw [f46c19_eq]; (try simp (disch := first | exact Nat.le_of_ble_eq_true rfl | omega) only [AXR, AXB, J.dst, reduceIte, Nat.reduceEqDiff, Nat.reduceAdd, Nat.reduceMul, Nat.reduceLT, Nat.reduceLeDiff, f46r0, f46r1, f46r2, f46r3, f46r4, f46r5, f46r6, f46r7, f46r8, f46r9, f46r10, f46r11, f46r12, f46r13, f46r14, hw])
        refine hnx (n - 1) _ _ (by omega) ⟨G10.ext (e2.trans e89) (fun j hj => (hO j hj).1), k + 1, m + 1, c10, a10, by omega, by omega, ?_, rfl⟩
        rw [List.take_add_one, hx, List.filterMap_append]
        simp only [Option.toList, List.filterMap_cons, List.filterMap_nil, ← hres, hl]
        exact O10
      (try simp (disch := first | exact Nat.le_of_ble_eq_true rfl | omega) only [AXR, AXB, J.dst, reduceIte, Nat.reduceEqDiff, Nat.reduceAdd, Nat.reduceMul, Nat.reduceLT, Nat.reduceLeDiff]); rw [f46c16_eq]; (try simp (disch := first | exact Nat.le_of_ble_eq_true rfl | omega) only [AXR, AXB, J.dst, reduceIte, Nat.reduceEqDiff, Nat.reduceAdd, Nat.reduceMul, Nat.reduceLT, Nat.reduceLeDiff, f46r0, f46r1, f46r2, f46r3, f46r4, f46r5, f46r6, f46r7, f46r8, f46r9, f46r10, f46r11, f46r12, f46r13, f46r14, B8.cel, eCV, l3, l5, l7, l9, l10, l11])
      have hlk := O8.locked
      rw [vers_pos c8 O8.vn, hlk]
      refine ⟨fun hl => hkeep (by simp [leftC, hl]), fun hl => ?_⟩
      by_cases hv : c8.vers = []
      · rw [decide_eq_false (by simp [hv])]
        exact hskip (by simp [leftC, hl, hv])
      · rw [decide_eq_true hv]
        exact hkeep (by simp [leftC, hv])
    have B17 : Blk h7 b1 39 (eStamp below) := B1.ext (e2.trans e7)
    (try simp (disch := first | exact Nat.le_of_ble_eq_true rfl | omega) only [AXR, AXB, J.dst, reduceIte, Nat.reduceEqDiff, Nat.reduceAdd, Nat.reduceMul, Nat.reduceLT, Nat.reduceLeDiff]); rw [f46c9_eq]; (try simp (disch := first | exact Nat.le_of_ble_eq_true rfl | omega) only [AXR, AXB, J.dst, reduceIte, Nat.reduceEqDiff, Nat.reduceAdd, Nat.reduceMul, Nat.reduceLT, Nat.reduceLeDiff, f46r0, f46r1, f46r2, f46r3, f46r4, f46r5, f46r6, f46r7, f46r8, f46r9, f46r10, f46r11, f46r12, f46r13, f46r14, B7.cel, B7.rd, B17.rd, eCV, eStamp, O7.vn])
    refine last_ok x.vers below _ (SlF.of_own O7.vers O7.vn) (by unfold maxLen; omega) ?_
    intro h8 e8
    try simp (disch := first | exact Nat.le_of_ble_eq_true rfl | omega) only [AXR, AXB, J.dst, reduceIte, Nat.reduceEqDiff, Nat.reduceAdd, Nat.reduceMul, Nat.reduceLT, Nat.reduceLeDiff]
    have e78 := e7.trans e8
    have hlv := lastV_le x.vers below
    have B8 := B7.ext e8
    have O8 := O7.ext e8
    (try simp (disch := first | exact Nat.le_of_ble_eq_true rfl | omega) only [AXR, AXB, J.dst, reduceIte, Nat.reduceEqDiff, Nat.reduceAdd, Nat.reduceMul, Nat.reduceLT, Nat.reduceLeDiff]); rw [f46c10_eq]; (try simp (disch := first | exact Nat.le_of_ble_eq_true rfl | omega) only [AXR, AXB, J.dst, reduceIte, Nat.reduceEqDiff, Nat.reduceAdd, Nat.reduceMul, Nat.reduceLT, Nat.reduceLeDiff, f46r0, f46r1, f46r2, f46r3, f46r4, f46r5, f46r6, f46r7, f46r8, f46r9, f46r10, f46r11, f46r12, f46r13, f46r14]); rw [f46c11_eq]; (try simp (disch := first | exact Nat.le_of_ble_eq_true rfl | omega) only [AXR, AXB, J.dst, reduceIte, Nat.reduceEqDiff, Nat.reduceAdd, Nat.reduceMul, Nat.reduceLT, Nat.reduceLeDiff, f46r0, f46r1, f46r2, f46r3, f46r4, f46r5, f46r6, f46r7, f46r8, f46r9, f46r10, f46r11, f46r12, f46r13, f46r14])
    refine ⟨fun h2 => ?_, fun h2 => ?_⟩
    · have hpos : 0 ≤ lastV x.vers below := of_decide_eq_true h2
      obtain ⟨i, hi⟩ : ∃ i : Nat, lastV x.vers below = i := ⟨(lastV x.vers below).toNat, by omega⟩
      rw [hi] at hlv
      obtain ⟨u, hu⟩ := get_ex (show i < x.vers.length by omega)
      obtain ⟨b', o', ha, _, hrow'⟩ := (SlF.of_own O8.vers O8.vn).elem eVer_len hu
      have hcut : cutV x.vers below = if u.drop then i + 1 else i := by
        unfold cutV
        rw [hi, if_neg (by omega), Int.toNat_natCast, getD_of hu]
      have sli : ∀ (l : Nat) (τ : Env), l = cutV x.vers below → wC Try.prog f46c15 (X.then (fun σ h => wC Try.prog f46c16 (X.inBlock 1 (X.then (fun σ h => wC Try.prog f46c19 Q' σ h) Q')) σ h) (X.inBlock 1 (X.then (fun σ h => wC Try.prog f46c19 Q' σ h) Q')))
          ((3, ptr b1 0) :: (5, .slice a' m c') :: (7, ptr b4 0) :: (8, vi l) :: (9, .slice (some ⟨b, o, none⟩) cs.length c) :: (10, vi cs.length) :: (11, vi k) :: τ) h8 := by
        intro l τ hl
        have hll := cutV_le x.vers below
        rw [← hl] at hll
        have hroom := O8.vers.room
        have hvn := O8.vn
        (try simp (disch := first | exact Nat.le_of_ble_eq_true rfl | omega) only [AXR, AXB, J.dst, reduceIte, Nat.reduceEqDiff, Nat.reduceAdd, Nat.reduceMul, Nat.reduceLT, Nat.reduceLeDiff]); rw [f46c15_eq]; (try simp (disch := first | exact Nat.le_of_ble_eq_true rfl | omega) only [AXR, AXB, J.dst, reduceIte, Nat.reduceEqDiff, Nat.reduceAdd, Nat.reduceMul, Nat.reduceLT, Nat.reduceLeDiff, f46r0, f46r1, f46r2, f46r3, f46r4, f46r5, f46r6, f46r7, f46r8, f46r9, f46r10, f46r11, f46r12, f46r13, f46r14, B8.cel, eCV])
        refine slc_lo' (l := l) (by omega) hroom.1 ?_
        intro a9 ha9
        try simp (disch := first | exact Nat.le_of_ble_eq_true rfl | omega) only [AXR, AXB, J.dst, reduceIte, Nat.reduceEqDiff, Nat.reduceAdd, Nat.reduceMul, Nat.reduceLT, Nat.reduceLeDiff]
        refine wL_stN rfl rfl rfl B8 (by rw [eCV_len]; exact Nat.le_of_ble_eq_true rfl) (one_sl _ _ _) ?_
        rintro h9 u9 (B9 : Blk _ _ _ (eCV { x' with va := a9, vn := x'.vn - l, vc := x'.vc - l }))
        try simp (disch := first | exact Nat.le_of_ble_eq_true rfl | omega) only [AXR, AXB, J.dst, reduceIte, Nat.reduceEqDiff, Nat.reduceAdd, Nat.reduceMul, Nat.reduceLT, Nat.reduceLeDiff]
        refine app h9 _ { x' with va := a9, vn := x'.vn - l, vc := x'.vc - l } (trimC below x) (u9.ext e78 (by omega)) B9 ?_ rfl rfl rfl rfl rfl rfl rfl
        refine ⟨O8.key, O8.locked, O8.lock, ?_, Nat.sub_le_sub_right hroom.1 l, ?_⟩
        · show x'.vn - l = (x.vers.drop _).length
          rw [List.length_drop, ← hl, hvn]
        · show SlF _ _ _ _ (x.vers.drop _)
          rw [← hl]
          refine (SlF.of_drop O8.vers hvn ha9).to fun b hb => ⟨⟨hb.1, by rw [u9.size]; exact hb.2.1⟩, u9.ne b (by omega)⟩
      (try simp (disch := first | exact Nat.le_of_ble_eq_true rfl | omega) only [AXR, AXB, J.dst, reduceIte, Nat.reduceEqDiff, Nat.reduceAdd, Nat.reduceMul, Nat.reduceLT, Nat.reduceLeDiff]); rw [f46c12_eq]; (try simp (disch := first | exact Nat.le_of_ble_eq_true rfl | omega) only [AXR, AXB, J.dst, reduceIte, Nat.reduceEqDiff, Nat.reduceAdd, Nat.reduceMul, Nat.reduceLT, Nat.reduceLeDiff, f46r0, f46r1, f46r2, f46r3, f46r4, f46r5, f46r6, f46r7, f46r8, f46r9, f46r10, f46r11, f46r12, f46r13, f46r14, B8.cel, eCV, ha, hi, O8.vn, row_ver hrow'])
      refine ⟨by omega, by omega, ?_⟩
      (try simp (disch := first | exact Nat.le_of_ble_eq_true rfl | omega) only [AXR, AXB, J.dst, reduceIte, Nat.reduceEqDiff, Nat.reduceAdd, Nat.reduceMul, Nat.reduceLT, Nat.reduceLeDiff]); rw [f46c13_eq]; (try simp (disch := first | exact Nat.le_of_ble_eq_true rfl | omega) only [AXR, AXB, J.dst, reduceIte, Nat.reduceEqDiff, Nat.reduceAdd, Nat.reduceMul, Nat.reduceLT, Nat.reduceLeDiff, f46r0, f46r1, f46r2, f46r3, f46r4, f46r5, f46r6, f46r7, f46r8, f46r9, f46r10, f46r11, f46r12, f46r13, f46r14])
      refine ⟨fun hd => ?_, fun hd => ?_⟩
      · (try simp (disch := first | exact Nat.le_of_ble_eq_true rfl | omega) only [AXR, AXB, J.dst, reduceIte, Nat.reduceEqDiff, Nat.reduceAdd, Nat.reduceMul, Nat.reduceLT, Nat.reduceLeDiff]); rw [f46c14_eq]; (try simp (disch := first | exact Nat.le_of_ble_eq_true rfl | omega) only [AXR, AXB, J.dst, reduceIte, Nat.reduceEqDiff, Nat.reduceAdd, Nat.reduceMul, Nat.reduceLT, Nat.reduceLeDiff, f46r0, f46r1, f46r2, f46r3, f46r4, f46r5, f46r6, f46r7, f46r8, f46r9, f46r10, f46r11, f46r12, f46r13, f46r14])
        rw [i64_wrap (by omega) (by omega)]
        exact sli (i + 1) [] (by rw [hcut, hd]; rfl)
      · exact sli i _ (by rw [hcut, hd]; rfl)
    · have hneg : lastV x.vers below < 0 := by have := of_decide_eq_false h2; omega
      have hcut : cutV x.vers below = 0 := by unfold cutV; rw [if_pos hneg]
      try simp (disch := first | exact Nat.le_of_ble_eq_true rfl | omega) only [AXR, AXB, J.dst, reduceIte, Nat.reduceEqDiff, Nat.reduceAdd, Nat.reduceMul, Nat.reduceLT, Nat.reduceLeDiff]
      refine app h8 _ x' x e78 B8 (O8.cr.imp fun b hb => ⟨hb.1, hb.2.1⟩) ?_ rfl rfl rfl rfl rfl rfl
      unfold trimC
      rw [hcut]; rfl
  · have hkl : k = cs.length := by have := of_decide_eq_false h2; omega
    subst hkl
    refine hex _ _ ?_
    (try simp (disch := first | exact Nat.le_of_ble_eq_true rfl | omega) only [AXR, AXB, J.dst, reduceIte, Nat.reduceEqDiff, Nat.reduceAdd, Nat.reduceMul, Nat.reduceLT, Nat.reduceLeDiff]); rw [f46c20_eq]; (try simp (disch := first | exact Nat.le_of_ble_eq_true rfl | omega) only [AXR, AXB, J.dst, reduceIte, Nat.reduceEqDiff, Nat.reduceAdd, Nat.reduceMul, Nat.reduceLT, Nat.reduceLeDiff, f46r0, f46r1, f46r2, f46r3, f46r4, f46r5, f46r6, f46r7, f46r8, f46r9, f46r10, f46r11, f46r12, f46r13, f46r14])
    rw [List.take_length] at O
    exact hR _ _ _ _ (O.mono e1.size) eh
end Go.Proofs.Ytefghfgmkndikaa
