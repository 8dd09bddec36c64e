/-
  Walks: the reference's Lock.
-/
import Derived.Test.YtefghfgmkndikaaWF
set_option linter.unusedSimpArgs false
set_option linter.unusedVariables false
namespace Go.AX
open Go
/-- Where the reference lays a lock. -/
def rlockL (cs : List Cell) (w : Wri) (l : Lck) : List Cell :=
  if findK cs w.key < 0 then cs.take (lbK cs w.key) ++ [⟨w.key, [], true, lkW w l⟩] ++ cs.drop (lbK cs w.key)
  else cs.set (findK cs w.key).toNat { cs.getD (findK cs w.key).toNat default with locked := true, lock := lkW w l }
theorem wT_one (P : Program) (m : Option Md) (is : List I) (r : L) (C : Env → Heap → Prop) (σ : Env) (h : Heap) : wT P m (.one is r) C σ h = wL P m is 0 (fun σ h => wT P m r C σ h) σ h := rfl
theorem wT_alt (P : Program) (m : Option Md) (a b : L) (C : Env → Heap → Prop) (σ : Env) (h : Heap) : wT P m (.alt a b) C σ h = (wT P m a C σ h ∧ wT P m b C σ h) := rfl
theorem wT_nil (P : Program) (m : Option Md) (C : Env → Heap → Prop) (σ : Env) (h : Heap) : wT P m .nil C σ h = C σ h := rfl
theorem slc_hi' {sz n c u : Nat} {a : Option Addr} {K : Value → Prop} (h2 : u ≤ c) (H : ∀ a', (∀ b o, a = some ⟨b, o, none⟩ → a' = some ⟨b, o, none⟩) → K (.slice a' u c)) : slcV sz (.slice a n c) none (some (vi u)) none K := by
  simp only [slcV, asI_int, bd_some, Int.toNat_natCast]
  refine ⟨by omega, by omega, by omega, by omega, H _ ?_⟩
  rintro b o rfl
  split
  · rfl
  · simp [add_mk]
theorem kp_gr {h0 h h' : Heap} {row : Option Nat} (G : Gr row h h') (hs : h0.size ≤ h.size) (hr : ∀ k, row = some k → h0.size ≤ k) : kpOk (some ⟨(· < h0.size), h0⟩) h h' :=
  fun b hb => G.at_ b (Nat.lt_of_lt_of_le hb hs) (fun e => by have := hr b e.symm; have : b < h0.size := hb; omega)
end Go.AX
namespace Go.Proofs.Ytefghfgmkndikaa
open Go Go.AX

theorem rlock_ok {B : Nat → Prop} {a : Option Addr} {c : Nat} (cs : List Cell) (w : Wri) (l : Lck) (h : Heap) (S : SlC B h a cs) (hn : cs.length < big) (F : ∀ c ∈ cs, c.vers.length ≤ big) {R : Value → Heap → Prop}
    (hR : ∀ a' n' c' h', OwnC h.size h' a' n' c' (rlockL cs w l) → Ext h h' → R (.slice a' n' c') h') : CallsH Try.prog 79 [.slice a cs.length c, .agg (eWri w).toArray, .agg (eLck l).toArray] h R := by
  have hbig : big = 1000000 := rfl
  refine f79ok (by simp) ?_
  (try simp (disch := first | exact Nat.le_of_ble_eq_true rfl | omega) only [AXR, AXB, J.dst, reduceIte, Nat.reduceEqDiff, Nat.reduceAdd, Nat.reduceMul, Nat.reduceLT, Nat.reduceLeDiff]); rw [f79c0_eq]; (try simp (disch := first | exact Nat.le_of_ble_eq_true rfl | omega) only [AXR, AXB, J.dst, reduceIte, Nat.reduceEqDiff, Nat.reduceAdd, Nat.reduceMul, Nat.reduceLT, Nat.reduceLeDiff, f79r0, f79r1, f79r2, f79r3, f79r4, f79r5, f79r6, f79r7, f79r8, f79r9, f79r10, f79r11, f79r12])
  refine wL_boxN rfl ?_; rintro b1 h1 e1 s1 hb1 (B1 : Blk _ _ _ (eWri w))
  refine wL_boxN rfl ?_; rintro b2 h2 e2 s2 hb2 (B2 : Blk _ _ _ (eLck l))
  have hl1 := B1.lt
  replace B1 := B1.ext e2
  have hne : b1 ≠ b2 := by omega
  have e12 := e1.trans e2
  (try simp (disch := first | exact Nat.le_of_ble_eq_true rfl | omega) only [AXR, AXB, J.dst, reduceIte, Nat.reduceEqDiff, Nat.reduceAdd, Nat.reduceMul, Nat.reduceLT, Nat.reduceLeDiff]); rw [f79c1_eq]; (try simp (disch := first | exact Nat.le_of_ble_eq_true rfl | omega) only [AXR, AXB, J.dst, reduceIte, Nat.reduceEqDiff, Nat.reduceAdd, Nat.reduceMul, Nat.reduceLT, Nat.reduceLeDiff, f79r0, f79r1, f79r2, f79r3, f79r4, f79r5, f79r6, f79r7, f79r8, f79r9, f79r10, f79r11, f79r12])
  refine copy_ok cs _ (S.ext e12) (by omega) F ?_
  intro al cl h3 L e3
  try simp (disch := first | exact Nat.le_of_ble_eq_true rfl | omega) only [AXR, AXB, J.dst, reduceIte, Nat.reduceEqDiff, Nat.reduceAdd, Nat.reduceMul, Nat.reduceLT, Nat.reduceLeDiff]
  have hl2 := B2.lt
  have hz3 := e3.size
  replace B1 := B1.ext e3
  replace B2 := B2.ext e3
  have hLo := L.row
  (try simp (disch := first | exact Nat.le_of_ble_eq_true rfl | omega) only [AXR, AXB, J.dst, reduceIte, Nat.reduceEqDiff, Nat.reduceAdd, Nat.reduceMul, Nat.reduceLT, Nat.reduceLeDiff]); rw [f79c2_eq]; (try simp (disch := first | exact Nat.le_of_ble_eq_true rfl | omega) only [AXR, AXB, J.dst, reduceIte, Nat.reduceEqDiff, Nat.reduceAdd, Nat.reduceMul, Nat.reduceLT, Nat.reduceLeDiff, f79r0, f79r1, f79r2, f79r3, f79r4, f79r5, f79r6, f79r7, f79r8, f79r9, f79r10, f79r11, f79r12])
  refine ⟨fun b => b < h3.size ∧ b ≠ b2, fun b hb => hb.1, ?_⟩
  simp (disch := first | exact Nat.le_of_ble_eq_true rfl | omega) only [AXR, AXB, J.dst, reduceIte, Nat.reduceEqDiff, Nat.reduceAdd, Nat.reduceMul, Nat.reduceLT, Nat.reduceLeDiff, f79r2, B1.cel, eWri]
  refine ⟨⟨by omega, hne⟩, ⟨by omega, hne⟩, ?_⟩
  refine wL_stD rfl rfl (fun h => h.2 rfl) rfl B2 (Nat.le_of_ble_eq_true rfl) (one_b _) ?_
  intro h4 u4 B4
  simp (disch := first | exact Nat.le_of_ble_eq_true rfl | omega) only [AXR, AXB, J.dst, reduceIte, Nat.reduceEqDiff, Nat.reduceAdd, Nat.reduceMul, Nat.reduceLT, Nat.reduceLeDiff]
  refine wL_stD rfl rfl (fun h => h.2 rfl) rfl B4 (Nat.le_of_ble_eq_true rfl) (one_s _) ?_
  rintro h5 u5 (B5 : Blk _ _ _ (eLck { l with drop := w.drop, data := w.data }))
  have B15 := u5.blk (u4.blk B1 hne) hne
  have e35 : Ext h h5 := u5.ext (u4.ext (e12.trans e3) (by omega)) (by omega)
  have U35 : ∀ j, h2.size ≤ j → h5[j]? = h3[j]? := fun j hj => (u5.ne j (by omega)).trans (u4.ne j (by omega))
  have hs35 : h5.size = h3.size := u5.size.trans u4.size
  obtain ⟨vs, L1, L2, L3⟩ := L
  -- the copy, where it is after the stores
  have hcopy : OwnC h2.size h5 al cs.length cl cs := by
    refine ⟨vs, ?_, L2, L3.imp fun _ _ r => r.to fun b hb => ⟨⟨hb.1, by rw [hs35]; exact hb.2.1, hb.2.2⟩, U35 b hb.1⟩⟩
    refine ⟨L1.1, L1.2.imp id ?_⟩
    rintro ⟨g, cur, rfl, h1', h2', h3'⟩
    exact ⟨g, cur, rfl, h1', by rw [U35 g h1']; exact h2', h3'⟩
  have rest : ∀ (h6 : Heap) (τ : Env), Ext h h6 → h2.size ≤ h6.size → OwnC h2.size h6 al cs.length cl cs → Blk h6 b1 70 (eWri w) → Blk h6 b2 72 (eLck (lkW w l)) →
      AX.look τ 4 = some (ptr b1 0) → AX.look τ 5 = some (ptr b2 0) → AX.look τ 7 = some (.slice al cs.length cl) → wC Try.prog f79c6 (endW [Rs.tmp 6] R) τ h6 := by
    intro h6 τ e6 hz26 O6 B1 B2 l4 l5 l7
    have hlb := lbK_le cs w.key
    have hg12 := B2.lt
    -- the last part
    have fin : ∀ (h8 : Heap) (i : Nat) (τ : Env) (a8 : Option Addr) (n8 c8 : Nat) (ds : List Cell) (x : Cell), Ext h h8 → OwnC h2.size h8 a8 n8 c8 ds → ds[i]? = some x → Blk h8 b2 72 (eLck (lkW w l)) →
        ds.set i { x with locked := true, lock := lkW w l } = rlockL cs w l → AX.look τ 5 = some (ptr b2 0) → AX.look τ 7 = some (.slice a8 n8 c8) → AX.look τ 8 = some (vi i) → wC Try.prog f79c16 (endW [Rs.tmp 6] R) τ h8 := by
      intro h8 i τ a8 n8 c8 ds x e8 O8 hx B8 hres l5 l7 l8
      obtain ⟨vs, h1', h2', h3'⟩ := O8
      have hxl := (List.getElem?_eq_some_iff.1 hx).1
      obtain ⟨v, hv, hcr⟩ := h3'.get hx
      obtain ⟨hr1, hr2⟩ := h1'.room
      obtain ⟨g, cur, rfl, hg, G, hcl, hct⟩ := h1'.blk (by omega)
      have hgb : g ≠ b2 := by omega
      have hle : i * 12 + 12 ≤ c8 * 12 := by omega
      rw [f79c16_eq]
      refine ⟨fun b => b < h8.size ∧ b ≠ g, fun b hb => hb.1, ?_⟩
      simp (disch := first | exact Nat.le_of_ble_eq_true rfl | omega) only [AXR, AXB, J.dst, reduceIte, Nat.reduceEqDiff, Nat.reduceAdd, Nat.reduceMul, Nat.reduceLT, Nat.reduceLeDiff, f79r11, B8.rd, eLck, l5, l7, l8]
      refine ⟨⟨B8.lt, fun e => hgb e.symm⟩, by omega, by omega, ?_⟩
      refine wL_stD rfl rfl (fun h => h.2 rfl) rfl G (by rw [hcl]; omega) (one_b _) ?_
      intro h9 u9 B9
      simp (disch := first | exact Nat.le_of_ble_eq_true rfl | omega) only [AXR, AXB, J.dst, reduceIte, Nat.reduceEqDiff, Nat.reduceAdd, Nat.reduceMul, Nat.reduceLT, Nat.reduceLeDiff, l5, l7, l8]
      refine ⟨by omega, by omega, ?_⟩
      refine wL_stD rfl rfl (fun h => h.2 rfl) rfl B9 (by rw [putL_length, hcl]; omega) (one_lck (lkW w l)) ?_
      intro h10 u10 B10
      try simp (disch := first | exact Nat.le_of_ble_eq_true rfl | omega) only [AXR, AXB, J.dst, reduceIte, Nat.reduceEqDiff, Nat.reduceAdd, Nat.reduceMul, Nat.reduceLT, Nat.reduceLeDiff, l5, l7, l8]
      (try simp (disch := first | exact Nat.le_of_ble_eq_true rfl | omega) only [AXR, AXB, J.dst, reduceIte, Nat.reduceEqDiff, Nat.reduceAdd, Nat.reduceMul, Nat.reduceLT, Nat.reduceLeDiff]); rw [f79c17_eq]; (try simp (disch := first | exact Nat.le_of_ble_eq_true rfl | omega) only [AXR, AXB, J.dst, reduceIte, Nat.reduceEqDiff, Nat.reduceAdd, Nat.reduceMul, Nat.reduceLT, Nat.reduceLeDiff, f79r0, f79r1, f79r2, f79r3, f79r4, f79r5, f79r6, f79r7, f79r8, f79r9, f79r10, f79r11, f79r12])
      have hu : Upd g h8 h10 := ⟨by rw [u10.size, u9.size], fun k hk => (u10.ne k hk).trans (u9.ne k hk)⟩
      have hs2 := e12.size
      have hgh : h.size ≤ g := by omega
      refine hR _ _ _ _ ⟨vs.set i { v with locked := true, lock := lkW w l }, ?_, ?_, ?_⟩ (hu.ext e8 hgh)
      · simp only [Nat.zero_add] at B9 B10
        have P1 := h1'.put (h' := h9) eCV_len (by rw [h2', h3'.length]) hv rfl G (off := 2) (vals := [.bool true]) (v' := { v with locked := true }) (by exact B9) rfl (by simp)
        have P2 := P1.put (h' := h10) eCV_len (by rw [List.length_set, h2', h3'.length]) (i := i) (v := { v with locked := true }) (by rw [List.getElem?_set_self (by rw [h3'.length]; exact hxl)]) rfl B9 (off := 3) (vals := eLck (lkW w l))
          (v' := { v with locked := true, lock := lkW w l }) (by exact B10) rfl (by simp [eLck])
        rw [List.set_set] at P2
        exact P2.mono hs2
      · rw [← hres, List.length_set]; exact h2'
      · rw [← hres]
        have hto : ∀ b, (h2.size ≤ b ∧ b < h8.size ∧ some b ≠ ob (some (⟨g, 0, none⟩ : Addr))) → (h.size ≤ b ∧ b < h10.size ∧ some b ≠ ob (some (⟨g, 0, none⟩ : Addr))) ∧ h10[b]? = h8[b]? := by
          rintro b ⟨b1, b2, b3⟩
          exact ⟨⟨by omega, by rw [hu.size]; exact b2, b3⟩, hu.ne b (fun e => b3 (by rw [e]; rfl))⟩
        have r := hcr.to hto
        exact (h3'.imp fun _ _ r => r.to hto).set ⟨r.key, rfl, rfl, r.vn, r.cap, r.vers⟩
    (try simp (disch := first | exact Nat.le_of_ble_eq_true rfl | omega) only [AXR, AXB, J.dst, reduceIte, Nat.reduceEqDiff, Nat.reduceAdd, Nat.reduceMul, Nat.reduceLT, Nat.reduceLeDiff]); rw [f79c6_eq]; (try simp (disch := first | exact Nat.le_of_ble_eq_true rfl | omega) only [AXR, AXB, J.dst, reduceIte, Nat.reduceEqDiff, Nat.reduceAdd, Nat.reduceMul, Nat.reduceLT, Nat.reduceLeDiff, f79r0, f79r1, f79r2, f79r3, f79r4, f79r5, f79r6, f79r7, f79r8, f79r9, f79r10, f79r11, f79r12, B1.cel, eWri, l4, l5, l7])
    refine rfind_ok cs w.key _ O6.slc (by unfold maxLen; omega) ?_
    try simp (disch := first | exact Nat.le_of_ble_eq_true rfl | omega) only [AXR, AXB, J.dst, reduceIte, Nat.reduceEqDiff, Nat.reduceAdd, Nat.reduceMul, Nat.reduceLT, Nat.reduceLeDiff]
    (try simp (disch := first | exact Nat.le_of_ble_eq_true rfl | omega) only [AXR, AXB, J.dst, reduceIte, Nat.reduceEqDiff, Nat.reduceAdd, Nat.reduceMul, Nat.reduceLT, Nat.reduceLeDiff]); rw [f79c7_eq]; (try simp (disch := first | exact Nat.le_of_ble_eq_true rfl | omega) only [AXR, AXB, J.dst, reduceIte, Nat.reduceEqDiff, Nat.reduceAdd, Nat.reduceMul, Nat.reduceLT, Nat.reduceLeDiff, f79r0, f79r1, f79r2, f79r3, f79r4, f79r5, f79r6, f79r7, f79r8, f79r9, f79r10, f79r11, f79r12]); rw [f79c8_eq]; (try simp (disch := first | exact Nat.le_of_ble_eq_true rfl | omega) only [AXR, AXB, J.dst, reduceIte, Nat.reduceEqDiff, Nat.reduceAdd, Nat.reduceMul, Nat.reduceLT, Nat.reduceLeDiff, f79r0, f79r1, f79r2, f79r3, f79r4, f79r5, f79r6, f79r7, f79r8, f79r9, f79r10, f79r11, f79r12])
    refine ⟨fun hh => ?_, fun hh => ?_⟩
    · have hneg := of_decide_eq_true hh
      (try simp (disch := first | exact Nat.le_of_ble_eq_true rfl | omega) only [AXR, AXB, J.dst, reduceIte, Nat.reduceEqDiff, Nat.reduceAdd, Nat.reduceMul, Nat.reduceLT, Nat.reduceLeDiff]); rw [f79c9_eq]; (try simp (disch := first | exact Nat.le_of_ble_eq_true rfl | omega) only [AXR, AXB, J.dst, reduceIte, Nat.reduceEqDiff, Nat.reduceAdd, Nat.reduceMul, Nat.reduceLT, Nat.reduceLeDiff, f79r0, f79r1, f79r2, f79r3, f79r4, f79r5, f79r6, f79r7, f79r8, f79r9, f79r10, f79r11, f79r12])
      rw [f79c10_eq]
      have ins : ∀ τ, AX.look τ 4 = some (ptr b1 0) → AX.look τ 5 = some (ptr b2 0) → AX.look τ 7 = some (.slice al cs.length cl) → AX.look τ 8 = some (vi (lbK cs w.key)) →
          wC Try.prog f79c15 (X.then (fun σ h => wC Try.prog f79c16 (endW [Rs.tmp 6] R) σ h) (endW [Rs.tmp 6] R)) τ h6 := by
        intro τ l4 l5 l7 l8
        generalize hi : lbK cs w.key = i at *
        rw [f79c15_eq]
        refine drt_lt ?_
        obtain ⟨vs, C1, C2, C3⟩ := O6
        obtain ⟨hr1, hr2⟩ := C1.room
        obtain ⟨new, hnew⟩ : ∃ new : CV, new = ⟨w.key, none, 0, 0, false, noLock⟩ := ⟨_, rfl⟩
        simp only [f79r10, wT_one, wL_mov, evO_tmp, look_cons, Nat.reduceEqDiff, reduceIte, l7, l8, bd_some, wL_slc, evOo_none, evOo_some, Option.map_some]
        refine slc_hi' (u := i) (by omega) ?_
        intro a45 h45
        simp only [wL_fad, wL_ld1, wL_bld, wL_mov, evO_tmp, look_cons, Nat.reduceEqDiff, reduceIte, l4, l7, l8, bd_some, asP_ptr, ldOk_some, ldHeap_some, B1.cel, eWri, Nat.zero_add, List.getElem?_cons_zero, fillL_cons, fillL_nil, Option.bind_some, cells_string, List.size_toArray, List.length_cons, List.length_nil, Nat.reduceAdd, Nat.reduceLeDiff, and_self, putL_cons, putL_nil, List.set_cons_zero, wL_slc, evOo_none, evOo_some, Option.map_some]
        refine ⟨B1.lt, ?_⟩
        refine slc_lo' (l := i) hlb hr1 ?_
        intro a54 h54
        have t3 : ∀ (o51 o55 : Oper) (h8 : Heap) (b50 : Nat) (a46 : Option Addr) (c46 : Nat) (τ : Env), o51.op = .call ⟨.builtin .append, #[.tmp 46, .tmp 50], #[74, 74]⟩ → o55.op = .call ⟨.builtin .append, #[.tmp 51, .tmp 54], #[74, 74]⟩ → Ext h6 h8 → Blk h8 b50 103 (eCV new) → Own h6.size h8 103 12 a46 i c46 ((vs.take i).flatMap eCV) →
            AX.look τ 46 = some (.slice a46 i c46) → AX.look τ 50 = some (sl b50 0 1 1) → AX.look τ 54 = some (.slice a54 (cs.length - i) (cl - i)) → AX.look τ 5 = some (ptr b2 0) → AX.look τ 8 = some (vi i) →
            wL Try.prog (some ⟨(· < h6.size), h6⟩) [.op (.raw (some 51) o51), .op (.raw (some 55) o55), .op (.mov 7 (.tmp 55)), .kp [5, 7, 8]] 0 (fun σ h => wC Try.prog f79c16 (endW [Rs.tmp 6] R) σ h) τ h8 := by
          intro o51 o55 h8 b50 a46 c46 τ ho51 ho55 e8 B50 O46 l46 l50 l54 l5 l8
          rw [wL_raw]
          refine raw_append slT74 ho51 (by exact l46) (by exact l50) O46 (news := eCV new) (by rw [eCV_len]) (.inr ⟨b50, 0, rfl, B50.row⟩) (eCV_one new) (by unfold maxLen; omega) (by omega) e8.size ?_
          intro a51 c51 h9 O51 G9 A9
          have e9 : Ext h6 h9 := G9.ext e8 (fun k hk => (O46.ob k hk).1)
          refine ⟨kp_gr G9 e8.size (fun k hk => (O46.ob k hk).1), ?_⟩
          rw [putE_some, wL_raw]
          refine raw_append slT74 ho55 rfl (by exact l54) O51 (news := (vs.drop i).flatMap eCV) (by rw [flatMap_length eCV_len, List.length_drop, ← C3.length]) ?_ (one_flatMap eCV_one _) (by unfold maxLen; omega) (by omega) e9.size ?_
          · rcases Nat.lt_or_ge i cs.length with hil | hil
            · obtain ⟨g, rfl, hg, hrow⟩ := C1.row (by omega)
              refine .inr ⟨g, i * 12, ?_, ?_⟩
              · rw [h54 (by omega), Option.map_some, add_mk, Nat.zero_add]
              · have := (hrow.ext e9).sub (i * 12) ((vs.flatMap eCV).length - i * 12)
                rw [List.take_of_length_le (by rw [List.length_drop]; omega), flatMap_drop eCV_len, Nat.zero_add] at this
                exact this
            · exact .inl (by omega)
          intro a55 c55 h10 O55 G10 A10
          have e10 : Ext h6 h10 := G10.ext e9 (fun k hk => (O51.ob k hk).1)
          refine ⟨kp_gr G10 e9.size (fun k hk => (O51.ob k hk).1), ?_⟩
          simp (disch := first | exact Nat.le_of_ble_eq_true rfl | omega) only [AXR, AXB, J.dst, reduceIte, Nat.reduceEqDiff, Nat.reduceAdd, Nat.reduceMul, Nat.reduceLT, Nat.reduceLeDiff, l5, l8]
          have hO55 := O55.ob
          refine fin h10 i _ a55 _ c55 (cs.take i ++ [⟨w.key, [], false, noLock⟩] ++ cs.drop i) ⟨w.key, [], false, noLock⟩ (e6.trans e10) ⟨vs.take i ++ [new] ++ vs.drop i, ?_, ?_, ?_⟩ ?_ (B2.ext e10) ?_ rfl rfl rfl
          · rw [List.flatMap_append, List.flatMap_append]
            simpa using O55.mono hz26
          · simp; omega
          · have h3' := C3.imp fun _ _ r => r.to (B' := fun b => h2.size ≤ b ∧ b < h10.size ∧ some b ≠ ob a55) (h' := h10) fun b hb => ⟨⟨hb.1, by have := e10.size; omega, fun e => by have := (hO55 b e.symm).1; omega⟩, e10.at_ b hb.2.1⟩
            exact ((h3'.take _).append (.cons (by rw [hnew]; exact ⟨rfl, rfl, rfl, rfl, Nat.le_refl _, SlF.nil⟩) .nil)).append (h3'.drop _)
          · rw [List.append_assoc, List.getElem?_append_right (by simp; omega)]
            simp [Nat.min_eq_left hlb]
          · unfold rlockL
            rw [if_pos hneg, hi]
            rw [List.append_assoc, List.set_append_right _ _ (by simp; omega)]
            simp [Nat.min_eq_left hlb]
        have r45 : ∀ h8, Ext h6 h8 → i = 0 ∨ ∃ b q, a45 = some ⟨b, q, none⟩ ∧ Row h8 b q ((vs.take i).flatMap eCV) := by
          intro h8 e8
          rcases Nat.eq_zero_or_pos i with hz | hp
          · exact .inl hz
          · obtain ⟨g, rfl, hg, hrow⟩ := C1.row (by omega)
            refine .inr ⟨g, 0, h45 _ _ rfl, ?_⟩
            have := (hrow.ext e8).sub 0 (i * 12)
            rw [List.drop_zero, flatMap_take eCV_len] at this
            exact this
        have hl45 : ((vs.take i).flatMap eCV).length = i * 12 := by rw [flatMap_length eCV_len, List.length_take, C3.length, Nat.min_eq_left hlb]
        rw [wL_nil, wT_alt]
        refine ⟨?_, ?_⟩
        · rw [wT_one]
          refine wL_bslD rfl (Nat.le_refl _) ?_; intro b42 h42 e42 s42 hb42 B42
          have hg42 : h6.size ≤ b42 := by omega
          rw [wL_nil, wT_alt]
          refine ⟨?_, ?_⟩
          · rw [wT_one]
            rw [wL_raw]
            refine raw_append slT74 rfl rfl rfl (Own.of_blk (lo := h6.size) (n := 0) (c := 0) (xs := []) hg42 B42 (by simp) (Nat.le_refl _) (Nat.zero_le _) (by simp)) hl45 (r45 _ e42) (one_flatMap eCV_one _) (by unfold maxLen; omega) (by omega) e42.size ?_
            intro a46 c46 h46 O46 G46 A46
            rw [Nat.zero_add] at O46
            have e46 : Ext h6 h46 := G46.ext e42 (fun k hk => by cases hk; exact hg42)
            refine ⟨kp_gr G46 e42.size (fun k hk => by cases hk; exact hg42), ?_⟩
            refine wL_bslD rfl e46.size ?_; rintro b50 h50 e50 s50 hb50 (B50 : Blk _ _ _ (eCV ⟨w.key, none, 0, 0, false, noLock⟩))
            rw [← hnew] at B50
            exact t3 _ _ h50 b50 a46 c46 _ rfl rfl (e46.trans e50) B50 (by simpa using O46.ext e50) (by simp only [Nat.zero_add]; rfl) rfl rfl (by exact l5) (by exact l8)
          · rw [wT_one]
            refine wL_bslD rfl e42.size ?_; rintro b50 h50 e50 s50 hb50 (B50 : Blk _ _ _ (eCV ⟨w.key, none, 0, 0, false, noLock⟩))
            rw [← hnew] at B50
            have B42' := B42.ext e50
            have e450 := e42.trans e50
            rw [wL_raw]
            refine raw_append slT74 rfl rfl rfl (Own.of_blk (lo := h6.size) (n := 0) (c := 0) (xs := []) hg42 B42' (by simp) (Nat.le_refl _) (Nat.zero_le _) (by simp)) hl45 (r45 _ e450) (one_flatMap eCV_one _) (by unfold maxLen; omega) (by omega) e450.size ?_
            intro a46 c46 h46 O46 G46 A46
            rw [Nat.zero_add] at O46
            have e46 : Ext h6 h46 := G46.ext e450 (fun k hk => by cases hk; exact hg42)
            refine ⟨kp_gr G46 e450.size (fun k hk => by cases hk; exact hg42), ?_⟩
            exact t3 _ _ h46 b50 a46 c46 _ rfl rfl e46 (G46.blk B50 (fun e => absurd (show b50 = b42 by cases e; rfl) (by omega))) (by simpa using O46) (by simp only [Nat.zero_add]; rfl) rfl rfl (by exact l5) (by exact l8)
        · rw [wT_one]
          refine wL_bslD rfl (Nat.le_refl _) ?_; rintro b50 h50 e50 s50 hb50 (B50 : Blk _ _ _ (eCV ⟨w.key, none, 0, 0, false, noLock⟩))
          rw [← hnew] at B50
          refine wL_bslD rfl e50.size ?_; intro b42 h42 e42 s42 hb42 B42
          have hg42 : h6.size ≤ b42 := by have := e50.size; omega
          have e450 := e50.trans e42
          have hl50 := B50.lt
          rw [wL_raw]
          refine raw_append slT74 rfl rfl rfl (Own.of_blk (lo := h6.size) (n := 0) (c := 0) (xs := []) hg42 B42 (by simp) (Nat.le_refl _) (Nat.zero_le _) (by simp)) hl45 (r45 _ e450) (one_flatMap eCV_one _) (by unfold maxLen; omega) (by omega) e450.size ?_
          intro a46 c46 h46 O46 G46 A46
          rw [Nat.zero_add] at O46
          have e46 : Ext h6 h46 := G46.ext e450 (fun k hk => by cases hk; exact hg42)
          refine ⟨kp_gr G46 e450.size (fun k hk => by cases hk; exact hg42), ?_⟩
          exact t3 _ _ h46 b50 a46 c46 _ rfl rfl e46 (G46.blk (B50.ext e42) (fun e => absurd (show b50 = b42 by cases e; rfl) (by omega))) (by simpa using O46) (by simp only [Nat.zero_add]; rfl) rfl rfl (by exact l5) (by exact l8)
      refine loop_in (fun n σ h' => h' = h6 ∧ ∃ j : Nat, j + n = cs.length ∧ σ = [(4, ptr b1 0), (5, ptr b2 0), (7, .slice al cs.length cl), (8, vi j)] ∧ ∀ p c, p < j → cs[p]? = some c → klt c.key w.key = true)
        cs.length ⟨rfl, 0, by omega, rfl, by intros; omega⟩ ?_
      rintro n σ h' ⟨rfl, j, hj, rfl, hnk⟩ Q' hnx hex hrt _
      rw [f79c11_eq]
      refine drw_lt ?_
      simp only [f79r8, wL_mov, wL_len, wL_bin, wL_sc, evO_tmp, look_cons, Nat.reduceEqDiff, reduceIte, bd_some, lenV_sl, binV_lss, asB_bool, br_eqT]
      refine ⟨fun hh => ?_, fun hh => ?_⟩
      · have hjl : j < cs.length := by have := of_decide_eq_true hh; omega
        obtain ⟨x, hx⟩ := get_ex hjl
        obtain ⟨b, o, v, rfl, _, hrow, hcr⟩ := O6.slc.elem hx
        simp (disch := first | exact Nat.le_of_ble_eq_true rfl | omega) only [AXR, AXB, J.dst, reduceIte, Nat.reduceEqDiff, Nat.reduceAdd, Nat.reduceMul, Nat.reduceLT, Nat.reduceLeDiff, row_cv hrow, B1.cel, eWri, hcr.key]
        refine ⟨by omega, by omega, hrow.lt (by rw [eCV_len]; omega), B1.lt, ?_⟩
        (try simp (disch := first | exact Nat.le_of_ble_eq_true rfl | omega) only [AXR, AXB, J.dst, reduceIte, Nat.reduceEqDiff, Nat.reduceAdd, Nat.reduceMul, Nat.reduceLT, Nat.reduceLeDiff]); rw [f79c12_eq]; (try simp (disch := first | exact Nat.le_of_ble_eq_true rfl | omega) only [AXR, AXB, J.dst, reduceIte, Nat.reduceEqDiff, Nat.reduceAdd, Nat.reduceMul, Nat.reduceLT, Nat.reduceLeDiff, f79r0, f79r1, f79r2, f79r3, f79r4, f79r5, f79r6, f79r7, f79r8, f79r9, f79r10, f79r11, f79r12])
        refine ⟨fun h4 => ?_, fun h4 => ?_⟩
        · rw [f79c13_eq]
          (try simp (disch := first | exact Nat.le_of_ble_eq_true rfl | omega) only [AXR, AXB, J.dst, reduceIte, Nat.reduceEqDiff, Nat.reduceAdd, Nat.reduceMul, Nat.reduceLT, Nat.reduceLeDiff]); rw [f79c14_eq]; (try simp (disch := first | exact Nat.le_of_ble_eq_true rfl | omega) only [AXR, AXB, J.dst, reduceIte, Nat.reduceEqDiff, Nat.reduceAdd, Nat.reduceMul, Nat.reduceLT, Nat.reduceLeDiff, f79r0, f79r1, f79r2, f79r3, f79r4, f79r5, f79r6, f79r7, f79r8, f79r9, f79r10, f79r11, f79r12])
          rw [i64_wrap (by omega) (by omega)]
          refine hnx (n - 1) _ _ (by omega) ⟨rfl, j + 1, by omega, rfl, ?_⟩
          intro p c' hp hc'
          rcases Nat.lt_or_ge p j with hlt | hge
          · exact hnk p c' hlt hc'
          · have : p = j := by omega
            subst this
            rw [hx] at hc'; cases hc'; exact h4
        · have := lbK_eq w.key cs j (by omega) hnk (fun c' hc' => by rw [hx] at hc'; cases hc'; exact h4)
          refine hex _ _ ?_
          exact ins _ rfl rfl rfl (by rw [this]; rfl)
      · have hjl : j = cs.length := by have := of_decide_eq_false hh; omega
        have := lbK_eq w.key cs j (by omega) hnk (fun c' hc' => by rw [hjl, List.getElem?_eq_none (Nat.le_refl _)] at hc'; cases hc')
        try simp (disch := first | exact Nat.le_of_ble_eq_true rfl | omega) only [AXR, AXB, J.dst, reduceIte, Nat.reduceEqDiff, Nat.reduceAdd, Nat.reduceMul, Nat.reduceLT, Nat.reduceLeDiff]
        (try simp (disch := first | exact Nat.le_of_ble_eq_true rfl | omega) only [AXR, AXB, J.dst, reduceIte, Nat.reduceEqDiff, Nat.reduceAdd, Nat.reduceMul, Nat.reduceLT, Nat.reduceLeDiff]); rw [f79c12_eq]; (try simp (disch := first | exact Nat.le_of_ble_eq_true rfl | omega) only [AXR, AXB, J.dst, reduceIte, Nat.reduceEqDiff, Nat.reduceAdd, Nat.reduceMul, Nat.reduceLT, Nat.reduceLeDiff, f79r0, f79r1, f79r2, f79r3, f79r4, f79r5, f79r6, f79r7, f79r8, f79r9, f79r10, f79r11, f79r12, br_false])
        refine hex _ _ ?_
        exact ins _ rfl rfl rfl (by rw [this]; rfl)
    · have hpos := of_decide_eq_false hh
      have hb := findK_lt cs w.key
      obtain ⟨i, hi⟩ : ∃ i : Nat, findK cs w.key = i := ⟨(findK cs w.key).toNat, by omega⟩
      obtain ⟨x, hx⟩ := get_ex (show i < cs.length by omega)
      refine fin h6 i _ al cs.length cl cs x e6 O6 hx B2 ?_ rfl rfl (by rw [hi]; rfl)
      unfold rlockL
      rw [if_neg hpos, hi, Int.toNat_natCast, getD_of hx]
  (try simp (disch := first | exact Nat.le_of_ble_eq_true rfl | omega) only [AXR, AXB, J.dst, reduceIte, Nat.reduceEqDiff, Nat.reduceAdd, Nat.reduceMul, Nat.reduceLT, Nat.reduceLeDiff]); rw [f79c3_eq]; (try simp (disch := first | exact Nat.le_of_ble_eq_true rfl | omega) only [AXR, AXB, J.dst, reduceIte, Nat.reduceEqDiff, Nat.reduceAdd, Nat.reduceMul, Nat.reduceLT, Nat.reduceLeDiff, f79r0, f79r1, f79r2, f79r3, f79r4, f79r5, f79r6, f79r7, f79r8, f79r9, f79r10, f79r11, f79r12, B15.cel, eWri]); rw [f79c4_eq]; (try simp (disch := first | exact Nat.le_of_ble_eq_true rfl | omega) only [AXR, AXB, J.dst, reduceIte, Nat.reduceEqDiff, Nat.reduceAdd, Nat.reduceMul, Nat.reduceLT, Nat.reduceLeDiff, f79r0, f79r1, f79r2, f79r3, f79r4, f79r5, f79r6, f79r7, f79r8, f79r9, f79r10, f79r11, f79r12, B15.cel, eWri])
  refine ⟨fun hd => ?_, fun hd => ?_⟩
  · (try simp (disch := first | exact Nat.le_of_ble_eq_true rfl | omega) only [AXR, AXB, J.dst, reduceIte, Nat.reduceEqDiff, Nat.reduceAdd, Nat.reduceMul, Nat.reduceLT, Nat.reduceLeDiff]); rw [f79c5_eq]; (try simp (disch := first | exact Nat.le_of_ble_eq_true rfl | omega) only [AXR, AXB, J.dst, reduceIte, Nat.reduceEqDiff, Nat.reduceAdd, Nat.reduceMul, Nat.reduceLT, Nat.reduceLeDiff, f79r0, f79r1, f79r2, f79r3, f79r4, f79r5, f79r6, f79r7, f79r8, f79r9, f79r10, f79r11, f79r12])
    refine wL_stN rfl rfl rfl B5 (Nat.le_of_ble_eq_true rfl) (one_s _) ?_
    rintro h6 u6 (B6 : Blk _ _ _ (eLck { l with drop := w.drop, data := noB }))
    try simp (disch := first | exact Nat.le_of_ble_eq_true rfl | omega) only [AXR, AXB, J.dst, reduceIte, Nat.reduceEqDiff, Nat.reduceAdd, Nat.reduceMul, Nat.reduceLT, Nat.reduceLeDiff]
    refine rest h6 _ (u6.ext e35 (by have := e12.size; omega)) (by rw [u6.size, hs35]; exact hz3) ?_ (u6.blk B15 hne) ?_ rfl rfl rfl
    · obtain ⟨vs, C1, C2, C3⟩ := hcopy
      refine ⟨vs, C1.gr u6.gr (fun k hk => by have := (C1.ob k hk).1; intro e; cases e; omega), C2, C3.imp fun _ _ r => r.to fun b hb => ⟨⟨hb.1, by rw [u6.size]; exact hb.2.1, hb.2.2⟩, u6.ne b (by omega)⟩⟩
    · have : lkW w l = { l with drop := w.drop, data := noB } := by simp [lkW, hd]
      rw [this]; exact B6
  · refine rest h5 _ e35 (by rw [hs35]; exact hz3) hcopy B15 ?_ rfl rfl rfl
    have : lkW w l = { l with drop := w.drop, data := w.data } := by simp [lkW, hd]
    rw [this]; exact B5
end Go.Proofs.Ytefghfgmkndikaa
