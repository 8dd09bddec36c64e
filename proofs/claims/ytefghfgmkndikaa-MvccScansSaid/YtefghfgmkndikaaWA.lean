/-
  Walks: Lock.
-/
import Derived.Test.YtefghfgmkndikaaW9
set_option linter.unusedSimpArgs false
set_option linter.unusedVariables false
namespace Go.AX
open Go
/-- The lock that is laid. -/
def lkW (w : Wri) (l : Lck) : Lck := { l with drop := w.drop, data := if w.drop then noB else w.data }
def lockL (cs : List Cell) (w : Wri) (l : Lck) : List Cell :=
  if hasK cs w.key then cs.set (lbK cs w.key) { cs.getD (lbK cs w.key) default with locked := true, lock := lkW w l }
  else cs.take (lbK cs w.key) ++ [⟨w.key, [], true, lkW w l⟩] ++ cs.drop (lbK cs w.key)

theorem All2.set {α β : Type} {R : α → β → Prop} : ∀ {l : List α} {m : List β} {i : Nat} {a : α} {b : β}, All2 R l m → R a b → All2 R (l.set i a) (m.set i b)
  | _, _, _, _, _, .nil, _ => .nil
  | _, _, 0, _, _, .cons _ t, h => .cons h t
  | _, _, i + 1, _, _, .cons r t, h => .cons r (t.set h)
theorem All2.take {α β : Type} {R : α → β → Prop} : ∀ {l : List α} {m : List β} (i : Nat), All2 R l m → All2 R (l.take i) (m.take i)
  | _, _, 0, _ => by simp only [List.take_zero]; exact .nil
  | _, _, i + 1, .nil => by simp only [List.take_nil]; exact .nil
  | _, _, i + 1, .cons r t => .cons r (t.take i)
theorem All2.drop {α β : Type} {R : α → β → Prop} : ∀ {l : List α} {m : List β} (i : Nat), All2 R l m → All2 R (l.drop i) (m.drop i)
  | _, _, 0, t => t
  | _, _, i + 1, .nil => .nil
  | _, _, i + 1, .cons _ t => t.drop i

theorem cellTo {lo : Nat} {h h' : Heap} {a a' : Option Addr} (G : Gr (ob a) h h') (A : ob a' = ob a ∨ ∃ k, ob a' = some k ∧ h.size ≤ k) :
    ∀ b, (lo ≤ b ∧ b < h.size ∧ some b ≠ ob a) → (lo ≤ b ∧ b < h'.size ∧ some b ≠ ob a') ∧ h'[b]? = h[b]? := by
  rintro b ⟨b1, b2, b3⟩
  refine ⟨⟨b1, Nat.lt_of_lt_of_le b2 G.size, ?_⟩, G.at_ b b2 b3⟩
  rcases A with e | ⟨k, e, hk⟩
  · rw [e]; exact b3
  · rw [e]; intro e'; cases e'; omega
theorem eCV_lock (v : CV) (l : Lck) : eCV { v with locked := true, lock := l } = putL (putL (eCV v) 2 [.bool true]) 3 (eLck l) := rfl
end Go.AX
namespace Go.Proofs.Ytefghfgmkndikaa
open Go Go.AX

theorem one_lck (l : Lck) : ∀ v ∈ eLck l, v.oneCell' = true := by
  intro v hv; simp only [eLck, List.mem_cons, List.not_mem_nil, or_false] at hv
  rcases hv with rfl | rfl | rfl | rfl | rfl | rfl | rfl | rfl | rfl <;> rfl
theorem one_b (b : Bool) : ∀ v ∈ (Value.bool b).cells.toList, v.oneCell' = true := by
  intro v hv; simp only [cells_bool, List.mem_cons, List.not_mem_nil, or_false] at hv; subst hv; rfl
theorem one_s (b : ByteArray) : ∀ v ∈ (Value.string b).cells.toList, v.oneCell' = true := by
  intro v hv; simp only [cells_string, List.mem_cons, List.not_mem_nil, or_false] at hv; subst hv; rfl

theorem lock_ok {B : Nat → Prop} {a : Option Addr} {c : Nat} (cs : List Cell) (w : Wri) (l : Lck) (h : Heap) (S : SlC B h a cs) (hs : Sorted cs) (hn : cs.length < big) (F : ∀ c ∈ cs, c.vers.length ≤ big) {R : Value → Heap → Prop}
    (hR : ∀ a' n' c' h', OwnC h.size h' a' n' c' (lockL cs w l) → Ext h h' → R (.slice a' n' c') h') : CallsH Try.prog 40 [.slice a cs.length c, .agg (eWri w).toArray, .agg (eLck l).toArray] h R := by
  have hbig : big = 1000000 := rfl
  refine f40ok (by simp) ?_
  (try simp (disch := first | exact Nat.le_of_ble_eq_true rfl | omega) only [AXR, AXB, J.dst, reduceIte, Nat.reduceEqDiff, Nat.reduceAdd, Nat.reduceMul, Nat.reduceLT, Nat.reduceLeDiff]); rw [f40c0_eq]; (try simp (disch := first | exact Nat.le_of_ble_eq_true rfl | omega) only [AXR, AXB, J.dst, reduceIte, Nat.reduceEqDiff, Nat.reduceAdd, Nat.reduceMul, Nat.reduceLT, Nat.reduceLeDiff, f40r0, f40r1, f40r2, f40r3, f40r4, f40r5, f40r6, f40r7, f40r8, f40r9])
  refine wL_boxN rfl ?_; rintro b1 h1 e1 s1 hb1 (B1 : Blk _ _ _ (eWri w))
  refine wL_boxN rfl ?_; rintro b2 h2 e2 s2 hb2 (B2 : Blk _ _ _ (eLck l))
  have hl1 := B1.lt
  replace B1 := B1.ext e2
  have hne : b1 ≠ b2 := by omega
  (try simp (disch := first | exact Nat.le_of_ble_eq_true rfl | omega) only [AXR, AXB, J.dst, reduceIte, Nat.reduceEqDiff, Nat.reduceAdd, Nat.reduceMul, Nat.reduceLT, Nat.reduceLeDiff]); rw [f40c1_eq]; (try simp (disch := first | exact Nat.le_of_ble_eq_true rfl | omega) only [AXR, AXB, J.dst, reduceIte, Nat.reduceEqDiff, Nat.reduceAdd, Nat.reduceMul, Nat.reduceLT, Nat.reduceLeDiff, f40r0, f40r1, f40r2, f40r3, f40r4, f40r5, f40r6, f40r7, f40r8, f40r9])
  refine ⟨fun b => b < h2.size ∧ b ≠ b2, fun b hb => hb.1, ?_⟩
  simp (disch := first | exact Nat.le_of_ble_eq_true rfl | omega) only [AXR, AXB, J.dst, reduceIte, Nat.reduceEqDiff, Nat.reduceAdd, Nat.reduceMul, Nat.reduceLT, Nat.reduceLeDiff, f40r1, B1.cel, eWri]
  refine ⟨⟨by omega, hne⟩, ⟨by omega, hne⟩, ?_⟩
  refine wL_stD rfl rfl (fun h => h.2 rfl) rfl B2 (Nat.le_of_ble_eq_true rfl) (one_b _) ?_
  intro h3 u3 B3
  simp (disch := first | exact Nat.le_of_ble_eq_true rfl | omega) only [AXR, AXB, J.dst, reduceIte, Nat.reduceEqDiff, Nat.reduceAdd, Nat.reduceMul, Nat.reduceLT, Nat.reduceLeDiff]
  refine wL_stD rfl rfl (fun h => h.2 rfl) rfl B3 (Nat.le_of_ble_eq_true rfl) (one_s _) ?_
  rintro h4 u4 (B4 : Blk _ _ _ (eLck { l with drop := w.drop, data := w.data }))
  have B14 := u4.blk (u3.blk B1 hne) hne
  have e4 : Ext h h4 := u4.ext (u3.ext (e1.trans e2) (by omega)) (by omega)
  try simp (disch := first | exact Nat.le_of_ble_eq_true rfl | omega) only [AXR, AXB, J.dst, reduceIte, Nat.reduceEqDiff, Nat.reduceAdd, Nat.reduceMul, Nat.reduceLT, Nat.reduceLeDiff]
  have rest : ∀ (h5 : Heap) (τ : Env), Ext h h5 → b2 < h5.size → Blk h5 b1 70 (eWri w) → Blk h5 b2 72 (eLck (lkW w l)) → wC Try.prog f40c5 (endW [Rs.tmp 6] R) ((0, .slice a cs.length c) :: (4, ptr b1 0) :: (5, ptr b2 0) :: τ) h5 := by
    intro h5 τ e5 hb5 B1 B2
    (try simp (disch := first | exact Nat.le_of_ble_eq_true rfl | omega) only [AXR, AXB, J.dst, reduceIte, Nat.reduceEqDiff, Nat.reduceAdd, Nat.reduceMul, Nat.reduceLT, Nat.reduceLeDiff]); rw [f40c5_eq]; (try simp (disch := first | exact Nat.le_of_ble_eq_true rfl | omega) only [AXR, AXB, J.dst, reduceIte, Nat.reduceEqDiff, Nat.reduceAdd, Nat.reduceMul, Nat.reduceLT, Nat.reduceLeDiff, f40r0, f40r1, f40r2, f40r3, f40r4, f40r5, f40r6, f40r7, f40r8, f40r9])
    refine all_ok cs _ (S.ext e5) (by omega) F ?_
    intro a6 c6 h6 O6 e6
    try simp (disch := first | exact Nat.le_of_ble_eq_true rfl | omega) only [AXR, AXB, J.dst, reduceIte, Nat.reduceEqDiff, Nat.reduceAdd, Nat.reduceMul, Nat.reduceLT, Nat.reduceLeDiff]
    replace B1 := B1.ext e6
    replace B2 := B2.ext e6
    (try simp (disch := first | exact Nat.le_of_ble_eq_true rfl | omega) only [AXR, AXB, J.dst, reduceIte, Nat.reduceEqDiff, Nat.reduceAdd, Nat.reduceMul, Nat.reduceLT, Nat.reduceLeDiff]); rw [f40c6_eq]; (try simp (disch := first | exact Nat.le_of_ble_eq_true rfl | omega) only [AXR, AXB, J.dst, reduceIte, Nat.reduceEqDiff, Nat.reduceAdd, Nat.reduceMul, Nat.reduceLT, Nat.reduceLeDiff, f40r0, f40r1, f40r2, f40r3, f40r4, f40r5, f40r6, f40r7, f40r8, f40r9, B1.cel, eWri])
    refine find_ok cs w.key _ O6.slc hs (by unfold maxLen; omega) ?_
    intro h7 e7
    try simp (disch := first | exact Nat.le_of_ble_eq_true rfl | omega) only [AXR, AXB, J.dst, reduceIte, Nat.reduceEqDiff, Nat.reduceAdd, Nat.reduceMul, Nat.reduceLT, Nat.reduceLeDiff]
    replace B1 := B1.ext e7
    replace B2 := B2.ext e7
    have O7 := (O6.ext e7)
    have e57 := e5.trans (e6.trans e7)
    have hlb := lbK_le cs w.key
    -- the last part
    have fin : ∀ (h8 : Heap) (τ : Env) (a8 : Option Addr) (n8 c8 : Nat) (ds : List Cell) (x : Cell), Ext h h8 → OwnC h5.size h8 a8 n8 c8 ds → ds[lbK cs w.key]? = some x → Blk h8 b2 72 (eLck (lkW w l)) →
        ds.set (lbK cs w.key) { x with locked := true, lock := lkW w l } = lockL cs w l → wC Try.prog f40c10 (endW [Rs.tmp 6] R) ((5, ptr b2 0) :: (7, .slice a8 n8 c8) :: (8, vi (lbK cs w.key)) :: τ) h8 := by
      intro h8 τ a8 n8 c8 ds x e8 O8 hx B8 hres
      obtain ⟨vs, h1, h2, h3⟩ := O8
      have hxl := (List.getElem?_eq_some_iff.1 hx).1
      obtain ⟨v, hv, hcr⟩ := h3.get hx
      obtain ⟨hr1, hr2⟩ := h1.room
      obtain ⟨g, cur, rfl, hg, G, hcl, hct⟩ := h1.blk (by omega)
      have hgb : g ≠ b2 := by omega
      have hle : lbK cs w.key * 12 + 12 ≤ c8 * 12 := by omega
      rw [f40c10_eq]
      refine ⟨fun b => b < h8.size ∧ b ≠ g, fun b hb => hb.1, ?_⟩
      simp (disch := first | exact Nat.le_of_ble_eq_true rfl | omega) only [AXR, AXB, J.dst, reduceIte, Nat.reduceEqDiff, Nat.reduceAdd, Nat.reduceMul, Nat.reduceLT, Nat.reduceLeDiff, f40r8, B8.rd, eLck]
      refine ⟨⟨B8.lt, fun e => hgb e.symm⟩, by omega, by omega, ?_⟩
      refine wL_stD rfl rfl (fun h => h.2 rfl) rfl G (by rw [hcl]; omega) (one_b _) ?_
      intro h9 u9 B9
      simp (disch := first | exact Nat.le_of_ble_eq_true rfl | omega) only [AXR, AXB, J.dst, reduceIte, Nat.reduceEqDiff, Nat.reduceAdd, Nat.reduceMul, Nat.reduceLT, Nat.reduceLeDiff]
      refine ⟨by omega, by omega, ?_⟩
      refine wL_stD rfl rfl (fun h => h.2 rfl) rfl B9 (by rw [putL_length, hcl]; omega) (one_lck (lkW w l)) ?_
      intro h10 u10 B10
      try simp (disch := first | exact Nat.le_of_ble_eq_true rfl | omega) only [AXR, AXB, J.dst, reduceIte, Nat.reduceEqDiff, Nat.reduceAdd, Nat.reduceMul, Nat.reduceLT, Nat.reduceLeDiff]
      (try simp (disch := first | exact Nat.le_of_ble_eq_true rfl | omega) only [AXR, AXB, J.dst, reduceIte, Nat.reduceEqDiff, Nat.reduceAdd, Nat.reduceMul, Nat.reduceLT, Nat.reduceLeDiff]); rw [f40c11_eq]; (try simp (disch := first | exact Nat.le_of_ble_eq_true rfl | omega) only [AXR, AXB, J.dst, reduceIte, Nat.reduceEqDiff, Nat.reduceAdd, Nat.reduceMul, Nat.reduceLT, Nat.reduceLeDiff, f40r0, f40r1, f40r2, f40r3, f40r4, f40r5, f40r6, f40r7, f40r8, f40r9])
      have hu : Upd g h8 h10 := ⟨by rw [u10.size, u9.size], fun k hk => (u10.ne k hk).trans (u9.ne k hk)⟩
      have hgh : h.size ≤ g := Nat.le_trans e5.size hg
      refine hR _ _ _ _ ⟨vs.set (lbK cs w.key) { v with locked := true, lock := lkW w l }, ?_, ?_, ?_⟩ (hu.ext e8 hgh)
      · simp only [Nat.zero_add] at B9 B10
        have hvl : vs[lbK cs w.key]? = some v := hv
        have P1 := h1.put (h' := h9) eCV_len (by rw [h2, h3.length]) hvl rfl G (off := 2) (vals := [.bool true]) (v' := { v with locked := true }) (by exact B9) rfl (by simp)
        have P2 := P1.put (h' := h10) eCV_len (by rw [List.length_set, h2, h3.length]) (i := lbK cs w.key) (v := { v with locked := true }) (by rw [List.getElem?_set_self (by rw [h3.length]; exact hxl)]) rfl B9 (off := 3) (vals := eLck (lkW w l))
          (v' := { v with locked := true, lock := lkW w l }) (by exact B10) rfl (by simp [eLck])
        rw [List.set_set] at P2
        exact P2.mono e5.size
      · rw [← hres, List.length_set]; exact h2
      · rw [← hres]
        have hto : ∀ b, (h5.size ≤ b ∧ b < h8.size ∧ some b ≠ ob (some (⟨g, 0, none⟩ : Addr))) → (h.size ≤ b ∧ b < h10.size ∧ some b ≠ ob (some (⟨g, 0, none⟩ : Addr))) ∧ h10[b]? = h8[b]? := by
          rintro b ⟨b1, b2, b3⟩
          exact ⟨⟨Nat.le_trans e5.size b1, by rw [hu.size]; exact b2, b3⟩, hu.ne b (fun e => b3 (by rw [e]; rfl))⟩
        have r := hcr.to hto
        exact (h3.imp fun _ _ r => r.to hto).set ⟨r.key, rfl, rfl, r.vn, r.cap, r.vers⟩
    (try simp (disch := first | exact Nat.le_of_ble_eq_true rfl | omega) only [AXR, AXB, J.dst, reduceIte, Nat.reduceEqDiff, Nat.reduceAdd, Nat.reduceMul, Nat.reduceLT, Nat.reduceLeDiff]); rw [f40c7_eq]; (try simp (disch := first | exact Nat.le_of_ble_eq_true rfl | omega) only [AXR, AXB, J.dst, reduceIte, Nat.reduceEqDiff, Nat.reduceAdd, Nat.reduceMul, Nat.reduceLT, Nat.reduceLeDiff, f40r0, f40r1, f40r2, f40r3, f40r4, f40r5, f40r6, f40r7, f40r8, f40r9]); rw [f40c8_eq]; (try simp (disch := first | exact Nat.le_of_ble_eq_true rfl | omega) only [AXR, AXB, J.dst, reduceIte, Nat.reduceEqDiff, Nat.reduceAdd, Nat.reduceMul, Nat.reduceLT, Nat.reduceLeDiff, f40r0, f40r1, f40r2, f40r3, f40r4, f40r5, f40r6, f40r7, f40r8, f40r9])
    refine ⟨fun hh => ?_, fun hh => ?_⟩
    · have hno : hasK cs w.key = false := by simpa using hh
      (try simp (disch := first | exact Nat.le_of_ble_eq_true rfl | omega) only [AXR, AXB, J.dst, reduceIte, Nat.reduceEqDiff, Nat.reduceAdd, Nat.reduceMul, Nat.reduceLT, Nat.reduceLeDiff]); rw [f40c9_eq]; (try simp (disch := first | exact Nat.le_of_ble_eq_true rfl | omega) only [AXR, AXB, J.dst, reduceIte, Nat.reduceEqDiff, Nat.reduceAdd, Nat.reduceMul, Nat.reduceLT, Nat.reduceLeDiff, f40r0, f40r1, f40r2, f40r3, f40r4, f40r5, f40r6, f40r7, f40r8, f40r9, B1.cel, eWri])
      refine wL_bslN rfl ?_; rintro b8 h8 e8 s8 hb8 (B8 : Blk _ _ _ (eCV ⟨w.key, none, 0, 0, false, noLock⟩))
      try simp (disch := first | exact Nat.le_of_ble_eq_true rfl | omega) only [AXR, AXB, J.dst, reduceIte, Nat.reduceEqDiff, Nat.reduceAdd, Nat.reduceMul, Nat.reduceLT, Nat.reduceLeDiff]
      obtain ⟨vs, h1, h2, h3⟩ := O7.ext e8
      have hob := h1.ob
      have hob7 := O7.row
      have hz := e57.size
      have hz8 := e8.size
      have hz67 := (e6.trans e7).size
      have hfl := flatMap_length eCV_len vs
      refine insC_ok _ h1 (by omega) hlb (by omega) B8 rfl (one_flatMap eCV_one vs) (eCV_one _) (.inr (fun e => by have := hob7 b8 e.symm; omega)) (by unfold maxLen; omega) ?_
      intro a9 c9 h9 O9 G9 A9
      try simp (disch := first | exact Nat.le_of_ble_eq_true rfl | omega) only [AXR, AXB, J.dst, reduceIte, Nat.reduceEqDiff, Nat.reduceAdd, Nat.reduceMul, Nat.reduceLT, Nat.reduceLeDiff]
      rw [flatMap_take eCV_len, flatMap_drop eCV_len] at O9
      have e9 : Ext h h9 := G9.ext (e57.trans e8) (fun k hk => by have := hob k hk; have := e5.size; omega)
      have hb2 := B2.lt
      have B29 : Blk h9 b2 72 (eLck (lkW w l)) := G9.blk (B2.ext e8) (fun e => by have := hob b2 e.symm; omega)
      have hto := cellTo (lo := h5.size) G9 A9
      refine fin h9 _ a9 (cs.length + 1) c9 (cs.take (lbK cs w.key) ++ [⟨w.key, [], false, noLock⟩] ++ cs.drop (lbK cs w.key)) ⟨w.key, [], false, noLock⟩ e9 ⟨vs.take (lbK cs w.key) ++ [⟨w.key, none, 0, 0, false, noLock⟩] ++ vs.drop (lbK cs w.key), ?_, ?_, ?_⟩ ?_ B29 ?_
      · rw [List.flatMap_append, List.flatMap_append]; simpa using O9
      · simp; omega
      · have h3' := h3.imp fun _ _ r => r.to hto
        exact ((h3'.take _).append (.cons ⟨rfl, rfl, rfl, rfl, Nat.le_refl _, SlF.nil⟩ .nil)).append (h3'.drop _)
      · rw [List.append_assoc, List.getElem?_append_right (by simp; omega)]
        simp [Nat.min_eq_left hlb]
      · unfold lockL
        rw [if_neg (by simp [hno])]
        rw [List.append_assoc, List.set_append_right _ _ (by simp; omega)]
        simp [Nat.min_eq_left hlb]
    · have hyes : hasK cs w.key = true := by simpa using hh
      have hx : ∃ x, cs[lbK cs w.key]? = some x := by
        unfold hasK at hyes
        split at hyes
        · exact ⟨_, by assumption⟩
        · cases hyes
      obtain ⟨x, hx⟩ := hx
      refine fin h7 _ _ _ _ cs x e57 O7 hx B2 ?_
      unfold lockL
      rw [if_pos hyes, getD_of hx]
  (try simp (disch := first | exact Nat.le_of_ble_eq_true rfl | omega) only [AXR, AXB, J.dst, reduceIte, Nat.reduceEqDiff, Nat.reduceAdd, Nat.reduceMul, Nat.reduceLT, Nat.reduceLeDiff]); rw [f40c2_eq]; (try simp (disch := first | exact Nat.le_of_ble_eq_true rfl | omega) only [AXR, AXB, J.dst, reduceIte, Nat.reduceEqDiff, Nat.reduceAdd, Nat.reduceMul, Nat.reduceLT, Nat.reduceLeDiff, f40r0, f40r1, f40r2, f40r3, f40r4, f40r5, f40r6, f40r7, f40r8, f40r9, B14.cel, eWri]); rw [f40c3_eq]; (try simp (disch := first | exact Nat.le_of_ble_eq_true rfl | omega) only [AXR, AXB, J.dst, reduceIte, Nat.reduceEqDiff, Nat.reduceAdd, Nat.reduceMul, Nat.reduceLT, Nat.reduceLeDiff, f40r0, f40r1, f40r2, f40r3, f40r4, f40r5, f40r6, f40r7, f40r8, f40r9, B14.cel, eWri])
  refine ⟨fun hd => ?_, fun hd => ?_⟩
  · (try simp (disch := first | exact Nat.le_of_ble_eq_true rfl | omega) only [AXR, AXB, J.dst, reduceIte, Nat.reduceEqDiff, Nat.reduceAdd, Nat.reduceMul, Nat.reduceLT, Nat.reduceLeDiff]); rw [f40c4_eq]; (try simp (disch := first | exact Nat.le_of_ble_eq_true rfl | omega) only [AXR, AXB, J.dst, reduceIte, Nat.reduceEqDiff, Nat.reduceAdd, Nat.reduceMul, Nat.reduceLT, Nat.reduceLeDiff, f40r0, f40r1, f40r2, f40r3, f40r4, f40r5, f40r6, f40r7, f40r8, f40r9])
    refine wL_stN rfl rfl rfl B4 (Nat.le_of_ble_eq_true rfl) (one_s _) ?_
    rintro h5 u5 (B5 : Blk _ _ _ (eLck { l with drop := w.drop, data := noB }))
    try simp (disch := first | exact Nat.le_of_ble_eq_true rfl | omega) only [AXR, AXB, J.dst, reduceIte, Nat.reduceEqDiff, Nat.reduceAdd, Nat.reduceMul, Nat.reduceLT, Nat.reduceLeDiff]
    refine rest h5 _ (u5.ext e4 (by omega)) (B5.lt) (u5.blk B14 hne) ?_
    have : lkW w l = { l with drop := w.drop, data := noB } := by simp [lkW, hd]
    rw [this]; exact B5
  · refine rest h4 _ e4 B4.lt B14 ?_
    have : lkW w l = { l with drop := w.drop, data := w.data } := by simp [lkW, hd]
    rw [this]; exact B4
end Go.Proofs.Ytefghfgmkndikaa
