/-
  Walks: put.
-/
import Derived.Test.YtefghfgmkndikaaW8
set_option linter.unusedSimpArgs false
set_option linter.unusedVariables false
namespace Go.AX
open Go
deriving instance DecidableEq for Lck, Pai, Ver
theorem eqA_stampB (neg : Bool) (s t : Stamp) : eqA neg [.i .i64, .i .i64] (.agg #[vi s.wall, vi s.tie]) (.agg #[vi t.wall, vi t.tie]) = some (.bool (if neg then !decide (s = t) else decide (s = t))) := by
  obtain ⟨a, b⟩ := s
  obtain ⟨c, d⟩ := t
  have : (a == c && b == d) = decide ((⟨a, b⟩ : Stamp) = ⟨c, d⟩) := by
    rw [Bool.eq_iff_iff]; simp
  simp only [eqA, eqKds, eqKd, and_self, if_true, Option.bind_some, Option.map_some, Bool.and_true, this]
theorem eqA_tryB (neg : Bool) (s t : Try4) : eqA neg [.i .i64, .i .i64, .i .i64, .i .i64] (.agg #[vi s.node, vi s.life, vi s.seq, vi s.attempt]) (.agg #[vi t.node, vi t.life, vi t.seq, vi t.attempt]) = some (.bool (if neg then !decide (s = t) else decide (s = t))) := by
  obtain ⟨a, b, c, d⟩ := s
  obtain ⟨e, f, g, i⟩ := t
  have : (a == e && (b == f && (c == g && d == i))) = decide ((⟨a, b, c, d⟩ : Try4) = ⟨e, f, g, i⟩) := by
    rw [Bool.eq_iff_iff]; simp
  simp only [eqA, eqKds, eqKd, and_self, if_true, Option.bind_some, Option.map_some, Bool.and_true, this]

theorem eqA_stamp (s t : Stamp) : eqA false [.i .i64, .i .i64] (.agg #[vi s.wall, vi s.tie]) (.agg #[vi t.wall, vi t.tie]) = some (.bool (decide (s = t))) := eqA_stampB false s t
theorem eqA_stampN (s t : Stamp) : eqA true [.i .i64, .i .i64] (.agg #[vi s.wall, vi s.tie]) (.agg #[vi t.wall, vi t.tie]) = some (.bool (!decide (s = t))) := eqA_stampB true s t
theorem eqA_try (s t : Try4) : eqA false [.i .i64, .i .i64, .i .i64, .i .i64] (.agg #[vi s.node, vi s.life, vi s.seq, vi s.attempt]) (.agg #[vi t.node, vi t.life, vi t.seq, vi t.attempt]) = some (.bool (decide (s = t))) := eqA_tryB false s t
theorem eqA_tryN (s t : Try4) : eqA true [.i .i64, .i .i64, .i .i64, .i .i64] (.agg #[vi s.node, vi s.life, vi s.seq, vi s.attempt]) (.agg #[vi t.node, vi t.life, vi t.seq, vi t.attempt]) = some (.bool (!decide (s = t))) := eqA_tryB true s t

/-- A version in its place. -/
def putV (vs : List Ver) (v : Ver) : List Ver :=
  if 0 ≤ lastV vs v.at_ ∧ (vs.getD (lastV vs v.at_).toNat default).at_ = v.at_ then vs.set (lastV vs v.at_).toNat v
  else vs.take (lastV vs v.at_ + 1).toNat ++ [v] ++ vs.drop (lastV vs v.at_ + 1).toNat

theorem flatMap_take {α : Type} {e : α → List Value} {s : Nat} (he : ∀ x, (e x).length = s) : ∀ (ds : List α) (i : Nat), (ds.flatMap e).take (i * s) = (ds.take i).flatMap e
  | [], i => by simp
  | d :: ds, 0 => by simp
  | d :: ds, i + 1 => by
    have e1 : (i + 1) * s = (e d).length + i * s := by rw [he, Nat.add_mul]; omega
    simp only [List.flatMap_cons, List.take_succ_cons]
    rw [e1, List.take_length_add_append, flatMap_take he ds i]
theorem flatMap_drop {α : Type} {e : α → List Value} {s : Nat} (he : ∀ x, (e x).length = s) : ∀ (ds : List α) (i : Nat), (ds.flatMap e).drop (i * s) = (ds.drop i).flatMap e
  | [], i => by simp
  | d :: ds, 0 => by simp
  | d :: ds, i + 1 => by
    have e1 : (i + 1) * s = (e d).length + i * s := by rw [he, Nat.add_mul]; omega
    simp only [List.flatMap_cons, List.drop_succ_cons]
    rw [e1, List.drop_length_add_append, flatMap_drop he ds i]

theorem putL_take : ∀ (vs l : List Value) (o m : Nat), o + vs.length ≤ m → (putL l o vs).take m = putL (l.take m) o vs
  | [], _, _, _, _ => rfl
  | v :: vs, l, o, m, h => by
    simp only [List.length_cons] at h
    simp only [putL]
    rw [putL_take vs _ _ _ (by omega), List.take_set]
theorem putL_append_left : ∀ (vs l m : List Value) (o : Nat), o + vs.length ≤ l.length → putL (l ++ m) o vs = putL l o vs ++ m
  | [], _, _, _, _ => rfl
  | v :: vs, l, m, o, h => by
    simp only [List.length_cons] at h
    simp only [putL]
    rw [List.set_append_left _ _ (by omega), putL_append_left vs _ _ _ (by rw [List.length_set]; omega)]
theorem putL_append_right : ∀ (vs l m : List Value) (o : Nat), putL (l ++ m) (l.length + o) vs = l ++ putL m o vs
  | [], _, _, _ => rfl
  | v :: vs, l, m, o => by
    simp only [putL]
    rw [List.set_append_right _ _ (by omega), Nat.add_sub_cancel_left, Nat.add_assoc, putL_append_right vs]
theorem flat_put {α : Type} {e : α → List Value} {s : Nat} (he : ∀ x, (e x).length = s) {vals : List Value} {off : Nat} {v v' : α} (hv : e v' = putL (e v) off vals) (hs : off + vals.length ≤ s) :
    ∀ (ds : List α) (i : Nat), ds[i]? = some v → putL (ds.flatMap e) (i * s + off) vals = (ds.set i v').flatMap e
  | [], i, h => by simp at h
  | d :: ds, 0, h => by
    simp at h; subst h
    simp only [List.flatMap_cons, List.set_cons_zero, Nat.zero_mul, Nat.zero_add]
    rw [putL_append_left _ _ _ _ (by rw [he]; exact hs), hv]
  | d :: ds, i + 1, h => by
    have e1 : (i + 1) * s + off = (e d).length + (i * s + off) := by rw [he, Nat.add_mul]; omega
    simp only [List.flatMap_cons, List.set_cons_succ]
    rw [e1, putL_append_right, flat_put he hv hs ds i (by simpa using h)]
theorem putL_all : ∀ (vs l : List Value), l.length = vs.length → putL l 0 vs = vs := by
  have key : ∀ (vs l p : List Value), l.length = vs.length → putL (p ++ l) p.length vs = p ++ vs := by
    intro vs
    induction vs with
    | nil => intro l p h; have : l = [] := List.eq_nil_of_length_eq_zero h
             subst this; rfl
    | cons v vs ih =>
      intro l p h
      cases l with
      | nil => simp at h
      | cons x l =>
        simp only [putL]
        rw [List.set_append_right _ _ (Nat.le_refl _), Nat.sub_self, List.set_cons_zero]
        have := ih l (p ++ [v]) (by simpa using h)
        simpa using this
  intro vs l h
  simpa using key vs l [] h

/-- An element of an own row is written anew, wholly or in part. -/
theorem Own.put {α : Type} {e : α → List Value} {s t lo : Nat} (he : ∀ x, (e x).length = s) {h h' : Heap} {a : Option Addr} {n c b : Nat} {ds : List α} {vals cur : List Value} {off i : Nat} {v v' : α}
    (O : Own lo h t s a n c (ds.flatMap e)) (hn : n = ds.length) (hi : ds[i]? = some v) (ha : AX.ob a = some b) (hcur : Blk h b t cur) (B' : Blk h' b t (putL cur (i * s + off) vals)) (hv : e v' = putL (e v) off vals) (hs : off + vals.length ≤ s) :
    Own lo h' t s a n c ((ds.set i v').flatMap e) := by
  have hil : i < ds.length := (List.getElem?_eq_some_iff.1 hi).1
  obtain ⟨hr1, hr2⟩ := O.room
  obtain ⟨g, cur', rfl, hg, G, hcl, hct⟩ := O.blk (by omega)
  cases ha
  have : cur = cur' := by
    unfold Blk at hcur G
    rw [hcur] at G
    simpa using G
  subst this
  have hle : i * s + s ≤ n * s := by rw [← Nat.succ_mul]; exact Nat.mul_le_mul_right _ (by omega)
  refine Own.of_blk hg B' (by rw [putL_length]; exact hcl) hr1 hr2 ?_
  rw [putL_take _ _ _ _ (by omega), hct, flat_put he hv hs ds i hi]
end Go.AX
namespace Go.Proofs.Ytefghfgmkndikaa
open Go Go.AX

theorem put_ok {lo : Nat} {a : Option Addr} {n c : Nat} (vs : List Ver) (v : Ver) (h : Heap) (O : Own lo h 108 4 a n c (vs.flatMap eVer)) (hnl : n = vs.length) (hn : vs.length ≤ big) (hlo : lo ≤ h.size) {R : Value → Heap → Prop}
    (hR : ∀ a' n' c' h', Own lo h' 108 4 a' n' c' ((putV vs v).flatMap eVer) → n' = (putV vs v).length → Gr (ob a) h h' → (ob a' = ob a ∨ ∃ k, ob a' = some k ∧ h.size ≤ k) → R (.slice a' n' c') h') :
    CallsH Try.prog 85 [.slice a n c, .agg (eVer v).toArray] h R := by
  have hbig : big = 1000000 := rfl
  subst hnl
  refine f85ok (by simp) ?_
  (try simp (disch := first | exact Nat.le_of_ble_eq_true rfl | omega) only [AXR, AXB, J.dst, reduceIte, Nat.reduceEqDiff, Nat.reduceAdd, Nat.reduceMul, Nat.reduceLT, Nat.reduceLeDiff]); rw [f85c0_eq]; (try simp (disch := first | exact Nat.le_of_ble_eq_true rfl | omega) only [AXR, AXB, J.dst, reduceIte, Nat.reduceEqDiff, Nat.reduceAdd, Nat.reduceMul, Nat.reduceLT, Nat.reduceLeDiff, f85r0, f85r1, f85r2, f85r3, f85r4, f85r5])
  refine wL_boxN rfl ?_; rintro b1 h1 e1 s1 hb1 (B1 : Blk _ _ _ (eVer v))
  (try simp (disch := first | exact Nat.le_of_ble_eq_true rfl | omega) only [AXR, AXB, J.dst, reduceIte, Nat.reduceEqDiff, Nat.reduceAdd, Nat.reduceMul, Nat.reduceLT, Nat.reduceLeDiff]); rw [f85c1_eq]; (try simp (disch := first | exact Nat.le_of_ble_eq_true rfl | omega) only [AXR, AXB, J.dst, reduceIte, Nat.reduceEqDiff, Nat.reduceAdd, Nat.reduceMul, Nat.reduceLT, Nat.reduceLeDiff, f85r0, f85r1, f85r2, f85r3, f85r4, f85r5, B1.rd, eVer])
  have O1 := O.ext e1
  refine last_ok vs v.at_ _ (SlF.of_own O1 rfl) (by unfold maxLen; omega) ?_
  intro h2 e2
  have O2 := O1.ext e2
  have B2 := B1.ext e2
  have hlv := lastV_le vs v.at_
  have hob := O.ob
  have e12 := e1.trans e2
  have hins : ¬ (0 ≤ lastV vs v.at_ ∧ (vs.getD (lastV vs v.at_).toNat default).at_ = v.at_) →
      wC Try.prog f85c3 (endW [Rs.tmp 4] R) [(0, .slice a vs.length c), (3, ptr b1 0), (5, vi (lastV vs v.at_)), (21, .bool false)] h2 := by
    intro hno
    obtain ⟨i, hi⟩ : ∃ i : Nat, lastV vs v.at_ + 1 = i := ⟨(lastV vs v.at_ + 1).toNat, by omega⟩
    have hp : putV vs v = vs.take i ++ [v] ++ vs.drop i := by
      unfold putV; rw [if_neg hno, hi]; rfl
    (try simp (disch := first | exact Nat.le_of_ble_eq_true rfl | omega) only [AXR, AXB, J.dst, reduceIte, Nat.reduceEqDiff, Nat.reduceAdd, Nat.reduceMul, Nat.reduceLT, Nat.reduceLeDiff]); rw [f85c3_eq]; (try simp (disch := first | exact Nat.le_of_ble_eq_true rfl | omega) only [AXR, AXB, J.dst, reduceIte, Nat.reduceEqDiff, Nat.reduceAdd, Nat.reduceMul, Nat.reduceLT, Nat.reduceLeDiff, f85r0, f85r1, f85r2, f85r3, f85r4, f85r5, B2.rd, eVer]); rw [f85c6_eq]; (try simp (disch := first | exact Nat.le_of_ble_eq_true rfl | omega) only [AXR, AXB, J.dst, reduceIte, Nat.reduceEqDiff, Nat.reduceAdd, Nat.reduceMul, Nat.reduceLT, Nat.reduceLeDiff, f85r0, f85r1, f85r2, f85r3, f85r4, f85r5, B2.rd, eVer])
    rw [i64_wrap (by omega) (by omega), hi]
    refine wL_bslN rfl ?_; rintro b3 h3 e3 s3 hb3 (B3 : Blk _ _ _ (eVer v))
    simp (disch := first | exact Nat.le_of_ble_eq_true rfl | omega) only [AXR, AXB, J.dst, reduceIte, Nat.reduceEqDiff, Nat.reduceAdd, Nat.reduceMul, Nat.reduceLT, Nat.reduceLeDiff]
    have O3 := O2.ext e3
    have e13 := e12.trans e3
    have hz := e13.size
    refine insV_ok _ O3 (by omega) (by omega) (by omega) B3 rfl (one_flatMap eVer_one vs) (eVer_one v) (.inr (fun e => by have := hob b3 e.symm; have := e12.size; omega)) (by unfold maxLen; omega) ?_
    intro a' c' h' O' G' A'
    try simp (disch := first | exact Nat.le_of_ble_eq_true rfl | omega) only [AXR, AXB, J.dst, reduceIte, Nat.reduceEqDiff, Nat.reduceAdd, Nat.reduceMul, Nat.reduceLT, Nat.reduceLeDiff]
    rw [flatMap_take eVer_len, flatMap_drop eVer_len] at O'
    refine hR a' (vs.length + 1) c' h' ?_ ?_ ?_ ?_
    · rw [hp, List.flatMap_append, List.flatMap_append]; simpa using O'
    · rw [hp]; simp; omega
    · exact ((e13.gr _)).trans G'
    · rcases A' with e | ⟨k, e, hk⟩
      · exact .inl e
      · exact .inr ⟨k, e, by omega⟩
  rw [f85c2_eq]
  refine drw_lt ?_
  simp (disch := first | exact Nat.le_of_ble_eq_true rfl | omega) only [AXR, AXB, J.dst, reduceIte, Nat.reduceEqDiff, Nat.reduceAdd, Nat.reduceMul, Nat.reduceLT, Nat.reduceLeDiff, f85r2]
  by_cases hpos : 0 ≤ lastV vs v.at_
  · obtain ⟨k, hk⟩ : ∃ k : Nat, lastV vs v.at_ = k := ⟨(lastV vs v.at_).toNat, by omega⟩
    rw [hk] at hins hlv ⊢
    obtain ⟨u, hu⟩ := get_ex (show k < vs.length by omega)
    obtain ⟨b, o, ha, _, hrow⟩ := (SlF.of_own O2 rfl).elem eVer_len hu
    rw [decide_eq_true (by omega), br_true]
    simp (disch := first | exact Nat.le_of_ble_eq_true rfl | omega) only [AXR, AXB, J.dst, reduceIte, Nat.reduceEqDiff, Nat.reduceAdd, Nat.reduceMul, Nat.reduceLT, Nat.reduceLeDiff, ha, row_ver hrow, B2.rd, eVer, eStamp, eqA_stamp]
    refine ⟨by omega, by omega, hrow.lt (by rw [eVer_len]; omega), B2.lt, ?_⟩
    rw [ha] at hins
    by_cases heq : u.at_ = v.at_
    · rw [decide_eq_true heq]
      have hp : putV vs v = vs.set k v := by
        unfold putV; rw [hk, if_pos ⟨by omega, by rw [Int.toNat_natCast, getD_of hu]; exact heq⟩]; rfl
      obtain ⟨hr1, hr2⟩ := O2.room
      obtain ⟨g, cur, ha', hg, G, hcl, hct⟩ := O2.blk (by omega)
      rw [ha] at ha'
      cases ha'
      (try simp (disch := first | exact Nat.le_of_ble_eq_true rfl | omega) only [AXR, AXB, J.dst, reduceIte, Nat.reduceEqDiff, Nat.reduceAdd, Nat.reduceMul, Nat.reduceLT, Nat.reduceLeDiff]); rw [f85c3_eq]; (try simp (disch := first | exact Nat.le_of_ble_eq_true rfl | omega) only [AXR, AXB, J.dst, reduceIte, Nat.reduceEqDiff, Nat.reduceAdd, Nat.reduceMul, Nat.reduceLT, Nat.reduceLeDiff, f85r0, f85r1, f85r2, f85r3, f85r4, f85r5, br_true])
      (try simp (disch := first | exact Nat.le_of_ble_eq_true rfl | omega) only [AXR, AXB, J.dst, reduceIte, Nat.reduceEqDiff, Nat.reduceAdd, Nat.reduceMul, Nat.reduceLT, Nat.reduceLeDiff]); rw [f85c4_eq]; (try simp (disch := first | exact Nat.le_of_ble_eq_true rfl | omega) only [AXR, AXB, J.dst, reduceIte, Nat.reduceEqDiff, Nat.reduceAdd, Nat.reduceMul, Nat.reduceLT, Nat.reduceLeDiff, f85r0, f85r1, f85r2, f85r3, f85r4, f85r5, B2.rd, eVer])
      refine ⟨by omega, by omega, ?_⟩
      refine wL_stN rfl rfl rfl G (by rw [hcl]; omega) (eVer_one v) ?_
      intro h3 u3 B3
      try simp (disch := first | exact Nat.le_of_ble_eq_true rfl | omega) only [AXR, AXB, J.dst, reduceIte, Nat.reduceEqDiff, Nat.reduceAdd, Nat.reduceMul, Nat.reduceLT, Nat.reduceLeDiff]
      (try simp (disch := first | exact Nat.le_of_ble_eq_true rfl | omega) only [AXR, AXB, J.dst, reduceIte, Nat.reduceEqDiff, Nat.reduceAdd, Nat.reduceMul, Nat.reduceLT, Nat.reduceLeDiff]); rw [f85c5_eq]; (try simp (disch := first | exact Nat.le_of_ble_eq_true rfl | omega) only [AXR, AXB, J.dst, reduceIte, Nat.reduceEqDiff, Nat.reduceAdd, Nat.reduceMul, Nat.reduceLT, Nat.reduceLeDiff, f85r0, f85r1, f85r2, f85r3, f85r4, f85r5])
      refine hR (some ⟨b, 0, none⟩) vs.length c h3 ?_ (by rw [hp]; simp) ((e12.gr _).trans ?_) (.inl (by rw [ha]))
      · rw [hp, ← ha]
        exact O2.put eVer_len (off := 0) (vals := eVer v) rfl hu (by rw [ha]; rfl) G (by rw [Nat.zero_add] at B3; exact B3) (putL_all _ _ rfl).symm (by rw [eVer_len]; omega)
      · rw [ha]; exact u3.gr
    · rw [decide_eq_false heq]
      exact hins (fun h => heq (by have := h.2; rwa [Int.toNat_natCast, getD_of hu] at this))
  · rw [decide_eq_false (by omega), br_false]
    exact hins (fun h => hpos h.1)
end Go.Proofs.Ytefghfgmkndikaa
