/-
  Walks: a key's lock, the cells of a span, a scan.
-/
import Derived.Test.YtefghfgmkndikaaLG
import Derived.Test.YtefghfgmkndikaaGH
set_option linter.unusedSimpArgs false
set_option linter.unusedVariables false
namespace Go.AX
open Go
theorem slc_lh' {sz n c l u : Nat} {a : Option Addr} {K : Value → Prop} (h1 : l ≤ u) (h2 : u ≤ c) (H : ∀ a', (l < c → a' = a.map (·.add (l * sz))) → K (.slice a' (u - l) (c - l))) : slcV sz (.slice a n c) (some (vi l)) (some (vi u)) none K := by
  simp only [slcV, asI_int, bd_some, Int.toNat_natCast]
  refine ⟨by omega, by omega, by omega, by omega, H _ ?_⟩
  intro hl
  rw [if_neg (by omega)]
/-- A part of a slice. -/
theorem SlF.sub {α : Type} {e : α → List Value} {s : Nat} (he : ∀ x, (e x).length = s) {B : Nat → Prop} {h : Heap} {a a' : Option Addr} {ds : List α} (S : SlF B h e a ds) {l m c : Nat} (hc : ds.length ≤ c) (ha : l < c → a' = a.map (·.add (l * s))) : SlF B h e a' ((ds.drop l).take m) := by
  intro hne
  have hlt : l < ds.length := by
    rcases Nat.lt_or_ge l ds.length with h | h
    · exact h
    · rw [List.drop_of_length_le h] at hne; simp at hne
  obtain ⟨b, o, rfl, hb, hrow⟩ := S (by rintro rfl; simp at hlt)
  refine ⟨b, o + l * s, by rw [ha (by omega), Option.map_some, add_mk], hb, ?_⟩
  have := hrow.sub (l * s) (m * s)
  rw [flatMap_drop he, flatMap_take he] at this
  exact this
theorem SlC.sub {B : Nat → Prop} {h : Heap} {a a' : Option Addr} {cs : List Cell} (S : SlC B h a cs) {l m c : Nat} (hc : cs.length ≤ c) (ha : l < c → a' = a.map (·.add (l * 12))) : SlC B h a' ((cs.drop l).take m) := by
  obtain ⟨vs, h1, h2⟩ := S
  exact ⟨(vs.drop l).take m, (h1.drop l).take m, h2.sub eCV_len (by rw [h1.length]; exact hc) ha⟩
end Go.AX
namespace Go.Proofs.Ytefghfgmkndikaa
open Go Go.AX

theorem hasK_cell {cs : List Cell} (hs : Sorted cs) (key : ByteArray) : (hasK cs key = true → cs[lbK cs key]? = cellK cs key ∧ (cellK cs key).isSome = true) ∧ (hasK cs key = false → cellK cs key = none) := by
  have := at_lb key hs
  rw [← this]
  unfold hasK
  cases cs[lbK cs key]? with
  | none => simp
  | some c => by_cases h : c.key = key <;> simp [h]

theorem noLck_eq : (.agg #[.int .i64 0, .int .i64 0, .int .i64 0, .int .i64 0, .int .i64 0, .int .i64 0, .int .i64 0, .bool false, .string ⟨#[]⟩] : Value) = .agg (eLck noLock).toArray := rfl

theorem take9 (l : Lck) : List.take 9 (eLck l) = eLck l := rfl
section
variable {B : Nat → Prop} {a : Option Addr} {c n : Nat} {cs : List Cell} {h : Heap} {R : Value → Heap → Prop}
theorem heldG (g : Gd n cs) (hn : n ≤ 900000) (S : SlC B h a cs) (key : ByteArray) (hR : ∀ h', Ext h h' → R (.tuple #[.agg (eLck (heldK cs key).1).toArray, .bool (heldK cs key).2]) h') : CallsH Try.prog 44 [.slice a cs.length c, .string key] h R := by
  obtain ⟨z1, z2, z3, z4, z5, z6⟩ := szAll g.sz hn
  refine f44ok (by simp) ?_
  (try simp (config := { maxSteps := 1000000 }) (disch := first | exact Nat.le_of_ble_eq_true rfl | omega) only [AXS, AXB, J.dst, reduceIte, Nat.reduceEqDiff, Nat.reduceAdd, Nat.reduceMul, Nat.reduceLT, Nat.reduceLeDiff]); rw [f44c0_eq]; (try simp (config := { maxSteps := 1000000 }) (disch := first | exact Nat.le_of_ble_eq_true rfl | omega) only [AXS, AXB, J.dst, reduceIte, Nat.reduceEqDiff, Nat.reduceAdd, Nat.reduceMul, Nat.reduceLT, Nat.reduceLeDiff, f44r0, f44r1, f44r2, f44r3, f44r4])
  refine wL_newN ?_; rintro b1 h1 e1 s1 hb1 B1
  (try simp (config := { maxSteps := 1000000 }) (disch := first | exact Nat.le_of_ble_eq_true rfl | omega) only [AXS, AXB, J.dst, reduceIte, Nat.reduceEqDiff, Nat.reduceAdd, Nat.reduceMul, Nat.reduceLT, Nat.reduceLeDiff]); rw [f44c1_eq]; (try simp (config := { maxSteps := 1000000 }) (disch := first | exact Nat.le_of_ble_eq_true rfl | omega) only [AXS, AXB, J.dst, reduceIte, Nat.reduceEqDiff, Nat.reduceAdd, Nat.reduceMul, Nat.reduceLT, Nat.reduceLeDiff, f44r0, f44r1, f44r2, f44r3, f44r4])
  refine find_ok cs key _ (S.ext e1) g.good.sorted z3 ?_
  intro h2 e2
  refine ⟨trivial, ?_⟩
  replace B1 := B1.ext e2
  have e02 := e1.trans e2
  obtain ⟨hk1, hk2⟩ := hasK_cell g.good.sorted key
  have fin0 : heldK cs key = (noLock, false) → ∀ τ, AX.look τ 4 = some (ptr b1 0) → wC Try.prog f44c4 (endW [Rs.cell 4 9, Rs.tmp 5] R) τ h2 := by
    intro hk τ l4
    rw [f44c4_eq]
    simp (config := { maxSteps := 1000000 }) (disch := first | exact Nat.le_of_ble_eq_true rfl | omega) only [AXS, AXB, J.dst, reduceIte, Nat.reduceEqDiff, Nat.reduceAdd, Nat.reduceMul, Nat.reduceLT, Nat.reduceLeDiff, f44r3, l4]
    refine wL_stN (o := 0) (by exact l4) rfl rfl B1 (by decide) (one_lck noLock) ?_; rintro h3 u3 (B3 : Blk _ _ _ (eLck noLock))
    simp (config := { maxSteps := 1000000 }) (disch := first | exact Nat.le_of_ble_eq_true rfl | omega) only [AXS, AXB, J.dst, reduceIte, Nat.reduceEqDiff, Nat.reduceAdd, Nat.reduceMul, Nat.reduceLT, Nat.reduceLeDiff, B3.rd, l4]
    have := hR _ (u3.ext e02 (by omega))
    rw [hk] at this
    exact this
  try simp (config := { maxSteps := 1000000 }) (disch := first | exact Nat.le_of_ble_eq_true rfl | omega) only [AXS, AXB, J.dst, reduceIte, Nat.reduceEqDiff, Nat.reduceAdd, Nat.reduceMul, Nat.reduceLT, Nat.reduceLeDiff]
  cases hh : hasK cs key with
  | false =>
    have hc := hk2 hh
    rw [f44c2_eq]
    simp (config := { maxSteps := 1000000 }) (disch := first | exact Nat.le_of_ble_eq_true rfl | omega) only [AXJ, AXS, AXB, J.dst, reduceIte, Nat.reduceEqDiff, Nat.reduceAdd, Nat.reduceMul, Nat.reduceLT, Nat.reduceLeDiff, f44r2]
    rw [f44c3_eq]
    simp (config := { maxSteps := 1000000 }) (disch := first | exact Nat.le_of_ble_eq_true rfl | omega) only [AXS, AXB, J.dst, reduceIte, Nat.reduceEqDiff, Nat.reduceAdd, Nat.reduceMul, Nat.reduceLT, Nat.reduceLeDiff]
    exact fin0 (by unfold heldK; rw [hc]) _ rfl
  | true =>
    obtain ⟨hc1, hc2⟩ := hk1 hh
    obtain ⟨x, hx⟩ := Option.isSome_iff_exists.1 hc2
    rw [hx] at hc1
    have hlt := (List.getElem?_eq_some_iff.1 hc1).1
    obtain ⟨b, o, v, rfl, _, hrow, hcr⟩ := (S.ext e02).elem hc1
    rw [f44c2_eq]
    have hlk := hcr.locked
    simp (config := { maxSteps := 1000000 }) (disch := first | exact Nat.le_of_ble_eq_true rfl | omega) only [AXJ, AXS, AXB, J.dst, reduceIte, Nat.reduceEqDiff, Nat.reduceAdd, Nat.reduceMul, Nat.reduceLT, Nat.reduceLeDiff, f44r2, row_cv hrow, hlk]
    refine ⟨fun _ => by omega, fun _ => by omega, ?_⟩
    rw [f44c3_eq]
    simp (config := { maxSteps := 1000000 }) (disch := first | exact Nat.le_of_ble_eq_true rfl | omega) only [AXS, AXB, J.dst, reduceIte, Nat.reduceEqDiff, Nat.reduceAdd, Nat.reduceMul, Nat.reduceLT, Nat.reduceLeDiff]
    refine ⟨fun h3 => ?_, fun h3 => ?_⟩
    · have hl : x.locked = false := by simpa using h3
      exact fin0 (by unfold heldK; rw [hx]; simp [hl]) _ rfl
    · have hl : x.locked = true := by simpa using h3
      (try simp (config := { maxSteps := 1000000 }) (disch := first | exact Nat.le_of_ble_eq_true rfl | omega) only [AXS, AXB, J.dst, reduceIte, Nat.reduceEqDiff, Nat.reduceAdd, Nat.reduceMul, Nat.reduceLT, Nat.reduceLeDiff]); rw [f44c5_eq]; (try simp (config := { maxSteps := 1000000 }) (disch := first | exact Nat.le_of_ble_eq_true rfl | omega) only [AXS, AXB, J.dst, reduceIte, Nat.reduceEqDiff, Nat.reduceAdd, Nat.reduceMul, Nat.reduceLT, Nat.reduceLeDiff, f44r0, f44r1, f44r2, f44r3, f44r4, row_cv hrow])
      refine ⟨by omega, by omega, ?_⟩
      refine wL_stN rfl rfl rfl B1 (by decide) (one_lck v.lock) ?_; rintro h3 u3 (B3 : Blk _ _ _ (eLck v.lock))
      simp (config := { maxSteps := 1000000 }) (disch := first | exact Nat.le_of_ble_eq_true rfl | omega) only [AXS, AXB, J.dst, reduceIte, Nat.reduceEqDiff, Nat.reduceAdd, Nat.reduceMul, Nat.reduceLT, Nat.reduceLeDiff, B3.rd]
      have := hR _ (u3.ext e02 (by omega))
      have hk : heldK cs key = (v.lock, true) := by unfold heldK; rw [hx, hcr.lock]; simp [hl]
      rw [hk] at this
      exact this

/-- The cells of a span. -/
def withinL (cs : List Cell) (s : Spn) : List Cell := if !klt s.lo s.hi then [] else (cs.drop (lbK cs s.lo)).take (max (lbK cs s.hi) (lbK cs s.lo) - lbK cs s.lo)

theorem withinG (g : Gd n cs) (hn : n ≤ 900000) (S : SlC B h a cs) (hc : cs.length ≤ c) (s : Spn) (hR : ∀ a' c' h', SlC B h' a' (withinL cs s) → (withinL cs s).length ≤ c' → Ext h h' → R (.slice a' (withinL cs s).length c') h') :
    CallsH Try.prog 92 [.slice a cs.length c, .agg (eSpn s).toArray] h R := by
  obtain ⟨z1, z2, z3, z4, z5, z6⟩ := szAll g.sz hn
  refine f92ok (by simp) ?_
  (try simp (config := { maxSteps := 1000000 }) (disch := first | exact Nat.le_of_ble_eq_true rfl | omega) only [AXS, AXB, J.dst, reduceIte, Nat.reduceEqDiff, Nat.reduceAdd, Nat.reduceMul, Nat.reduceLT, Nat.reduceLeDiff]); rw [f92c0_eq]; (try simp (config := { maxSteps := 1000000 }) (disch := first | exact Nat.le_of_ble_eq_true rfl | omega) only [AXS, AXB, J.dst, reduceIte, Nat.reduceEqDiff, Nat.reduceAdd, Nat.reduceMul, Nat.reduceLT, Nat.reduceLeDiff, f92r0, f92r1, f92r2, f92r3, f92r4, f92r5])
  refine wL_boxN rfl ?_; rintro b1 h1 e1 s1 hb1 (B1 : Blk _ _ _ (eSpn s))
  (try simp (config := { maxSteps := 1000000 }) (disch := first | exact Nat.le_of_ble_eq_true rfl | omega) only [AXS, AXB, J.dst, reduceIte, Nat.reduceEqDiff, Nat.reduceAdd, Nat.reduceMul, Nat.reduceLT, Nat.reduceLeDiff]); rw [f92c1_eq]; (try simp (config := { maxSteps := 1000000 }) (disch := first | exact Nat.le_of_ble_eq_true rfl | omega) only [AXS, AXB, J.dst, reduceIte, Nat.reduceEqDiff, Nat.reduceAdd, Nat.reduceMul, Nat.reduceLT, Nat.reduceLeDiff, f92r0, f92r1, f92r2, f92r3, f92r4, f92r5, B1.cel, eSpn]); rw [f92c2_eq]; (try simp (config := { maxSteps := 1000000 }) (disch := first | exact Nat.le_of_ble_eq_true rfl | omega) only [AXS, AXB, J.dst, reduceIte, Nat.reduceEqDiff, Nat.reduceAdd, Nat.reduceMul, Nat.reduceLT, Nat.reduceLeDiff, f92r0, f92r1, f92r2, f92r3, f92r4, f92r5, B1.cel, eSpn])
  have hkle : (Op.bytesLess s.hi.toList s.lo.toList || s.hi.toList == s.lo.toList) = !klt s.lo s.hi := by
    rw [keq_iff]; exact kle_iff s.hi s.lo
  rw [hkle]
  refine ⟨fun hh => ?_, fun hh => ?_⟩
  · have hw : withinL cs s = [] := by unfold withinL; rw [if_pos hh]
    (try simp (config := { maxSteps := 1000000 }) (disch := first | exact Nat.le_of_ble_eq_true rfl | omega) only [AXS, AXB, J.dst, reduceIte, Nat.reduceEqDiff, Nat.reduceAdd, Nat.reduceMul, Nat.reduceLT, Nat.reduceLeDiff]); rw [f92c3_eq]; (try simp (config := { maxSteps := 1000000 }) (disch := first | exact Nat.le_of_ble_eq_true rfl | omega) only [AXS, AXB, J.dst, reduceIte, Nat.reduceEqDiff, Nat.reduceAdd, Nat.reduceMul, Nat.reduceLT, Nat.reduceLeDiff, f92r0, f92r1, f92r2, f92r3, f92r4, f92r5])
    have := hR none 0 h1 (by rw [hw]; exact SlC.nil) (by rw [hw]; simp) e1
    rw [hw] at this
    exact this
  · have hw : withinL cs s = (cs.drop (lbK cs s.lo)).take (max (lbK cs s.hi) (lbK cs s.lo) - lbK cs s.lo) := by unfold withinL; rw [if_neg (by rw [hh]; simp)]
    (try simp (config := { maxSteps := 1000000 }) (disch := first | exact Nat.le_of_ble_eq_true rfl | omega) only [AXS, AXB, J.dst, reduceIte, Nat.reduceEqDiff, Nat.reduceAdd, Nat.reduceMul, Nat.reduceLT, Nat.reduceLeDiff]); rw [f92c4_eq]; (try simp (config := { maxSteps := 1000000 }) (disch := first | exact Nat.le_of_ble_eq_true rfl | omega) only [AXS, AXB, J.dst, reduceIte, Nat.reduceEqDiff, Nat.reduceAdd, Nat.reduceMul, Nat.reduceLT, Nat.reduceLeDiff, f92r0, f92r1, f92r2, f92r3, f92r4, f92r5, B1.cel, eSpn])
    refine find_ok cs s.lo _ (S.ext e1) g.good.sorted z3 ?_
    intro h2 e2
    refine ⟨trivial, ?_⟩
    replace B1 := B1.ext e2
    (try simp (config := { maxSteps := 1000000 }) (disch := first | exact Nat.le_of_ble_eq_true rfl | omega) only [AXS, AXB, J.dst, reduceIte, Nat.reduceEqDiff, Nat.reduceAdd, Nat.reduceMul, Nat.reduceLT, Nat.reduceLeDiff]); rw [f92c5_eq]; (try simp (config := { maxSteps := 1000000 }) (disch := first | exact Nat.le_of_ble_eq_true rfl | omega) only [AXS, AXB, J.dst, reduceIte, Nat.reduceEqDiff, Nat.reduceAdd, Nat.reduceMul, Nat.reduceLT, Nat.reduceLeDiff, f92r0, f92r1, f92r2, f92r3, f92r4, f92r5, B1.cel, eSpn])
    refine find_ok cs s.hi _ (S.ext (e1.trans e2)) g.good.sorted z3 ?_
    intro h3 e3
    refine ⟨trivial, ?_⟩
    have e03 := e1.trans (e2.trans e3)
    have l1 := lbK_le cs s.lo
    have l2 := lbK_le cs s.hi
    have hmx : (if (lbK cs s.lo : Int) > lbK cs s.hi then (lbK cs s.lo : Int) else lbK cs s.hi) = ((max (lbK cs s.hi) (lbK cs s.lo) : Nat) : Int) := by
      split <;> omega
    (try simp (config := { maxSteps := 1000000 }) (disch := first | exact Nat.le_of_ble_eq_true rfl | omega) only [AXS, AXB, J.dst, reduceIte, Nat.reduceEqDiff, Nat.reduceAdd, Nat.reduceMul, Nat.reduceLT, Nat.reduceLeDiff]); rw [f92c6_eq]; (try simp (config := { maxSteps := 1000000 }) (disch := first | exact Nat.le_of_ble_eq_true rfl | omega) only [AXS, AXB, J.dst, reduceIte, Nat.reduceEqDiff, Nat.reduceAdd, Nat.reduceMul, Nat.reduceLT, Nat.reduceLeDiff, f92r0, f92r1, f92r2, f92r3, f92r4, f92r5, hmx])
    refine slc_lh' (by omega) (by omega) ?_
    intro a' ha'
    simp (config := { maxSteps := 1000000 }) (disch := first | exact Nat.le_of_ble_eq_true rfl | omega) only [AXS, AXB, J.dst, reduceIte, Nat.reduceEqDiff, Nat.reduceAdd, Nat.reduceMul, Nat.reduceLT, Nat.reduceLeDiff]
    have hl : (withinL cs s).length = max (lbK cs s.hi) (lbK cs s.lo) - lbK cs s.lo := by
      rw [hw, List.length_take, List.length_drop]; omega
    have := hR a' (c - lbK cs s.lo) h3 (by rw [hw]; exact (S.ext e03).sub hc ha') (by rw [hl]; omega) e03
    rw [hl] at this
    exact this
end
end Go.Proofs.Ytefghfgmkndikaa
