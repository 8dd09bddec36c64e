/-
  Walks: strings' order, the search.
-/
import Derived.Test.YtefghfgmkndikaaW2
set_option linter.unusedSimpArgs false
set_option linter.unusedVariables false
namespace Go.AX
open Go
theorem raw_shr {P : Program} {o : Oper} {σ : Env} {h : Heap} {K : Value → Heap → Prop} {t yt : TypeId} {x y : Operand} {k yk : IntKind} {a b : Int} (ho : o.op = .binOp .shr t x y yt)
    (hx : evO σ x = some (.int k a)) (hy : evO σ y = some (.int yk b)) (h0 : 0 ≤ b) (h1 : b ≤ k.bits) (hK : K (.int k (a / 2 ^ b.toNat)) h) : RawW P o σ h K := by
  refine ⟨?_, ?_, ?_⟩
  · rw [ho]; intro u hu
    simp only [Op.operands, List.mem_toArray, List.mem_cons, List.not_mem_nil, or_false] at hu
    rcases hu with rfl | rfl
    · rw [hx]; rfl
    · rw [hy]; rfl
  · rw [ho]; intro cs b hh; cases hh
  · intro w hw
    refine ⟨.value (.int k (a / 2 ^ b.toNat)), _, w, ?_, rfl, Same.refl w, by rw [hw]; exact hK⟩
    simp [execOp, ho, hx, hy, eqGuard, binOp, shift_shr k yk a b h0 h1]
end Go.AX
namespace Go.Proofs.Ytefghfgmkndikaa
open Go Go.AX

theorem cmpStr_ok (a b : ByteArray) (h : Heap) {R : Value → Heap → Prop} (hR : R (vi (kcmp a b)) h) : CallsH Try.prog 139 [.string a, .string b] h R := by
  refine f139ok (by simp) ?_
  simp (disch := first | exact Nat.le_of_ble_eq_true rfl | omega) only [AXR, AXB, J.dst, reduceIte, Nat.reduceEqDiff, Nat.reduceAdd, Nat.reduceMul, Nat.reduceLT, Nat.reduceLeDiff, f139r0, f139r1, f139c1_eq, f139c0_eq]
  rw [wL_raw]
  refine raw_ext (f := 153) (e := Extern.BytealgCompare.compare) (vs := [.string a, .string b]) (v := vi (kcmp a b)) rfl Try.func153 (by kernel_rfl) (by kernel_rfl) (by kernel_rfl) (by kernel_rfl) (by rfl) (fun w _ => ?_) ?_
  · have := Lib.run_compareString (P := Try.prog) a b w
    rw [← ByteArray.toList_eq, ← ByteArray.toList_eq, cmp_kcmp] at this
    exact this
  refine ⟨trivial, ?_⟩
  simp (disch := first | exact Nat.le_of_ble_eq_true rfl | omega) only [AXR, AXB, J.dst, reduceIte, Nat.reduceEqDiff, Nat.reduceAdd, Nat.reduceMul, Nat.reduceLT, Nat.reduceLeDiff, f139r0, f139r1, f139c1_eq, f139c0_eq]
  exact hR

theorem strCmp_ok (a b : ByteArray) (h : Heap) {R : Value → Heap → Prop} (hR : R (vi (kcmp a b)) h) : CallsH Try.prog 118 [.string a, .string b] h R := by
  refine f118ok (by simp) ?_
  simp (disch := first | exact Nat.le_of_ble_eq_true rfl | omega) only [AXR, AXB, J.dst, reduceIte, Nat.reduceEqDiff, Nat.reduceAdd, Nat.reduceMul, Nat.reduceLT, Nat.reduceLeDiff, f118r0, f118r1, f118c1_eq, f118c0_eq]
  refine cmpStr_ok a b h ?_
  exact hR

theorem key_ok (x : CV) (key : ByteArray) (h : Heap) {R : Value → Heap → Prop} (hR : ∀ h', Ext h h' → R (vi (kcmp x.key key)) h') : CallsH Try.prog 117 [.agg (eCV x).toArray, .string key] h R := by
  refine f117ok (by simp) ?_
  simp (disch := first | exact Nat.le_of_ble_eq_true rfl | omega) only [AXR, AXB, J.dst, reduceIte, Nat.reduceEqDiff, Nat.reduceAdd, Nat.reduceMul, Nat.reduceLT, Nat.reduceLeDiff, f117r0, f117r1, f117c1_eq, f117c0_eq]
  refine wL_boxN rfl ?_; rintro b1 h1 e1 s1 hb1 (B1 : Blk _ _ _ (eCV x))
  simp (disch := first | exact Nat.le_of_ble_eq_true rfl | omega) only [AXR, AXB, J.dst, reduceIte, Nat.reduceEqDiff, Nat.reduceAdd, Nat.reduceMul, Nat.reduceLT, Nat.reduceLeDiff, f117r0, f117r1, f117c1_eq, f117c0_eq, B1.cel, eCV]
  refine strCmp_ok _ _ _ ?_
  exact hR _ e1

/-- Where the keys rise: what is ahead of one that is ahead is ahead. -/
theorem sorted_get {cs : List Cell} (S : Sorted cs) {p q : Nat} {c d : Cell} (hp : cs[p]? = some c) (hq : cs[q]? = some d) (hpq : p < q) : klt c.key d.key = true := by
  obtain ⟨h1, rfl⟩ := List.getElem?_eq_some_iff.1 hp
  obtain ⟨h2, rfl⟩ := List.getElem?_eq_some_iff.1 hq
  exact List.pairwise_iff_getElem.1 S p q h1 h2 hpq
theorem sorted_lt_key {cs : List Cell} (S : Sorted cs) {p q : Nat} {c d : Cell} {key : ByteArray} (hp : cs[p]? = some c) (hq : cs[q]? = some d) (hpq : p ≤ q) (hd : klt d.key key = true) : klt c.key key = true := by
  rcases Nat.lt_or_ge p q with h | h
  · exact klt_trans (sorted_get S hp hq h) hd
  · have : p = q := by omega
    subst this; rw [hp] at hq; cases hq; exact hd
theorem lbK_eq (key : ByteArray) : ∀ (cs : List Cell) (i : Nat), i ≤ cs.length → (∀ p c, p < i → cs[p]? = some c → klt c.key key = true) → (∀ c, cs[i]? = some c → klt c.key key = false) → lbK cs key = i
  | [], i, h, _, _ => by have : i = 0 := by simpa using h
                         subst this; rfl
  | c :: cs, 0, _, _, h => by
    have := h c rfl
    simp [lbK, List.takeWhile, this]
  | c :: cs, i + 1, hl, h, h' => by
    have h0 := h 0 c (by omega) rfl
    have := lbK_eq key cs i (by simpa using hl) (fun p d hp hd => h (p + 1) d (by omega) (by simpa using hd)) (fun d hd => h' d (by simpa using hd))
    unfold lbK at this ⊢
    simp [List.takeWhile, h0, this]
theorem lbK_le (cs : List Cell) (key : ByteArray) : lbK cs key ≤ cs.length := by unfold lbK; exact List.Sublist.length_le (List.takeWhile_sublist _)
theorem kcmp_lt (a b : ByteArray) : kcmp a b < 0 ↔ klt a b = true := by
  unfold kcmp; split
  · simp_all
  · split <;> simp_all
theorem kcmp_eq (a b : ByteArray) : kcmp a b = 0 ↔ a = b := by
  unfold kcmp
  rcases klt_total a b with h | h | h
  · simp [h, klt_ne h]
  · subst h; simp [klt_irrefl]
  · simp [h, klt_asymm h, (klt_ne h).symm]

theorem search_ok {B : Nat → Prop} {a : Option Addr} {cap : Nat} (cs : List Cell) (key : ByteArray) (h : Heap) (S : SlC B h a cs) (hs : Sorted cs) (hn : cs.length ≤ maxLen) {R : Value → Heap → Prop}
    (hR : ∀ h', Ext h h' → R (.tuple #[vi (lbK cs key), .bool (hasK cs key)]) h') : CallsH Try.prog 116 [.slice a cs.length cap, .string key, .func (.func 117) #[] #[]] h R := by
  refine f116ok (by simp) ?_
  simp (disch := first | exact Nat.le_of_ble_eq_true rfl | omega) only [AXR, AXB, J.dst, reduceIte, Nat.reduceEqDiff, Nat.reduceAdd, Nat.reduceMul, Nat.reduceLT, Nat.reduceLeDiff, f116r0, f116r1, f116r2, f116r3, f116r4, f116r5, f116r6, f116r7, f116r8, f116c10_eq, f116c11_eq, f116c9_eq, f116c8_eq, f116c7_eq, f116c6_eq, f116c5_eq, f116c4_eq, f116c12_eq, f116c3_eq, f116c2_eq, f116c1_eq, f116c0_eq]
  unfold maxLen at hn
  refine loop_in (fun n σ h' => Ext h h' ∧ ∃ i j : Nat, j = i + n ∧ j ≤ cs.length ∧ σ = [(0, .slice a cs.length cap), (1, .string key), (2, .func (.func 117) #[] #[]), (8, vi cs.length), (9, vi i), (10, vi j)] ∧
      (∀ p c, p < i → cs[p]? = some c → klt c.key key = true) ∧ (∀ c, cs[j]? = some c → klt c.key key = false))
    cs.length ⟨Ext.refl _, 0, cs.length, by omega, by omega, rfl, by intros; omega, by simp⟩ ?_
  rintro n σ h' ⟨e1, i, j, hj, hjl, rfl, hlo, hhi⟩ Q' hnx hex hrt _
  simp (disch := first | exact Nat.le_of_ble_eq_true rfl | omega) only [AXR, AXB, J.dst, reduceIte, Nat.reduceEqDiff, Nat.reduceAdd, Nat.reduceMul, Nat.reduceLT, Nat.reduceLeDiff, f116r0, f116r1, f116r2, f116r3, f116r4, f116r5, f116r6, f116r7, f116r8, f116c10_eq, f116c11_eq, f116c9_eq, f116c8_eq, f116c7_eq, f116c6_eq, f116c5_eq, f116c4_eq, f116c12_eq, f116c3_eq, f116c2_eq, f116c1_eq, f116c0_eq]
  refine ⟨fun h2 => ?_, fun h2 => ?_⟩
  · have hij : i < j := by have := of_decide_eq_true h2; omega
    rw [wL_raw]
    refine raw_shr rfl rfl rfl (by decide) (by decide) ?_
    refine ⟨trivial, ?_⟩
    have hmid : IntKind.i64.wrap (IntKind.u64.wrap (IntKind.i64.wrap ((i : Int) + j)) / 2 ^ (1 : Int).toNat) = (((i + j) / 2 : Nat) : Int) := by
      have : IntKind.u64.wrap (IntKind.i64.wrap ((i : Int) + j)) = (i : Int) + j := by unfold IntKind.wrap IntKind.bits IntKind.signed; simp; omega
      rw [this]
      have e2 : ((i : Int) + j) / 2 ^ (1 : Int).toNat = (((i + j) / 2 : Nat) : Int) := by
        show ((i : Int) + j) / 2 = _
        omega
      rw [e2]
      exact i64_wrap (by omega) (by omega)
    simp (disch := first | exact Nat.le_of_ble_eq_true rfl | omega) only [AXR, AXB, J.dst, reduceIte, Nat.reduceEqDiff, Nat.reduceAdd, Nat.reduceMul, Nat.reduceLT, Nat.reduceLeDiff, f116r0, f116r1, f116r2, f116r3, f116r4, f116r5, f116r6, f116r7, f116r8, f116c10_eq, f116c11_eq, f116c9_eq, f116c8_eq, f116c7_eq, f116c6_eq, f116c5_eq, f116c4_eq, f116c12_eq, f116c3_eq, f116c2_eq, f116c1_eq, f116c0_eq, hmid]
    obtain ⟨m, hm⟩ : ∃ m, m = (i + j) / 2 := ⟨_, rfl⟩
    rw [← hm]
    obtain ⟨c, hc⟩ := get_ex (show m < cs.length by omega)
    obtain ⟨b, o, v, rfl, _, hrow, hcr⟩ := (S.ext e1).elem hc
    simp (disch := first | exact Nat.le_of_ble_eq_true rfl | omega) only [AXR, AXB, J.dst, reduceIte, Nat.reduceEqDiff, Nat.reduceAdd, Nat.reduceMul, Nat.reduceLT, Nat.reduceLeDiff, f116r0, f116r1, f116r2, f116r3, f116r4, f116r5, f116r6, f116r7, f116r8, f116c10_eq, f116c11_eq, f116c9_eq, f116c8_eq, f116c7_eq, f116c6_eq, f116c5_eq, f116c4_eq, f116c12_eq, f116c3_eq, f116c2_eq, f116c1_eq, f116c0_eq, row_cv hrow]
    refine ⟨by omega, by omega, ?_⟩
    refine wL_cav _ _ _ _ _ _ _ rfl rfl f117cal ?_
    refine key_ok v key _ ?_
    intro h3 e3
    refine ⟨trivial, ?_⟩
    simp (disch := first | exact Nat.le_of_ble_eq_true rfl | omega) only [AXR, AXB, J.dst, reduceIte, Nat.reduceEqDiff, Nat.reduceAdd, Nat.reduceMul, Nat.reduceLT, Nat.reduceLeDiff, f116r0, f116r1, f116r2, f116r3, f116r4, f116r5, f116r6, f116r7, f116r8, f116c10_eq, f116c11_eq, f116c9_eq, f116c8_eq, f116c7_eq, f116c6_eq, f116c5_eq, f116c4_eq, f116c12_eq, f116c3_eq, f116c2_eq, f116c1_eq, f116c0_eq, hcr.key]
    have hk := kcmp_lt c.key key
    refine ⟨fun h4 => ?_, fun h4 => ?_⟩
    · have h4 : klt c.key key = true := by simpa [hk] using h4
      rw [i64_wrap (by omega) (by omega)]
      exact hnx (j - (m + 1)) _ _ (by omega) ⟨e1.trans e3, m + 1, j, by omega, hjl, rfl, fun p d hp hd => sorted_lt_key hs hd hc (by omega) h4, hhi⟩
    · have h4 : klt c.key key = false := by
        have := of_decide_eq_false h4
        rw [hk] at this; simpa using this
      refine hnx (m - i) _ _ (by omega) ⟨e1.trans e3, i, m, by omega, by omega, rfl, hlo, ?_⟩
      intro d hd; rw [hc] at hd; cases hd; exact h4
  · have hij : i = j := by have := of_decide_eq_false h2; omega
    subst hij
    refine hex _ _ ?_
    simp (disch := first | exact Nat.le_of_ble_eq_true rfl | omega) only [AXR, AXB, J.dst, reduceIte, Nat.reduceEqDiff, Nat.reduceAdd, Nat.reduceMul, Nat.reduceLT, Nat.reduceLeDiff, f116r0, f116r1, f116r2, f116r3, f116r4, f116r5, f116r6, f116r7, f116r8, f116c10_eq, f116c11_eq, f116c9_eq, f116c8_eq, f116c7_eq, f116c6_eq, f116c5_eq, f116c4_eq, f116c12_eq, f116c3_eq, f116c2_eq, f116c1_eq, f116c0_eq]
    have hlb := lbK_eq key cs i hjl hlo hhi
    refine ⟨fun h3 => ?_, fun h3 => ?_⟩
    · obtain ⟨c, hc⟩ := get_ex (show i < cs.length by have := of_decide_eq_true h3; omega)
      obtain ⟨b, o, v, rfl, _, hrow, hcr⟩ := (S.ext e1).elem hc
      simp (disch := first | exact Nat.le_of_ble_eq_true rfl | omega) only [AXR, AXB, J.dst, reduceIte, Nat.reduceEqDiff, Nat.reduceAdd, Nat.reduceMul, Nat.reduceLT, Nat.reduceLeDiff, f116r0, f116r1, f116r2, f116r3, f116r4, f116r5, f116r6, f116r7, f116r8, f116c10_eq, f116c11_eq, f116c9_eq, f116c8_eq, f116c7_eq, f116c6_eq, f116c5_eq, f116c4_eq, f116c12_eq, f116c3_eq, f116c2_eq, f116c1_eq, f116c0_eq, row_cv hrow]
      refine ⟨by omega, by have := of_decide_eq_true h3; omega, ?_⟩
      refine wL_cav _ _ _ _ _ _ _ rfl rfl f117cal ?_
      refine key_ok v key _ ?_
      intro h4 e4
      refine ⟨trivial, ?_⟩
      simp (disch := first | exact Nat.le_of_ble_eq_true rfl | omega) only [AXR, AXB, J.dst, reduceIte, Nat.reduceEqDiff, Nat.reduceAdd, Nat.reduceMul, Nat.reduceLT, Nat.reduceLeDiff, f116r0, f116r1, f116r2, f116r3, f116r4, f116r5, f116r6, f116r7, f116r8, f116c10_eq, f116c11_eq, f116c9_eq, f116c8_eq, f116c7_eq, f116c6_eq, f116c5_eq, f116c4_eq, f116c12_eq, f116c3_eq, f116c2_eq, f116c1_eq, f116c0_eq, hcr.key]
      have hh : hasK cs key = (kcmp c.key key == 0) := by
        have := kcmp_eq c.key key
        rw [Bool.eq_iff_iff]
        simp [hasK, hlb, hc, this]
      have := hR _ (e1.trans e4)
      rw [hlb, hh] at this
      exact this
    · have hh : hasK cs key = false := by
        have : cs[i]? = none := List.getElem?_eq_none (by have := of_decide_eq_false h3; omega)
        simp [hasK, hlb, this]
      have := hR _ e1
      rw [hlb, hh] at this
      exact this

theorem find_ok {B : Nat → Prop} {a : Option Addr} {cap : Nat} (cs : List Cell) (key : ByteArray) (h : Heap) (S : SlC B h a cs) (hs : Sorted cs) (hn : cs.length ≤ maxLen) {R : Value → Heap → Prop}
    (hR : ∀ h', Ext h h' → R (.tuple #[vi (lbK cs key), .bool (hasK cs key)]) h') : CallsH Try.prog 87 [.slice a cs.length cap, .string key] h R := by
  refine f87ok (by simp) ?_
  simp (disch := first | exact Nat.le_of_ble_eq_true rfl | omega) only [AXR, AXB, J.dst, reduceIte, Nat.reduceEqDiff, Nat.reduceAdd, Nat.reduceMul, Nat.reduceLT, Nat.reduceLeDiff, f87r0, f87r1, f87c1_eq, f87c0_eq]
  refine search_ok cs key h S hs hn ?_
  intro h1 e1
  try simp (disch := first | exact Nat.le_of_ble_eq_true rfl | omega) only [AXR, AXB, J.dst, reduceIte, Nat.reduceEqDiff, Nat.reduceAdd, Nat.reduceMul, Nat.reduceLT, Nat.reduceLeDiff, f87r0, f87r1, f87c1_eq, f87c0_eq]
  exact hR _ e1

end Go.Proofs.Ytefghfgmkndikaa
