/-
  Plain laws of scans.
-/
import Derived.Test.YtefghfgmkndikaaWN
set_option linter.unusedSimpArgs false
set_option linter.unusedVariables false
namespace Go.Proofs.Ytefghfgmkndikaa
open Go Go.AX

/-- Is a key within a span? -/
def inS (s : Spn) (k : ByteArray) : Bool := !klt k s.lo && klt k s.hi
def pairO (t : Stamp) (x : Cell) : Option Pai := if (tellV x.vers t).2 then some ⟨x.key, (tellV x.vers t).1⟩ else none
def pairsL (t : Stamp) (xs : List Cell) : List Pai := xs.filterMap (pairO t)
theorem scanL_eq (t : Stamp) (most : Int) : ∀ (xs : List Cell) (acc : List Pai), scanL t most xs acc = if pairsL t xs = [] ∨ (acc.length + (pairsL t xs).length : Int) ≤ most then (acc ++ pairsL t xs, 0) else ([], 3)
  | [], acc => by simp [scanL, pairsL]
  | x :: xs, acc => by
    unfold scanL
    cases hx : (tellV x.vers t).2 with
    | false =>
      have : pairsL t (x :: xs) = pairsL t xs := by unfold pairsL; rw [List.filterMap_cons]; simp [pairO, hx]
      rw [if_pos rfl, scanL_eq t most xs acc, this]
    | true =>
      have : pairsL t (x :: xs) = ⟨x.key, (tellV x.vers t).1⟩ :: pairsL t xs := by unfold pairsL; rw [List.filterMap_cons]; simp [pairO, hx]
      rw [if_neg (by simp), this]
      by_cases hm : (acc.length : Int) ≥ most
      · rw [if_pos hm, if_neg (by simp; omega)]
      · rw [if_neg hm, scanL_eq t most xs]
        by_cases h2 : pairsL t xs = [] ∨ ((acc ++ [(⟨x.key, (tellV x.vers t).1⟩ : Pai)]).length + (pairsL t xs).length : Int) ≤ most
        · rw [if_pos h2, if_pos]
          · simp
          · refine .inr ?_
            rcases h2 with h2 | h2
            · rw [h2]; simp; omega
            · simp at h2 ⊢; omega
        · rw [if_neg h2, if_neg]
          simp only [List.length_append, List.length_cons, List.length_nil, not_or] at h2 ⊢
          refine ⟨by simp, ?_⟩
          omega
theorem kge_trans {a b c : ByteArray} (h : klt a b = true) (k : klt a c = false) : klt b c = false := by
  cases hb : klt b c with
  | false => rfl
  | true => rw [klt_trans h hb] at k; cases k
theorem lbK_zero {cs : List Cell} {key : ByteArray} (h : ∀ c ∈ cs, klt c.key key = false) : lbK cs key = 0 := by
  cases cs with
  | nil => rfl
  | cons c cs => rw [lbK_cons, h c (by simp)]; rfl
theorem withinL_eq (s : Spn) : ∀ {cs : List Cell}, Sorted cs → withinL cs s = cs.filter fun c => inS s c.key := by
  intro cs hs
  unfold withinL
  by_cases hlh : klt s.lo s.hi = true
  · rw [if_neg (by rw [hlh]; simp)]
    induction cs with
    | nil => simp
    | cons c cs ih =>
      have h1 := sorted_cons.1 hs
      have ih := ih h1.2
      rw [lbK_cons, lbK_cons, List.filter_cons]
      cases ha : klt c.key s.lo with
      | true =>
        have hin : inS s c.key = false := by simp [inS, ha]
        have hhi : klt c.key s.hi = true := klt_trans ha hlh
        simp only [if_true, hhi, hin, Bool.false_eq_true, if_false, List.drop_succ_cons]
        rw [← ih]
        congr 1
        omega
      | false =>
        have hlo : ∀ d ∈ cs, klt d.key s.lo = false := fun d hd => kge_trans (h1.1 d hd) ha
        have hz := lbK_zero hlo
        rw [hz] at ih
        simp only [Bool.false_eq_true, if_false, List.drop_zero] at ih ⊢
        cases hb : klt c.key s.hi with
        | true =>
          have hin : inS s c.key = true := by simp [inS, ha, hb]
          simp only [if_true, hin]
          rw [← ih]
          simp
        | false =>
          have hin : inS s c.key = false := by simp [inS, hb]
          simp only [Bool.false_eq_true, if_false, hin]
          have : cs.filter (fun c => inS s c.key) = [] := by
            rw [List.filter_eq_nil_iff]
            intro d hd
            simp [inS, kge_trans (h1.1 d hd) hb]
          rw [this]; simp
  · rw [if_pos (by simpa using hlh)]
    symm
    rw [List.filter_eq_nil_iff]
    intro d _ hd
    simp only [inS, Bool.and_eq_true, Bool.not_eq_true'] at hd
    have hlh : klt s.lo s.hi = false := by simpa using hlh
    rcases klt_total s.lo d.key with h | h | h
    · rw [klt_trans h hd.2] at hlh; cases hlh
    · rw [← h] at hd; rw [hd.2] at hlh; cases hlh
    · rw [h] at hd; cases hd.1
theorem pairs_len (t : Stamp) (xs : List Cell) : (pairsL t xs).length ≤ xs.length := List.length_filterMap_le _ _

/-! ### Trims -/
theorem trim_pairs {below t : Stamp} (h : Stamp.lt t below = false) (P : ByteArray → Bool) : ∀ {cs : List Cell}, (∀ c ∈ cs, VS c.vers) → pairsL t ((trimL cs below).filter fun c => P c.key) = pairsL t (cs.filter fun c => P c.key)
  | [], _ => rfl
  | c :: cs, hv => by
    have ih := trim_pairs h P (cs := cs) (fun c hc => hv c (by simp [hc]))
    have ht := tell_trim (hv c (by simp)) h
    unfold trimL at ih ⊢
    rw [List.filterMap_cons]
    by_cases hl : (trimC below c).locked = true ∨ (trimC below c).vers ≠ []
    · rw [leftC_of hl]
      simp only
      rw [List.filter_cons, List.filter_cons]
      have hk : (trimC below c).key = c.key := rfl
      rw [hk]
      split
      · unfold pairsL at ih ⊢
        rw [List.filterMap_cons, List.filterMap_cons, ih]
        have : pairO t (trimC below c) = pairO t c := by
          unfold pairO
          have e : tellV (trimC below c).vers t = tellV c.vers t := ht
          rw [e, hk]
        rw [this]
      · exact ih
    · simp only [not_or, Decidable.not_not, Bool.not_eq_true] at hl
      rw [leftC_not hl.1 hl.2]
      simp only
      rw [List.filter_cons]
      split
      · rw [ih]
        unfold pairsL
        rw [List.filterMap_cons]
        have e : tellV (trimC below c).vers t = tellV c.vers t := ht
        rw [hl.2] at e
        have : pairO t c = none := by
          unfold pairO
          rw [← e]; rfl
        rw [this]
      · exact ih
theorem trim_scan {cs : List Cell} (g : Good cs) {below t : Stamp} (h : Stamp.lt t below = false) (s : Spn) (most : Int) : scanL t most (withinL (trimL cs below) s) [] = scanL t most (withinL cs s) [] := by
  rw [scanL_eq, scanL_eq, withinL_eq s (trim_good below g).sorted, withinL_eq s g.sorted, trim_pairs h (inS s) fun c hc => (g.ok c hc).vs]
theorem trim_again {cs : List Cell} (g : Good cs) (t : Stamp) : trimL (trimL cs t) t = trimL cs t := by
  unfold trimL
  rw [List.filterMap_filterMap]
  refine fm_congr fun c hc => ?_
  cases hd : leftC (trimC t c) with
  | none => rfl
  | some d =>
    rw [Option.bind_some]
    obtain ⟨rfl, hl⟩ := leftC_some hd
    rw [trimC_twice t c (g.ok c hc).vs]; exact hd

/-! ### Scans -/
theorem cellK_self {cs : List Cell} (hs : Sorted cs) {c : Cell} (hc : c ∈ cs) : cellK cs c.key = some c := by
  induction cs with
  | nil => simp at hc
  | cons d cs ih =>
    rw [cellK_cons]
    rcases List.mem_cons.1 hc with rfl | hc
    · rw [if_pos rfl]
    · have := klt_ne ((sorted_cons.1 hs).1 c hc)
      rw [if_neg this]
      exact ih (sorted_cons.1 hs).2 hc
theorem getK_self {cs : List Cell} (hs : Sorted cs) {c : Cell} (hc : c ∈ cs) (t : Stamp) : getK cs c.key t = tellV c.vers t := by
  rw [getK_eq hs, cellK_self hs hc]
theorem eqA_pai (neg : Bool) (s t : Pai) : eqA neg [.s, .s] (.agg (ePai s).toArray) (.agg (ePai t).toArray) = some (.bool (if neg then !decide (s = t) else decide (s = t))) := by
  obtain ⟨a1, a2⟩ := s
  obtain ⟨b1, b2⟩ := t
  have : (a1.toList == b1.toList && a2.toList == b2.toList) = decide ((⟨a1, a2⟩ : Pai) = ⟨b1, b2⟩) := by
    rw [keq_iff, keq_iff, Bool.eq_iff_iff]; simp
  simp only [eqA, ePai, eqKds, eqKd, Option.bind_some, Option.map_some, Bool.and_true, this]
theorem eqA_paiN (s t : Pai) : eqA true [.s, .s] (.agg (ePai s).toArray) (.agg (ePai t).toArray) = some (.bool (!decide (s = t))) := eqA_pai true s t
theorem row_pai {h : Heap} {b o : Nat} {v : Pai} (r : Row h b o (ePai v)) : rd h b o 2 = some (ePai v) := r.rd0 2 (Nat.le_refl _)
theorem OwnC.cap {lo : Nat} {h : Heap} {a : Option Addr} {n c : Nat} {cs : List Cell} (O : OwnC lo h a n c cs) : n ≤ c := by
  obtain ⟨_, h1, _⟩ := O
  exact h1.room.1
/-- The pairs of the first k cells. -/
def firstP (t : Stamp) (s : Spn) (cs : List Cell) (k : Nat) : List Pai := pairsL t ((cs.take k).filter fun c => inS s c.key)
theorem firstP_succ {t : Stamp} {s : Spn} {cs : List Cell} {k : Nat} {c : Cell} (h : cs[k]? = some c) : firstP t s cs (k + 1) = firstP t s cs k ++ (if inS s c.key && (tellV c.vers t).2 then [⟨c.key, (tellV c.vers t).1⟩] else []) := by
  unfold firstP pairsL
  rw [List.take_add_one, h, Option.toList_some, List.filter_append, List.filterMap_append]
  congr 1
  cases h1 : inS s c.key <;> cases h2 : (tellV c.vers t).2 <;> simp [h1, h2, pairO]
theorem firstP_all (t : Stamp) (s : Spn) (cs : List Cell) : firstP t s cs cs.length = pairsL t (cs.filter fun c => inS s c.key) := by unfold firstP; rw [List.take_length]
theorem firstP_pre (t : Stamp) (s : Spn) (cs : List Cell) (k : Nat) : firstP t s cs k <+: firstP t s cs cs.length := by
  unfold firstP pairsL
  rw [List.take_length]
  exact ((List.take_prefix k cs).filter _).filterMap _
end Go.Proofs.Ytefghfgmkndikaa
