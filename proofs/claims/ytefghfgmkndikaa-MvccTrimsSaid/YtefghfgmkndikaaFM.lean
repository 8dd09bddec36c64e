/-
  Plain mathematics: the order of stamps and of keys; versions and cells as lists.
-/
import Derived.Test.YtefghfgmkndikaaFA
set_option linter.unusedSimpArgs false
set_option linter.unusedVariables false
namespace Go.AX
open Go

/-! ### Keys -/
/-- One key ahead of another. -/
def klt (a b : ByteArray) : Bool := Op.bytesLess a.toList b.toList

theorem bl_irrefl : ∀ x : List UInt8, Op.bytesLess x x = false
  | [] => rfl
  | a :: x => by simp [Op.bytesLess, bl_irrefl x]
theorem bl_trans : ∀ x y z : List UInt8, Op.bytesLess x y = true → Op.bytesLess y z = true → Op.bytesLess x z = true
  | _, [], _, h, _ => by cases ‹List UInt8› <;> simp [Op.bytesLess] at h
  | _, _ :: _, [], _, h => by simp [Op.bytesLess] at h
  | [], _ :: _, _ :: _, _, _ => by simp [Op.bytesLess]
  | a :: x, b :: y, c :: z, h, k => by
    simp only [Op.bytesLess, Bool.or_eq_true, decide_eq_true_eq, Bool.and_eq_true, beq_iff_eq] at h k ⊢
    rcases h with h | ⟨rfl, h⟩
    · rcases k with k | ⟨rfl, k⟩
      · exact .inl (UInt8.lt_trans h k)
      · exact .inl h
    · rcases k with k | ⟨rfl, k⟩
      · exact .inl k
      · exact .inr ⟨rfl, bl_trans x y z h k⟩
theorem u8_tri (a b : UInt8) : a < b ∨ a = b ∨ b < a := by
  simp only [UInt8.lt_iff_toNat_lt, ← UInt8.toNat_inj]; omega
theorem bl_total : ∀ x y : List UInt8, Op.bytesLess x y = true ∨ x = y ∨ Op.bytesLess y x = true
  | [], [] => .inr (.inl rfl)
  | [], _ :: _ => .inl rfl
  | _ :: _, [] => .inr (.inr rfl)
  | a :: x, b :: y => by
    simp only [Op.bytesLess, Bool.or_eq_true, decide_eq_true_eq, Bool.and_eq_true, beq_iff_eq, List.cons.injEq]
    rcases u8_tri a b with h | h | h
    · exact .inl (.inl h)
    · subst h
      rcases bl_total x y with k | k | k
      · exact .inl (.inr ⟨rfl, k⟩)
      · exact .inr (.inl ⟨rfl, k⟩)
      · exact .inr (.inr (.inr ⟨rfl, k⟩))
    · exact .inr (.inr (.inl h))

theorem toList_inj {a b : ByteArray} (h : a.toList = b.toList) : a = b := by
  rw [ByteArray.toList_eq, ByteArray.toList_eq] at h
  cases a; cases b
  congr 1
  exact Array.ext' h
theorem keq_iff (a b : ByteArray) : (a.toList == b.toList) = decide (a = b) := by
  by_cases h : a = b
  · subst h; simp
  · rw [decide_eq_false h, beq_eq_false_iff_ne]
    exact fun e => h (toList_inj e)
theorem klt_irrefl (a : ByteArray) : klt a a = false := bl_irrefl _
theorem klt_trans {a b c : ByteArray} (h : klt a b = true) (k : klt b c = true) : klt a c = true := bl_trans _ _ _ h k
theorem klt_total (a b : ByteArray) : klt a b = true ∨ a = b ∨ klt b a = true := by
  rcases bl_total a.toList b.toList with h | h | h
  · exact .inl h
  · exact .inr (.inl (toList_inj h))
  · exact .inr (.inr h)
theorem klt_asymm {a b : ByteArray} (h : klt a b = true) : klt b a = false := by
  cases hb : klt b a with
  | false => rfl
  | true => have := klt_trans h hb; rw [klt_irrefl] at this; cases this
theorem klt_ne {a b : ByteArray} (h : klt a b = true) : a ≠ b := by rintro rfl; rw [klt_irrefl] at h; cases h
/-- not ahead: at or behind -/
theorem kle_iff (a b : ByteArray) : (klt a b || decide (a = b)) = !klt b a := by
  rcases klt_total a b with h | h | h
  · rw [h, klt_asymm h]; rfl
  · subst h; simp [klt_irrefl]
  · rw [h, klt_asymm h]; simp [(klt_ne h).symm]

/-- What strings.Compare tells. -/
def kcmp (a b : ByteArray) : Int := if klt a b then -1 else if klt b a then 1 else 0
theorem cmp_kcmp : ∀ x y : List UInt8, Lib.compareBytes x y = if Op.bytesLess x y then -1 else if Op.bytesLess y x then 1 else 0
  | [], [] => rfl
  | [], _ :: _ => rfl
  | _ :: _, [] => rfl
  | a :: x, b :: y => by
    simp only [Lib.compareBytes, Op.bytesLess, cmp_kcmp x y]
    by_cases h : a < b
    · simp [h]
    · by_cases k : b < a
      · have hne : a ≠ b := by rintro rfl; exact absurd k h
        simp [h, k, hne]
      · have he : a = b := by
          rcases u8_tri a b with h' | h' | h'
          · exact absurd h' h
          · exact h'
          · exact absurd h' k
        subst he
        simp [h]

/-! ### Stamps -/
def Stamp.lt (a b : Stamp) : Bool := decide (a.wall < b.wall) || (decide (a.wall = b.wall) && decide (a.tie < b.tie))
theorem Stamp.lt_iff (a b : Stamp) : Stamp.lt a b = true ↔ a.wall < b.wall ∨ (a.wall = b.wall ∧ a.tie < b.tie) := by simp [Stamp.lt]
theorem Stamp.ext_iff' (a b : Stamp) : a = b ↔ a.wall = b.wall ∧ a.tie = b.tie := by cases a; cases b; simp
theorem Stamp.lt_irrefl (a : Stamp) : Stamp.lt a a = false := by simp [Stamp.lt]
theorem Stamp.lt_trans {a b c : Stamp} (h : Stamp.lt a b = true) (k : Stamp.lt b c = true) : Stamp.lt a c = true := by
  rw [Stamp.lt_iff] at *; omega
theorem Stamp.lt_total (a b : Stamp) : Stamp.lt a b = true ∨ a = b ∨ Stamp.lt b a = true := by
  simp only [Stamp.lt_iff, Stamp.ext_iff']; omega
theorem Stamp.lt_asymm {a b : Stamp} (h : Stamp.lt a b = true) : Stamp.lt b a = false := by
  cases hb : Stamp.lt b a with
  | false => rfl
  | true => have := Stamp.lt_trans h hb; rw [Stamp.lt_irrefl] at this; cases this

/-! ### Versions -/
def lastK (vs : List Ver) (t : Stamp) : Nat → Int
  | 0 => -1
  | k + 1 => if Stamp.lt t (vs.getD k default).at_ then lastK vs t k else k
/-- The place of the last version that is not above a stamp; -1: none. -/
def lastV (vs : List Ver) (t : Stamp) : Int := lastK vs t vs.length
theorem lastK_le (vs : List Ver) (t : Stamp) : ∀ k, -1 ≤ lastK vs t k ∧ lastK vs t k < k
  | 0 => by simp [lastK]
  | k + 1 => by
    have := lastK_le vs t k
    unfold lastK; split <;> omega
theorem lastV_le (vs : List Ver) (t : Stamp) : -1 ≤ lastV vs t ∧ lastV vs t < vs.length := lastK_le vs t _

def noB : ByteArray := ⟨#[]⟩
/-- What versions tell at a stamp. -/
def tellV (vs : List Ver) (t : Stamp) : ByteArray × Bool :=
  if lastV vs t < 0 then (noB, false) else
  let v := vs.getD (lastV vs t).toNat default
  if v.drop then (noB, false) else (v.data, true)

/-- The reference's loop: the last one in the list's order that is not above the stamp. -/
def ofK (vs : List Ver) (t : Stamp) : Nat → ByteArray × Bool
  | 0 => (noB, false)
  | k + 1 => let v := vs.getD k default; if Stamp.lt t v.at_ then ofK vs t k else (v.data, !v.drop)
def ofV (vs : List Ver) (t : Stamp) : ByteArray × Bool := let r := ofK vs t vs.length; if r.2 then r else (noB, false)
theorem ofK_eq (vs : List Ver) (t : Stamp) : ∀ k, (let r := ofK vs t k; if r.2 then r else (noB, false)) = (if lastK vs t k < 0 then (noB, false) else
    let v := vs.getD (lastK vs t k).toNat default
    if v.drop then (noB, false) else (v.data, true))
  | 0 => rfl
  | k + 1 => by
    unfold ofK lastK
    simp only
    split
    · rename_i h; have := ofK_eq vs t k; simpa using this
    · rw [if_neg (by omega : ¬ ((k : Nat) : Int) < 0)]
      simp only [Int.toNat_natCast]
      cases (vs.getD k default).drop <;> simp
theorem ofV_eq (vs : List Ver) (t : Stamp) : ofV vs t = tellV vs t := ofK_eq vs t _

/-! ### Cells -/
/-- The keys rise. -/
def Sorted (cs : List Cell) : Prop := cs.Pairwise fun a b => klt a.key b.key = true

/-- The first place whose key is the key; -1: none. -/
def findK (cs : List Cell) (key : ByteArray) : Int := match cs.findIdx? (fun c => decide (c.key = key)) with | some i => i | none => -1
/-- How many keys are ahead. -/
def lbK (cs : List Cell) (key : ByteArray) : Nat := (cs.takeWhile fun c => klt c.key key).length
def hasK (cs : List Cell) (key : ByteArray) : Bool := match cs[lbK cs key]? with | some c => decide (c.key = key) | none => false

end Go.AX
