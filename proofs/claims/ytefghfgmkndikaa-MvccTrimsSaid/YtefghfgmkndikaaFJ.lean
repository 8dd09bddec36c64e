/-
  Rules for conditions made of parts: both ways meet again, so they are one way with a value by cases.
-/
import Derived.Test.YtefghfgmkndikaaFR
set_option linter.unusedSimpArgs false
set_option linter.unusedVariables false
namespace Go.AX
open Go
theorem br_andL (c : Bool) (p A B : Prop) : br c (p ∧ A) B = ((c = true → p) ∧ br c A B) := by cases c <;> simp [br]
theorem br_andR (c : Bool) (p A B : Prop) : br c A (p ∧ B) = ((c = false → p) ∧ br c A B) := by cases c <;> simp [br]
theorem br_join (c x y : Bool) (P : Program) (m : Option Md) (r : List I) (C : Env → Heap → Prop) (d : Nat) (σ : Env) (h : Heap) :
    br c (wL P m r 0 C ((d, .bool x) :: σ) h) (wL P m r 0 C ((d, .bool y) :: σ) h) = wL P m r 0 C ((d, .bool (bif c then x else y)) :: σ) h := by cases c <;> simp [br]
theorem br_joinC (c x y : Bool) (P : Program) (e : C) (Q : X → Env → Heap → Prop) (d : Nat) (σ : Env) (h : Heap) :
    br c (wC P e Q ((d, .bool x) :: σ) h) (wC P e Q ((d, .bool y) :: σ) h) = wC P e Q ((d, .bool (bif c then x else y)) :: σ) h := by cases c <;> simp [br]
/-- A loop that stands last in its block. -/
theorem loop_in1 {P : Program} {B : C} {id : Nat} {Q : X → Env → Heap → Prop} {σ : Env} {h : Heap} (Inv : Nat → Env → Heap → Prop) (n : Nat) (h0 : Inv n σ h)
    (H : ∀ n σ h, Inv n σ h → ∀ Q' : X → Env → Heap → Prop, (∀ n' σ' h', n' < n → Inv n' σ' h' → Q' .normal σ' h') → (∀ σ' h', Q .normal σ' h' → Q' (.exit id) σ' h') → (∀ σ' h', Q .ret σ' h' → Q' .ret σ' h') →
      (∀ i σ' h', i ≠ id → Q (.exit i) σ' h' → Q' (.exit i) σ' h') → wC P B Q' σ h) :
    loopW (wC P B) (X.inBlock id Q) σ h := by
  refine ⟨Inv, n, h0, fun n σ h hI => H n σ h hI _ ?_ ?_ ?_ ?_⟩
  · intro n' σ' h' hn hI'; exact ⟨n', hn, hI'⟩
  · intro σ' h' hM; show (if id = id then Q .normal σ' h' else _); rw [if_pos rfl]; exact hM
  · intro σ' h' hq; exact hq
  · intro i σ' h' hi hq
    show (if i = id then Q .normal σ' h' else Q (.exit i) σ' h')
    rw [if_neg hi]; exact hq
/-- the same, where the first way turns the heap -/
theorem br_call {c x y : Bool} {P : Program} {m : Option Md} {r : List I} {C : Env → Heap → Prop} {d : Nat} {σ : Env} {h : Heap}
    (H : ∀ h', Ext h h' → wL P m r 0 C ((d, .bool (bif c then x else y)) :: σ) h') :
    (c = true → ∀ h', Ext h h' → wL P m r 0 C ((d, .bool x) :: σ) h') ∧ (c = false → wL P m r 0 C ((d, .bool y) :: σ) h) := by
  constructor
  · rintro rfl h' e; exact H h' e
  · rintro rfl; exact H h (Ext.refl _)
theorem br_not (c : Bool) (A B : Prop) : br (!c) A B = br c B A := by cases c <;> simp [br]
theorem cond_tr (c x : Bool) : (bif c then true else x) = (c || x) := by cases c <;> rfl
theorem cond_fr (c x : Bool) : (bif c then x else false) = (c && x) := by cases c <;> simp
theorem cond_xt (c x : Bool) : (bif c then x else true) = (!c || x) := by cases c <;> simp
theorem cond_fx (c x : Bool) : (bif c then false else x) = (!c && x) := by cases c <;> simp
set_option linter.defProp false in
def AXJ := And.intro @beq_true <| And.intro @beq_false <| And.intro @Bool.not_not <| And.intro @decide_eq_true_eq <| And.intro @decide_eq_false_iff_not <| And.intro @br_not <| And.intro @br_andL <| And.intro @br_andR <| And.intro @br_join <| And.intro @br_joinC <| And.intro @cond_tr <| And.intro @cond_fr <| And.intro @cond_xt <| @cond_fx
end Go.AX
