/-
  The contracts of mvcc's operations for cells that may be and are not too great.
-/
import Derived.Test.YtefghfgmkndikaaWL
set_option linter.unusedSimpArgs false
set_option linter.unusedVariables false
namespace Go.Proofs.Ytefghfgmkndikaa
open Go Go.AX

/-- Few enough for all. -/
structure Gd (n : Nat) (cs : List Cell) : Prop where
  good : Good cs
  sz : Sz n cs
theorem szAll {cs : List Cell} {n : Nat} (h : Sz n cs) (hn : n ≤ 900000) : cs.length < big ∧ (∀ c ∈ cs, c.vers.length < big) ∧ cs.length ≤ maxLen ∧ Fit cs ∧ cs.length ≤ big ∧ (∀ c ∈ cs, c.vers.length ≤ big) := by
  have hbig : big = 1000000 := rfl
  have h1 := h.1
  refine ⟨by omega, fun c hc => ?_, by unfold maxLen; omega, fun c hc => ?_, by omega, fun c hc => ?_⟩
  · have := h.2 c hc; omega
  · have := h.2 c hc; unfold maxLen; omega
  · have := h.2 c hc; omega

section
variable {B B' : Nat → Prop} {a a' : Option Addr} {c c' n n' : Nat} {cs ds : List Cell} {h : Heap} {R : Value → Heap → Prop}
theorem lockG (g : Gd n cs) (hn : n ≤ 900000) (S : SlC B h a cs) (w : Wri) (l : Lck) (hR : ∀ a' c' h', Gd (n + 1) (lockL cs w l) → OwnC h.size h' a' (lockL cs w l).length c' (lockL cs w l) → Ext h h' → R (.slice a' (lockL cs w l).length c') h') :
    CallsH Try.prog 40 [.slice a cs.length c, .agg (eWri w).toArray, .agg (eLck l).toArray] h R := by
  obtain ⟨z1, z2, z3, z4, z5, z6⟩ := szAll g.sz hn
  refine lock_ok cs w l h S g.good.sorted z1 z6 ?_
  intro a' n' c' h' O e
  obtain rfl := OwnC.len O
  exact hR _ _ _ ⟨lock_good w l g.good, lock_sz w l g.sz⟩ O e
theorem settleG (g : Gd n cs) (hn : n ≤ 900000) (S : SlC B h a cs) (by_ : Try4) (yes : Bool) (hR : ∀ a' c' h', Gd (n + 1) (settleL cs by_ yes) → OwnC h.size h' a' (settleL cs by_ yes).length c' (settleL cs by_ yes) → Ext h h' → R (.slice a' (settleL cs by_ yes).length c') h') :
    CallsH Try.prog 39 [.slice a cs.length c, .agg (eTry by_).toArray, .bool yes] h R := by
  obtain ⟨z1, z2, z3, z4, z5, z6⟩ := szAll g.sz hn
  refine settle_ok cs by_ yes h S z5 z2 ?_
  intro a' n' c' h' O e
  obtain rfl := OwnC.len O
  exact hR _ _ _ ⟨settle_good by_ yes g.good, settle_sz by_ yes g.good g.sz⟩ O e
theorem trimG (g : Gd n cs) (hn : n ≤ 900000) (S : SlC B h a cs) (t : Stamp) (hR : ∀ a' c' h', Gd n (trimL cs t) → OwnC h.size h' a' (trimL cs t).length c' (trimL cs t) → Ext h h' → R (.slice a' (trimL cs t).length c') h') :
    CallsH Try.prog 46 [.slice a cs.length c, .agg (eStamp t).toArray] h R := by
  obtain ⟨z1, z2, z3, z4, z5, z6⟩ := szAll g.sz hn
  refine trim_ok cs t h S z5 z2 ?_
  intro a' n' c' h' O e
  obtain rfl := OwnC.len O
  exact hR _ _ _ ⟨trim_good t g.good, trim_sz t g.sz⟩ O e
theorem doG (g : Gd n cs) (hn : n ≤ 900000) (S : SlC B h a cs) (o : Op8) (hR : ∀ a' c' ay ny cy h', Gd (n + 1) (doL cs o) → OwnC h.size h' a' (doL cs o).length c' (doL cs o) → OwnC h.size h' ay ny cy (rdoL cs o) → Ext h h' →
    R (.tuple #[.slice a' (doL cs o).length c', .slice ay ny cy]) h') : CallsH Try.prog 37 [.slice a cs.length c, .agg (eOp8 o).toArray] h R := by
  obtain ⟨z1, z2, z3, z4, z5, z6⟩ := szAll g.sz hn
  refine do_ok cs o h S g.good.sorted z1 z2 ?_
  intro a' n' c' ay ny cy h' O Oy e
  obtain rfl := OwnC.len O
  exact hR _ _ _ _ _ _ ⟨do_good o g.good, do_sz o g.good g.sz⟩ O Oy e
theorem getG (g : Gd n cs) (hn : n ≤ 900000) (S : SlC B h a cs) (key : ByteArray) (t : Stamp) (hR : ∀ h', Ext h h' → R (.tuple #[.string (getK cs key t).1, .bool (getK cs key t).2]) h') : CallsH Try.prog 41 [.slice a cs.length c, .string key, .agg (eStamp t).toArray] h R := by
  obtain ⟨z1, z2, z3, z4, z5, z6⟩ := szAll g.sz hn
  exact get_ok cs key t h S g.good.sorted z3 z4 hR
theorem mineG (g : Gd n cs) (hn : n ≤ 900000) (S : SlC B h a cs) (by_ : Try4) (hR : ∀ h', Ext h h' → R (.bool (mineL cs by_)) h') : CallsH Try.prog 38 [.slice a cs.length c, .agg (eTry by_).toArray] h R := by
  obtain ⟨z1, z2, z3, z4, z5, z6⟩ := szAll g.sz hn
  exact mine_ok cs by_ h S z3 hR
theorem mayG (g : Gd n cs) (hn : n ≤ 900000) (S : SlC B h a cs) (hR : ∀ h', Ext h h' → R (.bool true) h') : CallsH Try.prog 45 [.slice a cs.length c] h R := by
  obtain ⟨z1, z2, z3, z4, z5, z6⟩ := szAll g.sz hn
  refine may_ok cs h S z5 z6 ?_
  intro b hb h' e
  rw [hb.2 ((mayP_iff cs).2 g.good)]
  exact hR h' e
theorem sameG (g : Gd n cs) (hn : n ≤ 900000) (S : SlC B h a cs) (S' : SlC B' h a' ds) (he : cs = ds) (hR : ∀ h', Ext h h' → R (.bool true) h') : CallsH Try.prog 43 [.slice a cs.length c, .slice a' ds.length c'] h R := by
  obtain ⟨z1, z2, z3, z4, z5, z6⟩ := szAll g.sz hn
  refine same_ok cs ds h S S' z5 z6 ?_
  intro b hb h' e
  rw [hb.2 he]
  exact hR h' e
end
theorem gdRun (ops : List Op8) : Gd ops.length (runL ops) := ⟨(runL_good ops).1, (runL_good ops).2⟩
theorem Gd.mono {n m : Nat} {cs : List Cell} (g : Gd n cs) (h : n ≤ m) : Gd m cs := ⟨g.good, g.sz.mono h⟩
theorem lightL_len {ops : List Op8} {m : Int} (h : lightL ops m = true) : (ops.length : Int) ≤ m := by
  unfold lightL at h
  simp only [Bool.and_eq_true, Bool.not_eq_true', decide_eq_false_iff_not] at h
  omega
end Go.Proofs.Ytefghfgmkndikaa
