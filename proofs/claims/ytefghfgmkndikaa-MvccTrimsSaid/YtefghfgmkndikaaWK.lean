/-
  Walks: whether there is anything yet.
-/
import Derived.Test.YtefghfgmkndikaaWJ
set_option linter.unusedSimpArgs false
set_option linter.unusedVariables false
namespace Go.Proofs.Ytefghfgmkndikaa
open Go Go.AX

def kB : ByteArray := ⟨#[107]⟩
def xB : ByteArray := ⟨#[120]⟩
def w0 : Wri := ⟨kB, false, xB⟩
def l0 : Lck := ⟨⟨1, 0, 0, 0⟩, 0, ⟨5, 0⟩, false, noB⟩
def c0 : List Cell := [⟨kB, [], true, ⟨⟨1, 0, 0, 0⟩, 0, ⟨5, 0⟩, false, xB⟩⟩]
def d0 : List Cell := [⟨kB, [⟨⟨5, 0⟩, false, xB⟩], false, noLock⟩]
theorem bg1 : lockL [] w0 l0 = c0 := by rw [lockL_eq]; rfl
theorem bg2 : settleL c0 l0.by_ true = d0 := rfl
theorem s0 : Sorted c0 := List.pairwise_singleton _ _
theorem s1 : Sorted d0 := List.pairwise_singleton _ _
theorem bg3 (t : Stamp) : getK c0 kB t = (noB, false) := by rw [getK_eq s0]; rfl
theorem bg4 : getK d0 kB ⟨5, 0⟩ = (xB, true) := by rw [getK_eq s1]; rfl
theorem bg5 : mineL c0 l0.by_ = true := rfl
theorem bg6 : mineL d0 l0.by_ = false := rfl
theorem bg7 : MayP d0 := by
  intro i x hx
  cases i with
  | zero =>
    cases hx
    refine ⟨⟨fun y h => by omega, fun _ => rfl, fun _ => by simp, fun h => by cases h⟩, ?_⟩
    intro k v hv
    cases k with
    | zero => cases hv; exact ⟨fun u h => by omega, fun h => by cases h⟩
    | succ k => cases hv
  | succ i => cases hx

theorem OwnC.len {lo : Nat} {h : Heap} {a : Option Addr} {n c : Nat} {cs : List Cell} (O : OwnC lo h a n c cs) : n = cs.length := by obtain ⟨_, _, h, _⟩ := O; exact h

theorem begun_ok (h : Heap) {R : Value → Heap → Prop} (hR : ∀ h', Ext h h' → R (.bool true) h') : CallsH Try.prog 35 [] h R := by
  have hbig : big = 1000000 := rfl
  refine f35ok (by simp) ?_
  (try simp (config := { maxSteps := 1000000 }) (disch := first | exact Nat.le_of_ble_eq_true rfl | omega) only [AXS, AXB, J.dst, reduceIte, Nat.reduceEqDiff, Nat.reduceAdd, Nat.reduceMul, Nat.reduceLT, Nat.reduceLeDiff]); rw [f35c0_eq]; (try simp (config := { maxSteps := 1000000 }) (disch := first | exact Nat.le_of_ble_eq_true rfl | omega) only [AXS, AXB, J.dst, reduceIte, Nat.reduceEqDiff, Nat.reduceAdd, Nat.reduceMul, Nat.reduceLT, Nat.reduceLeDiff, f35r0, f35r1, f35r2, f35r3, f35r4, f35r5, f35r6]); rw [f35c1_eq]; (try simp (config := { maxSteps := 1000000 }) (disch := first | exact Nat.le_of_ble_eq_true rfl | omega) only [AXS, AXB, J.dst, reduceIte, Nat.reduceEqDiff, Nat.reduceAdd, Nat.reduceMul, Nat.reduceLT, Nat.reduceLeDiff, f35r0, f35r1, f35r2, f35r3, f35r4, f35r5, f35r6])
  refine wL_newN ?_; rintro b1 h1 e1 s1' hb1 B1
  try simp (config := { maxSteps := 1000000 }) (disch := first | exact Nat.le_of_ble_eq_true rfl | omega) only [AXS, AXB, J.dst, reduceIte, Nat.reduceEqDiff, Nat.reduceAdd, Nat.reduceMul, Nat.reduceLT, Nat.reduceLeDiff]
  refine wL_stN rfl rfl rfl B1 (by decide) (one_lck l0) ?_; rintro h2 u2 (B2 : Blk _ _ _ (eLck l0))
  have e2 := u2.ext e1 (by omega)
  (try simp (config := { maxSteps := 1000000 }) (disch := first | exact Nat.le_of_ble_eq_true rfl | omega) only [AXS, AXB, J.dst, reduceIte, Nat.reduceEqDiff, Nat.reduceAdd, Nat.reduceMul, Nat.reduceLT, Nat.reduceLeDiff]); rw [f35c2_eq]; (try simp (config := { maxSteps := 1000000 }) (disch := first | exact Nat.le_of_ble_eq_true rfl | omega) only [AXS, AXB, J.dst, reduceIte, Nat.reduceEqDiff, Nat.reduceAdd, Nat.reduceMul, Nat.reduceLT, Nat.reduceLeDiff, f35r0, f35r1, f35r2, f35r3, f35r4, f35r5, f35r6, B2.rd, B2.cel])
  refine lock_ok (B := fun _ => True) (a := none) [] w0 l0 _ SlC.nil .nil (by simp [hbig]) (by simp) ?_
  rw [bg1]
  intro a3 n3 c3 h3 O3 e3
  refine ⟨trivial, ?_⟩
  try simp (config := { maxSteps := 1000000 }) (disch := first | exact Nat.le_of_ble_eq_true rfl | omega) only [AXS, AXB, J.dst, reduceIte, Nat.reduceEqDiff, Nat.reduceAdd, Nat.reduceMul, Nat.reduceLT, Nat.reduceLeDiff]
  have hn3 := OwnC.len O3
  subst hn3
  (try simp (config := { maxSteps := 1000000 }) (disch := first | exact Nat.le_of_ble_eq_true rfl | omega) only [AXS, AXB, J.dst, reduceIte, Nat.reduceEqDiff, Nat.reduceAdd, Nat.reduceMul, Nat.reduceLT, Nat.reduceLeDiff]); rw [f35c3_eq]; (try simp (config := { maxSteps := 1000000 }) (disch := first | exact Nat.le_of_ble_eq_true rfl | omega) only [AXS, AXB, J.dst, reduceIte, Nat.reduceEqDiff, Nat.reduceAdd, Nat.reduceMul, Nat.reduceLT, Nat.reduceLeDiff, f35r0, f35r1, f35r2, f35r3, f35r4, f35r5, f35r6])
  refine get_ok c0 kB ⟨9, 0⟩ _ O3.slc s0 (by decide) (by intro c hc; cases hc with | head => decide | tail _ h => cases h) ?_
  rw [bg3]
  intro h4 e4
  refine ⟨trivial, ?_⟩
  have O4 := O3.ext e4
  have B4 := (B2.ext e3).ext e4
  try simp (config := { maxSteps := 1000000 }) (disch := first | exact Nat.le_of_ble_eq_true rfl | omega) only [AXS, AXB, J.dst, reduceIte, Nat.reduceEqDiff, Nat.reduceAdd, Nat.reduceMul, Nat.reduceLT, Nat.reduceLeDiff]
  (try simp (config := { maxSteps := 1000000 }) (disch := first | exact Nat.le_of_ble_eq_true rfl | omega) only [AXS, AXB, J.dst, reduceIte, Nat.reduceEqDiff, Nat.reduceAdd, Nat.reduceMul, Nat.reduceLT, Nat.reduceLeDiff]); rw [f35c4_eq]; (try simp (config := { maxSteps := 1000000 }) (disch := first | exact Nat.le_of_ble_eq_true rfl | omega) only [AXS, AXB, J.dst, reduceIte, Nat.reduceEqDiff, Nat.reduceAdd, Nat.reduceMul, Nat.reduceLT, Nat.reduceLeDiff, f35r0, f35r1, f35r2, f35r3, f35r4, f35r5, f35r6, B4.rd, eLck])
  refine settle_ok c0 l0.by_ true _ O4.slc (by decide) (by intro c hc; cases hc with | head => decide | tail _ h => cases h) ?_
  rw [bg2]
  intro a5 n5 c5 h5 O5 e5
  refine ⟨trivial, ?_⟩
  try simp (config := { maxSteps := 1000000 }) (disch := first | exact Nat.le_of_ble_eq_true rfl | omega) only [AXS, AXB, J.dst, reduceIte, Nat.reduceEqDiff, Nat.reduceAdd, Nat.reduceMul, Nat.reduceLT, Nat.reduceLeDiff]
  have hn5 := OwnC.len O5
  subst hn5
  (try simp (config := { maxSteps := 1000000 }) (disch := first | exact Nat.le_of_ble_eq_true rfl | omega) only [AXS, AXB, J.dst, reduceIte, Nat.reduceEqDiff, Nat.reduceAdd, Nat.reduceMul, Nat.reduceLT, Nat.reduceLeDiff]); rw [f35c5_eq]; (try simp (config := { maxSteps := 1000000 }) (disch := first | exact Nat.le_of_ble_eq_true rfl | omega) only [AXS, AXB, J.dst, reduceIte, Nat.reduceEqDiff, Nat.reduceAdd, Nat.reduceMul, Nat.reduceLT, Nat.reduceLeDiff, f35r0, f35r1, f35r2, f35r3, f35r4, f35r5, f35r6])
  refine get_ok d0 kB ⟨5, 0⟩ _ O5.slc s1 (by decide) (by intro c hc; cases hc with | head => decide | tail _ h => cases h) ?_
  rw [bg4]
  intro h6 e6
  refine ⟨trivial, ?_⟩
  have O6 := O4.ext (e5.trans e6)
  have P6 := O5.ext e6
  have B6 := B4.ext (e5.trans e6)
  try simp (config := { maxSteps := 1000000 }) (disch := first | exact Nat.le_of_ble_eq_true rfl | omega) only [AXS, AXB, J.dst, reduceIte, Nat.reduceEqDiff, Nat.reduceAdd, Nat.reduceMul, Nat.reduceLT, Nat.reduceLeDiff]
  (try simp (config := { maxSteps := 1000000 }) (disch := first | exact Nat.le_of_ble_eq_true rfl | omega) only [AXS, AXB, J.dst, reduceIte, Nat.reduceEqDiff, Nat.reduceAdd, Nat.reduceMul, Nat.reduceLT, Nat.reduceLeDiff]); rw [f35c6_eq]; (try simp (config := { maxSteps := 1000000 }) (disch := first | exact Nat.le_of_ble_eq_true rfl | omega) only [AXS, AXB, J.dst, reduceIte, Nat.reduceEqDiff, Nat.reduceAdd, Nat.reduceMul, Nat.reduceLT, Nat.reduceLeDiff, f35r0, f35r1, f35r2, f35r3, f35r4, f35r5, f35r6])
  simp (config := { maxSteps := 1000000 }) (disch := first | exact Nat.le_of_ble_eq_true rfl | omega) only [AXJ, AXS, AXB, J.dst, reduceIte, Nat.reduceEqDiff, Nat.reduceAdd, Nat.reduceMul, Nat.reduceLT, Nat.reduceLeDiff, f35r6a, show (xB.toList == ByteArray.toList ⟨#[120]⟩) = true from by rw [keq_iff]; rfl]
  simp (config := { maxSteps := 1000000 }) (disch := first | exact Nat.le_of_ble_eq_true rfl | omega) only [AXJ, AXS, AXB, J.dst, reduceIte, Nat.reduceEqDiff, Nat.reduceAdd, Nat.reduceMul, Nat.reduceLT, Nat.reduceLeDiff, f35r6b, B6.rd, eLck]
  refine mine_ok c0 l0.by_ _ O6.slc (by decide) ?_
  rw [bg5]
  intro h7 e7
  refine ⟨trivial, ?_⟩
  simp (config := { maxSteps := 1000000 }) (disch := first | exact Nat.le_of_ble_eq_true rfl | omega) only [AXJ, AXS, AXB, J.dst, reduceIte, Nat.reduceEqDiff, Nat.reduceAdd, Nat.reduceMul, Nat.reduceLT, Nat.reduceLeDiff, f35r6c, (B6.ext e7).rd, eLck]
  refine mine_ok d0 l0.by_ _ (P6.ext e7).slc (by decide) ?_
  rw [bg6]
  intro h8 e8
  refine ⟨trivial, ?_⟩
  simp (config := { maxSteps := 1000000 }) (disch := first | exact Nat.le_of_ble_eq_true rfl | omega) only [AXJ, AXS, AXB, J.dst, reduceIte, Nat.reduceEqDiff, Nat.reduceAdd, Nat.reduceMul, Nat.reduceLT, Nat.reduceLeDiff, f35r6d]
  refine may_ok d0 _ (P6.ext (e7.trans e8)).slc (by decide) (by intro c hc; cases hc with | head => decide | tail _ h => cases h) ?_
  intro b hb h9 e9
  rw [hb.2 bg7]
  refine ⟨trivial, ?_⟩
  simp (config := { maxSteps := 1000000 }) (disch := first | exact Nat.le_of_ble_eq_true rfl | omega) only [AXJ, AXS, AXB, J.dst, reduceIte, Nat.reduceEqDiff, Nat.reduceAdd, Nat.reduceMul, Nat.reduceLT, Nat.reduceLeDiff, f35r6e]
  exact hR _ (e2.trans (e3.trans (e4.trans (e5.trans (e6.trans (e7.trans (e8.trans e9)))))))
end Go.Proofs.Ytefghfgmkndikaa
