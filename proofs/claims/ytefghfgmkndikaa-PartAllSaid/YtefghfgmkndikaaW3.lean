/-
  The walks and plain laws under the laws of one package: texts of mine put together, what they do not use left out (wip/tools/prune.py).
-/
import Derived.Test.YtefghfgmkndikaaW2
set_option linter.unusedSimpArgs false
set_option linter.unusedVariables false
open Nat renaming reduceEqDiff → Z1, reduceAdd → Z2, reduceMul → Z3, reduceLT → Z4, reduceLeDiff → Z5, le_of_ble_eq_true → Lb
namespace Go.AX
open Go
/-- The cell c lies as v, its versions in a row of the call's own. -/
structure OC (lo : Nat) (h : Heap) (v : CV) (c : Cell) : Prop where
 key : v.key = c.key
 locked : v.locked = c.locked
 lock : v.lock = c.lock
 vn : v.vn = c.vers.length
 vers : Own lo h 108 4 v.va v.vn v.vc (c.vers.flatMap eVer)
theorem OC.cr {lo : Nat} {h : Heap} {v : CV} {c : Cell} (r : OC lo h v c) : CR (fun b => lo ≤ b ∧ b < h.size ∧ ob v.va = some b) h v c := ⟨r.key,r.locked,r.lock,r.vn,r.vers.room.1,SlF.of_own r.vers r.vn⟩
theorem OC.ext {lo : Nat} {h h' : Heap} {v : CV} {c : Cell} (r : OC lo h v c) (x : Ext h h') : OC lo h' v c := ⟨r.key,r.locked,r.lock,r.vn,r.vers.ext x⟩
/-- A slice of cells in a row of the call's own, the versions' rows apart from it. -/
def OwnC (lo : Nat) (h : Heap) (a : Option Addr) (n c : Nat) (cs : List Cell) : Prop :=
 ∃ vs,Own lo h 103 12 a n c (vs.flatMap eCV) ∧ n = cs.length ∧ All2 (CR (fun b => lo ≤ b ∧ b < h.size ∧ some b ≠ ob a) h) vs cs
theorem OwnC.nil (lo : Nat) (h : Heap) : OwnC lo h none 0 0 [] := ⟨[],Own.nil _ _ _ _,rfl,.nil⟩
theorem SlF.to {α : Type} {B B' : Nat → Prop} {h h' : Heap} {e : α → List Value} {a : Option Addr} {ds : List α} (S : SlF B h e a ds) (H : ∀ b,B b → B' b ∧ h'[b]? = h[b]?) : SlF B' h' e a ds :=
 fun hn => let ⟨b,o,h1,h2,h3⟩ := S hn; ⟨b,o,h1,(H b h2).1,h3.at_ (H b h2).2⟩
theorem CR.to {B B' : Nat → Prop} {h h' : Heap} {v : CV} {c : Cell} (r : CR B h v c) (H : ∀ b,B b → B' b ∧ h'[b]? = h[b]?) : CR B' h' v c := ⟨r.key,r.locked,r.lock,r.vn,r.cap,r.vers.to H⟩
theorem OwnC.ext {lo : Nat} {h h' : Heap} {a : Option Addr} {n c : Nat} {cs : List Cell} (O : OwnC lo h a n c cs) (x : Ext h h') : OwnC lo h' a n c cs := by
 obtain ⟨vs,h1,h2,h3⟩ := O
 exact ⟨vs,h1.ext x,h2,h3.imp fun _ _ r => r.to fun b hb => ⟨⟨hb.1,Nat.lt_of_lt_of_le hb.2.1 x.size,hb.2.2⟩,x.at_ b hb.2.1⟩⟩
theorem OwnC.row {lo : Nat} {h : Heap} {a : Option Addr} {n c : Nat} {cs : List Cell} (O : OwnC lo h a n c cs) : ∀ k,ob a = some k → lo ≤ k ∧ k < h.size := by
 obtain ⟨vs,h1,_⟩ := O
 exact h1.ob
/-- As a slice of cells. -/
theorem OwnC.slc {lo : Nat} {h : Heap} {a : Option Addr} {n c : Nat} {cs : List Cell} (O : OwnC lo h a n c cs) : SlC (fun b => lo ≤ b ∧ b < h.size) h a cs := by
 obtain ⟨vs,h1,h2,h3⟩ := O
 exact ⟨vs,h3.imp fun _ _ r => r.imp fun b hb => ⟨hb.1,hb.2.1⟩,(SlF.of_own h1 (by rw [h2,h3.length])).imp fun b hb => ⟨hb.1,hb.2.1⟩⟩
/-- One more. -/
theorem OwnC.push {lo : Nat} {h h' : Heap} {a a' : Option Addr} {n c' : Nat} {cs : List Cell} {v : CV} {x : Cell} {vs : List CV} (h2 : n = cs.length) (h3 : All2 (CR (fun b => lo ≤ b ∧ b < h.size ∧ some b ≠ ob a) h) vs cs)
  (r : CR (fun b => lo ≤ b ∧ b < h.size ∧ some b ≠ ob a) h v x) (O : Own lo h' 103 12 a' (n + 1) c' (vs.flatMap eCV ++ eCV v)) (G : Gr (ob a) h h') (A : ob a' = ob a ∨ ∃ k,ob a' = some k ∧ h.size ≤ k) : OwnC lo h' a' (n + 1) c' (cs ++ [x]) := by
 have hto : ∀ b,(lo ≤ b ∧ b < h.size ∧ some b ≠ ob a) → (lo ≤ b ∧ b < h'.size ∧ some b ≠ ob a') ∧ h'[b]? = h[b]? := by
  rintro b ⟨b1,b2,b3⟩
  refine ⟨⟨b1,Nat.lt_of_lt_of_le b2 G.size,?_⟩,G.at_ b b2 b3⟩
  rcases A with e | ⟨k,e,hk⟩
  ·rw [e]; exact b3
  ·rw [e]; intro e'; cases e'; omega
 refine ⟨vs ++ [v],?_,by simp [h2],(h3.imp fun _ _ r => r.to hto).append (.cons (r.to hto) .nil)⟩
 rw [List.flatMap_append]
 simpa using O
end Go.AX
namespace Go.Proofs.Ytefghfgmkndikaa
open Go Go.AX
/-- Few enough. -/
def big : Nat := 1000000
/-- A cell is appended. -/
theorem raw_push {o : Oper} {σ : Env} {h : Heap} {K : Value → Heap → Prop} {x y : Operand} (ho : o.op = .call ⟨.builtin .append, #[x,y], #[74,74]⟩) {a : Option Addr} {n c lo b : Nat} {cs : List Cell} {v : CV} {z : Cell}
  (hx : evO σ x = some (.slice a n c)) (hy : evO σ y = some (sl b 0 1 1)) (O : OwnC lo h a n c cs) (B : Blk h b 103 (eCV v)) (r : CR (fun b => lo ≤ b ∧ b < h.size ∧ some b ≠ ob a) h v z) (hn : n < big) (hlo : lo ≤ h.size)
  (H : ∀ a' c' h',OwnC lo h' a' (n + 1) c' (cs ++ [z]) → Gr (ob a) h h' → (ob a' = ob a ∨ ∃ k,ob a' = some k ∧ h.size ≤ k) → K (.slice a' (n + 1) c') h') : RawW Try.prog o σ h K := by
 obtain ⟨vs,h1,h2,h3⟩ := O
 have hbig : big = 1000000 := rfl
 refine raw_append slT74 ho hx hy h1 (news := eCV v) (by rw [eCV_len]) (.inr ⟨b,0,rfl,B.row⟩) (eCV_one v) (by unfold maxLen; omega) (by omega) hlo ?_
 intro a' c' h' O' G A
 exact H a' c' h' (OwnC.push h2 h3 r O' G A) G A
theorem clone_ok {B : Nat → Prop} {a : Option Addr} {c : Nat} (vs : List Ver) (h : Heap) (S : SlF B h eVer a vs) (hn : vs.length ≤ big) {R : Value → Heap → Prop}
  (hR : ∀ a' c' h',Own h.size h' 108 4 a' vs.length c' (vs.flatMap eVer) → Ext h h' → R (.slice a' vs.length c') h') : CallsH Try.prog 114 [.slice a vs.length c] h R := by
 unfold big at hn
 refine f114ok (by simp) ?_
 simp (disch:=first|exact Lb rfl|omega) only [AXR,AXB,J.dst,reduceIte,Z1,Z2,Z3,Z4,Z5,f114r0,f114r1,f114r2,f114r3,f114c3_eq,f114c4_eq,f114c2_eq,f114c1_eq,f114c0_eq]
 cases a with
 | none =>
  have hv : vs = [] := by
   cases vs with
   | nil => rfl
   | cons v vs => obtain ⟨b,o,h1,_⟩ := S (by simp); cases h1
  subst hv
  rw [show eqN true false (.slice none ([] : List Ver).length c) (.slice none 0 0) = some (.bool true) from rfl]
  simp (disch:=first|exact Lb rfl|omega) only [AXR,AXB,J.dst,reduceIte,Z1,Z2,Z3,Z4,Z5,br_true]
  exact hR none 0 h (Own.nil _ _ _ _) (Ext.refl h)
 | some ad =>
  rw [show eqN true false (.slice (some ad) vs.length c) (.slice none 0 0) = some (.bool false) from rfl]
  simp (disch:=first|exact Lb rfl|omega) only [AXR,AXB,J.dst,reduceIte,Z1,Z2,Z3,Z4,Z5,br_false]
  refine wL_bslN rfl ?_; intro b1 h1 e1 s1 hb1 B1
  simp (disch:=first|exact Lb rfl|omega) only [AXR,AXB,J.dst,reduceIte,Z1,Z2,Z3,Z4,Z5]
  rw [wL_raw]
  have O1 : Own h.size h1 108 4 (some ⟨b1,0,none⟩) 0 0 [] := Own.of_blk (by omega) B1 (by simp) (Nat.le_refl _) (Nat.zero_le _) (by simp)
  have hfl := flatMap_length eVer_len vs
  refine raw_append slT101 rfl rfl rfl O1 hfl ?_ (one_flatMap eVer_one vs) (by unfold maxLen; omega) (by omega) e1.size ?_
  ·by_cases hv : vs = []
   ·left; rw [hv]; rfl
   ·obtain ⟨b,o,h1',_,h3⟩ := (S.ext e1) hv
    cases h1'
    exact .inr ⟨b,o,rfl,h3⟩
  ·intro a' c' h' O' G A
   refine ⟨trivial,?_⟩
   try simp (disch:=first|exact Lb rfl|omega) only [AXR,AXB,J.dst,reduceIte,Z1,Z2,Z3,Z4,Z5]
   simp only [Nat.zero_add,List.nil_append] at O' ⊢
   exact hR _ _ _ O' (G.ext e1 (fun k hk => by cases hk; show h.size ≤ b1; omega))
theorem own_ok {B : Nat → Prop} (x : CV) (c : Cell) (h : Heap) (S : CR B h x c) (hn : c.vers.length ≤ big) {R : Value → Heap → Prop}
  (hR : ∀ x' h',OC h.size h' x' c → Ext h h' → R (.agg (eCV x').toArray) h') : CallsH Try.prog 84 [.agg (eCV x).toArray] h R := by
 refine f84ok (by simp) ?_
 simp (disch:=first|exact Lb rfl|omega) only [AXR,AXB,J.dst,reduceIte,Z1,Z2,Z3,Z4,Z5,f84r0,f84r1,f84r2,f84c2_eq,f84c1_eq,f84c0_eq]
 refine wL_boxN rfl ?_; rintro b1 h1 e1 s1 hb1 (B1 : Blk _ _ _ (eCV x))
 refine wL_newN ?_; rintro b2 h2 e2 s2 hb2 B2
 have B1 := B1.ext e2
 simp (disch:=first|exact Lb rfl|omega) only [AXR,AXB,J.dst,reduceIte,Z1,Z2,Z3,Z4,Z5,f84r0,f84r1,f84r2,f84c2_eq,f84c1_eq,f84c0_eq,B1.cel,eCV,S.vn]
 refine clone_ok c.vers _ (S.vers.ext (e1.trans e2)) hn ?_
 intro a' c' h3 O3 e3
 try simp (disch:=first|exact Lb rfl|omega) only [AXR,AXB,J.dst,reduceIte,Z1,Z2,Z3,Z4,Z5,f84r0,f84r1,f84r2,f84c2_eq,f84c1_eq,f84c0_eq]
 replace B1 := B1.ext e3
 replace B2 := B2.ext e3
 have hl3 := O3.ob
 have e12 := e1.trans e2
 refine wL_stN rfl rfl rfl B1 (by rw [eCV_len]; exact Nat.le_of_ble_eq_true rfl) (fun v hv => by simp only [cells_slice,List.mem_toArray,List.mem_cons,List.not_mem_nil,or_false] at hv; subst hv; rfl) ?_
 rintro h4 u4 (B4 : Blk _ _ _ (eCV { x with va := a',vn := c.vers.length,vc := c' }))
 have B2 := u4.blk B2 (by omega)
 simp (disch:=first|exact Lb rfl|omega) only [AXR,AXB,J.dst,reduceIte,Z1,Z2,Z3,Z4,Z5,B4.rd,eCV]
 refine wL_stN rfl rfl rfl B2 (by decide) (eCV_one { x with va := a',vn := c.vers.length,vc := c' }) ?_
 rintro h5 u5 (B5 : Blk _ _ _ (eCV { x with va := a',vn := c.vers.length,vc := c' }))
 simp (disch:=first|exact Lb rfl|omega) only [AXR,AXB,J.dst,reduceIte,Z1,Z2,Z3,Z4,Z5,B5.rd,eCV]
 have hne : ∀ k,ob a' = some k → k ≠ b1 ∧ k ≠ b2 := fun k hk => by have := hl3 k hk; omega
 have e34 : Ext h h3 := e12.trans e3
 refine hR { x with va := a',vn := c.vers.length,vc := c' } h5 ⟨S.key,S.locked,S.lock,rfl,?_⟩ (u5.ext (u4.ext e34 (by omega)) (by omega))
 exact ((O3.mono e12.size).gr u4.gr (fun k hk => by have := (hne k hk).1; intro e; cases e; exact this rfl)).gr u5.gr (fun k hk => by have := (hne k hk).2; intro e; cases e; exact this rfl)
theorem all_ok {B : Nat → Prop} {a : Option Addr} {c : Nat} (cs : List Cell) (h : Heap) (S : SlC B h a cs) (hn : cs.length ≤ big) (F : ∀ c ∈ cs,c.vers.length ≤ big) {R : Value → Heap → Prop}
  (hR : ∀ a' c' h',OwnC h.size h' a' cs.length c' cs → Ext h h' → R (.slice a' cs.length c') h') : CallsH Try.prog 86 [.slice a cs.length c] h R := by
 have hbig : big = 1000000 := rfl
 refine f86ok (by simp) ?_
 simp (disch:=first|exact Lb rfl|omega) only [AXR,AXB,J.dst,reduceIte,Z1,Z2,Z3,Z4,Z5,f86r0,f86r1,f86r2,f86r3,f86r4,f86r5,f86r6,f86r7,f86c8_eq,f86c7_eq,f86c9_eq,f86c6_eq,f86c5_eq,f86c4_eq,f86c10_eq,f86c3_eq,f86c2_eq,f86c1_eq,f86c0_eq]
 refine loop_in (fun n σ h' => Ext h h' ∧ ∃ (k c' : Nat) (a' : Option Addr),k + n = cs.length ∧ OwnC h.size h' a' k c' (cs.take k) ∧ σ = [(3,.slice a' k c'),(6,.slice a cs.length c),(7,vi cs.length),(8,vi k)])
  cs.length ⟨Ext.refl _,0,0,none,by omega,OwnC.nil _ _,rfl⟩ ?_
 rintro n σ h' ⟨e1,k,c',a',hk,O,rfl⟩ Q' hnx hex hrt _
 simp (disch:=first|exact Lb rfl|omega) only [AXR,AXB,J.dst,reduceIte,Z1,Z2,Z3,Z4,Z5,f86r0,f86r1,f86r2,f86r3,f86r4,f86r5,f86r6,f86r7,f86c8_eq,f86c7_eq,f86c9_eq,f86c6_eq,f86c5_eq,f86c4_eq,f86c10_eq,f86c3_eq,f86c2_eq,f86c1_eq,f86c0_eq]
 refine ⟨fun h2 => ?_,fun h2 => ?_⟩
 ·have hkl : k < cs.length := by have := of_decide_eq_true h2; omega
  obtain ⟨x,hx⟩ := get_ex hkl
  obtain ⟨b,o,v,rfl,_,hrow,hcr⟩ := (S.ext e1).elem hx
  simp (disch:=first|exact Lb rfl|omega) only [AXR,AXB,J.dst,reduceIte,Z1,Z2,Z3,Z4,Z5,f86r0,f86r1,f86r2,f86r3,f86r4,f86r5,f86r6,f86r7,f86c8_eq,f86c7_eq,f86c9_eq,f86c6_eq,f86c5_eq,f86c4_eq,f86c10_eq,f86c3_eq,f86c2_eq,f86c1_eq,f86c0_eq,row_cv hrow]
  refine ⟨by omega,by omega,?_⟩
  refine wL_newN ?_; rintro b4 h4 e4 s4 hb4 B4
  refine wL_stN rfl rfl rfl B4 (by decide) (eCV_one v) ?_; rintro h5 u5 (B5 : Blk _ _ _ (eCV v))
  have e5 := u5.ext e4 (by omega)
  simp (disch:=first|exact Lb rfl|omega) only [AXR,AXB,J.dst,reduceIte,Z1,Z2,Z3,Z4,Z5,f86r0,f86r1,f86r2,f86r3,f86r4,f86r5,f86r6,f86r7,f86c8_eq,f86c7_eq,f86c9_eq,f86c6_eq,f86c5_eq,f86c4_eq,f86c10_eq,f86c3_eq,f86c2_eq,f86c1_eq,f86c0_eq,B5.rd,eCV]
  refine own_ok v x _ (hcr.ext e5) (F x (List.mem_of_getElem? hx)) ?_
  intro x' h6 O6 e6
  refine ⟨trivial,?_⟩
  try simp (disch:=first|exact Lb rfl|omega) only [AXR,AXB,J.dst,reduceIte,Z1,Z2,Z3,Z4,Z5,f86r0,f86r1,f86r2,f86r3,f86r4,f86r5,f86r6,f86r7,f86c8_eq,f86c7_eq,f86c9_eq,f86c6_eq,f86c5_eq,f86c4_eq,f86c10_eq,f86c3_eq,f86c2_eq,f86c1_eq,f86c0_eq]
  generalize hh7 : h6.push (Obj.cells _ 103) = h7
  have e7 : Ext h6 h7 := hh7 ▸ (Ext.refl h6).push _
  have B7 : Blk h7 h6.size 103 (eCV x') := hh7 ▸ Blk.new h6 103 _
  have e57 := e6.trans e7
  have ea := e5.trans e57
  have O7 := O.ext ea
  have hO := O.row
  rw [wL_raw]
  refine raw_push rfl rfl rfl O7 B7 ((O6.ext e7).cr.to fun b hb => ⟨⟨?_,hb.2.1,?_⟩,rfl⟩) (by omega) (Nat.le_trans e1.size ea.size) ?_
  ·have := e1.size; have := e5.size; omega
  ·intro e; have := hO b e.symm; have := e5.size; omega
  intro a8 c8 h8 O8 G8 A8
  refine ⟨trivial,?_⟩
  simp (disch:=first|exact Lb rfl|omega) only [AXR,AXB,J.dst,reduceIte,Z1,Z2,Z3,Z4,Z5]
  rw [i64_wrap (by omega) (by omega)]
  refine hnx (n - 1) _ _ (by omega) ⟨G8.ext (e1.trans ea) (fun j hj => (hO j hj).1),k + 1,c8,a8,by omega,?_,rfl⟩
  rw [List.take_add_one,hx]
  exact O8
 ·have hkl : k = cs.length := by have := of_decide_eq_false h2; omega
  subst hkl
  refine hex _ _ ?_
  simp (disch:=first|exact Lb rfl|omega) only [AXR,AXB,J.dst,reduceIte,Z1,Z2,Z3,Z4,Z5]
  rw [List.take_length] at O
  exact hR _ _ _ O e1
end Go.Proofs.Ytefghfgmkndikaa
namespace Go.Proofs.Ytefghfgmkndikaa
open Go Go.AX
theorem one_sl (a : Option Addr) (n c : Nat) : ∀ v ∈ (Value.slice a n c).cells.toList,v.oneCell' = true := by
 intro v hv; simp only [cells_slice,List.mem_cons,List.not_mem_nil,or_false] at hv; subst hv; rfl
theorem copy_ok {B : Nat → Prop} {a : Option Addr} {c : Nat} (cs : List Cell) (h : Heap) (S : SlC B h a cs) (hn : cs.length ≤ big) (F : ∀ c ∈ cs,c.vers.length ≤ big) {R : Value → Heap → Prop}
  (hR : ∀ a' c' h',OwnC h.size h' a' cs.length c' cs → Ext h h' → R (.slice a' cs.length c') h') : CallsH Try.prog 48 [.slice a cs.length c] h R := by
 have hbig : big = 1000000 := rfl
 refine f48ok (by simp) ?_
 (try simp (disch:=first|exact Lb rfl|omega) only [AXR,AXB,J.dst,reduceIte,Z1,Z2,Z3,Z4,Z5]); rw [f48c0_eq]; (try simp (disch:=first|exact Lb rfl|omega) only [AXR,AXB,J.dst,reduceIte,Z1,Z2,Z3,Z4,Z5,f48r0]); rw [f48c1_eq]; (try simp (disch:=first|exact Lb rfl|omega) only [AXR,AXB,J.dst,reduceIte,Z1,Z2,Z3,Z4,Z5,f48r1]); rw [f48c2_eq]; (try simp (disch:=first|exact Lb rfl|omega) only [AXR,AXB,J.dst,reduceIte,Z1,Z2,Z3,Z4,Z5,f48r2])
 rw [f48c3_eq]
 refine loop_in (fun n σ h' => Ext h h' ∧ ∃ (k c' : Nat) (a' : Option Addr),k + n = cs.length ∧ OwnC h.size h' a' k c' (cs.take k) ∧ σ = [(0,.slice a cs.length c),(3,.slice a' k c'),(4,vi k)])
  cs.length ⟨Ext.refl _,0,0,none,by omega,OwnC.nil _ _,rfl⟩ ?_
 rintro n σ h' ⟨e1,k,c',a',hk,O,rfl⟩ Q' hnx hex hrt _
 (try simp (disch:=first|exact Lb rfl|omega) only [AXR,AXB,J.dst,reduceIte,Z1,Z2,Z3,Z4,Z5]); rw [f48c4_eq]; (try simp (disch:=first|exact Lb rfl|omega) only [AXR,AXB,J.dst,reduceIte,Z1,Z2,Z3,Z4,Z5,f48r3]); rw [f48c5_eq]; (try simp (disch:=first|exact Lb rfl|omega) only [AXR,AXB,J.dst,reduceIte,Z1,Z2,Z3,Z4,Z5])
 refine ⟨fun h2 => ?_,fun h2 => ?_⟩
 ·have hkl : k < cs.length := by have := of_decide_eq_true h2; omega
  obtain ⟨x,hx⟩ := get_ex hkl
  obtain ⟨b,o,v,rfl,_,hrow,hcr⟩ := (S.ext e1).elem hx
  rw [f48c6_eq]
  (try simp (disch:=first|exact Lb rfl|omega) only [AXR,AXB,J.dst,reduceIte,Z1,Z2,Z3,Z4,Z5]); rw [f48c7_eq]; (try simp (disch:=first|exact Lb rfl|omega) only [AXR,AXB,J.dst,reduceIte,Z1,Z2,Z3,Z4,Z5,f48r4,row_cv hrow])
  refine ⟨by omega,by omega,?_⟩
  refine wL_newN ?_; rintro b4 h4 e4 s4 hb4 B4
  refine wL_stN rfl rfl rfl B4 (by decide) (eCV_one v) ?_; rintro h5 u5 (B5 : Blk _ _ _ (eCV v))
  have e5 := u5.ext e4 (by omega)
  (try simp (disch:=first|exact Lb rfl|omega) only [AXR,AXB,J.dst,reduceIte,Z1,Z2,Z3,Z4,Z5]); rw [f48c8_eq]; (try simp (disch:=first|exact Lb rfl|omega) only [AXR,AXB,J.dst,reduceIte,Z1,Z2,Z3,Z4,Z5,f48r5])
  refine wL_bslN rfl ?_; intro b6 h6 e6 s6 hb6 B6
  have B5 := B5.ext e6
  simp (disch:=first|exact Lb rfl|omega) only [AXR,AXB,J.dst,reduceIte,Z1,Z2,Z3,Z4,Z5,B5.cel,eCV,hcr.vn]
  rw [wL_raw]
  have O6 : Own h5.size h6 108 4 (some ⟨b6,0,none⟩) 0 0 [] := Own.of_blk (by omega) B6 (by simp) (Nat.le_refl _) (Nat.zero_le _) (by simp)
  have hfl := flatMap_length eVer_len x.vers
  have hxn := F x (List.mem_of_getElem? hx)
  refine raw_append slT101 rfl rfl rfl O6 hfl ?_ (one_flatMap eVer_one x.vers) (by unfold maxLen; omega) (by omega) e6.size ?_
  ·by_cases hv : x.vers = []
   ·left; rw [hv]; rfl
   ·obtain ⟨b',o',h1',_,h3⟩ := (hcr.vers.ext (e5.trans e6)) hv
    exact .inr ⟨b',o',h1',h3⟩
  intro a7 c7 h7 O7 G7 A7
  have e7 : Ext h5 h7 := G7.ext e6 (fun k hk => by cases hk; show h5.size ≤ b6; omega)
  refine ⟨trivial,?_⟩
  simp only [Nat.zero_add,List.nil_append] at O7 ⊢
  try simp (disch:=first|exact Lb rfl|omega) only [AXR,AXB,J.dst,reduceIte,Z1,Z2,Z3,Z4,Z5]
  have hb7 := O7.ob
  have hs5 : b4 < h5.size := by have := u5.size; omega
  have B7 := G7.blk B5 (by intro e; have : b4 = b6 := by cases e; rfl
                           omega)
  refine wL_stN rfl rfl rfl B7 (by rw [eCV_len]; exact Nat.le_of_ble_eq_true rfl) (one_sl _ _ _) ?_
  rintro h8 u8 (B8 : Blk _ _ _ (eCV { v with va := a7,vn := x.vers.length,vc := c7 }))
  try simp (disch:=first|exact Lb rfl|omega) only [AXR,AXB,J.dst,reduceIte,Z1,Z2,Z3,Z4,Z5]
  (try simp (disch:=first|exact Lb rfl|omega) only [AXR,AXB,J.dst,reduceIte,Z1,Z2,Z3,Z4,Z5]); rw [f48c9_eq]; (try simp (disch:=first|exact Lb rfl|omega) only [AXR,AXB,J.dst,reduceIte,Z1,Z2,Z3,Z4,Z5,f48r6,B8.rd,eCV])
  refine wL_bslN rfl ?_; rintro b9 h9 e9 s9 hb9 (B9 : Blk _ _ _ (eCV { v with va := a7,vn := x.vers.length,vc := c7 }))
  try simp (disch:=first|exact Lb rfl|omega) only [AXR,AXB,J.dst,reduceIte,Z1,Z2,Z3,Z4,Z5]
  rw [wL_raw]
  have hO := O.row
  have e8 : Ext h' h8 := u8.ext (e5.trans e7) (by omega)
  have e59 : Ext h' h9 := e8.trans e9
  have O9 := (O7.gr u8.gr (fun j hj => by have := hb7 j hj; intro e; cases e; omega)).ext e9
  have O79 := O.ext e59
  have hz := e1.size
  have hz9 := e59.size
  have hz5 := e5.size
  have r9 : OC h5.size h9 { v with va := a7,vn := x.vers.length,vc := c7 } x := ⟨hcr.key,hcr.locked,hcr.lock,rfl,O9⟩
  refine raw_push rfl rfl rfl O79 B9 (r9.cr.to fun b hb => ⟨⟨?_,hb.2.1,?_⟩,rfl⟩) (by omega) (by omega) ?_
  ·omega
  ·intro e; have := hO b e.symm; omega
  intro a8 c8 h10 O10 G10 A10
  refine ⟨trivial,?_⟩
  try simp (disch:=first|exact Lb rfl|omega) only [AXR,AXB,J.dst,reduceIte,Z1,Z2,Z3,Z4,Z5]
  (try simp (disch:=first|exact Lb rfl|omega) only [AXR,AXB,J.dst,reduceIte,Z1,Z2,Z3,Z4,Z5]); rw [f48c10_eq]; (try simp (disch:=first|exact Lb rfl|omega) only [AXR,AXB,J.dst,reduceIte,Z1,Z2,Z3,Z4,Z5,f48r7])
  rw [i64_wrap (by omega) (by omega)]
  refine hnx (n - 1) _ _ (by omega) ⟨G10.ext (e1.trans e59) (fun j hj => (hO j hj).1),k + 1,c8,a8,by omega,?_,rfl⟩
  rw [List.take_add_one,hx]
  exact O10
 ·have hkl : k = cs.length := by have := of_decide_eq_false h2; omega
  subst hkl
  refine hex _ _ ?_
  (try simp (disch:=first|exact Lb rfl|omega) only [AXR,AXB,J.dst,reduceIte,Z1,Z2,Z3,Z4,Z5]); rw [f48c11_eq]; (try simp (disch:=first|exact Lb rfl|omega) only [AXR,AXB,J.dst,reduceIte,Z1,Z2,Z3,Z4,Z5,f48r8])
  rw [List.take_length] at O
  exact hR _ _ _ O e1
end Go.Proofs.Ytefghfgmkndikaa
namespace Go.AX
open Go
deriving instance DecidableEq for Lck,Pai,Ver
theorem eqA_stampB (neg : Bool) (s t : Stamp) : eqA neg [.i .i64,.i .i64] (.agg #[vi s.wall,vi s.tie]) (.agg #[vi t.wall,vi t.tie]) = some (.bool (if neg then !decide (s = t) else decide (s = t))) := by
 obtain ⟨a,b⟩ := s
 obtain ⟨c,d⟩ := t
 have : (a == c && b == d) = decide ((⟨a,b⟩ : Stamp) = ⟨c,d⟩) := by
  rw [Bool.eq_iff_iff]; simp
 simp only [eqA,eqKds,eqKd,and_self,if_true,Option.bind_some,Option.map_some,Bool.and_true,this]
theorem eqA_tryB (neg : Bool) (s t : Try4) : eqA neg [.i .i64,.i .i64,.i .i64,.i .i64] (.agg #[vi s.node,vi s.life,vi s.seq,vi s.attempt]) (.agg #[vi t.node,vi t.life,vi t.seq,vi t.attempt]) = some (.bool (if neg then !decide (s = t) else decide (s = t))) := by
 obtain ⟨a,b,c,d⟩ := s
 obtain ⟨e,f,g,i⟩ := t
 have : (a == e && (b == f && (c == g && d == i))) = decide ((⟨a,b,c,d⟩ : Try4) = ⟨e,f,g,i⟩) := by
  rw [Bool.eq_iff_iff]; simp
 simp only [eqA,eqKds,eqKd,and_self,if_true,Option.bind_some,Option.map_some,Bool.and_true,this]
theorem eqA_stamp (s t : Stamp) : eqA false [.i .i64,.i .i64] (.agg #[vi s.wall,vi s.tie]) (.agg #[vi t.wall,vi t.tie]) = some (.bool (decide (s = t))) := eqA_stampB false s t
theorem eqA_stampN (s t : Stamp) : eqA true [.i .i64,.i .i64] (.agg #[vi s.wall,vi s.tie]) (.agg #[vi t.wall,vi t.tie]) = some (.bool (!decide (s = t))) := eqA_stampB true s t
theorem eqA_try (s t : Try4) : eqA false [.i .i64,.i .i64,.i .i64,.i .i64] (.agg #[vi s.node,vi s.life,vi s.seq,vi s.attempt]) (.agg #[vi t.node,vi t.life,vi t.seq,vi t.attempt]) = some (.bool (decide (s = t))) := eqA_tryB false s t
theorem eqA_tryN (s t : Try4) : eqA true [.i .i64,.i .i64,.i .i64,.i .i64] (.agg #[vi s.node,vi s.life,vi s.seq,vi s.attempt]) (.agg #[vi t.node,vi t.life,vi t.seq,vi t.attempt]) = some (.bool (!decide (s = t))) := eqA_tryB true s t
/-- A version in its place. -/
def putV (vs : List Ver) (v : Ver) : List Ver :=
 if 0 ≤ lastV vs v.at_ ∧ (vs.getD (lastV vs v.at_).toNat default).at_ = v.at_ then vs.set (lastV vs v.at_).toNat v
 else vs.take (lastV vs v.at_ + 1).toNat ++ [v] ++ vs.drop (lastV vs v.at_ + 1).toNat
theorem flatMap_take {α : Type} {e : α → List Value} {s : Nat} (he : ∀ x,(e x).length = s) : ∀ (ds : List α) (i : Nat),(ds.flatMap e).take (i * s) = (ds.take i).flatMap e
 | [],i => by simp
 | d :: ds,0 => by simp
 | d :: ds,i + 1 => by
  have e1 : (i + 1) * s = (e d).length + i * s := by rw [he,Nat.add_mul]; omega
  simp only [List.flatMap_cons,List.take_succ_cons]
  rw [e1,List.take_length_add_append,flatMap_take he ds i]
theorem flatMap_drop {α : Type} {e : α → List Value} {s : Nat} (he : ∀ x,(e x).length = s) : ∀ (ds : List α) (i : Nat),(ds.flatMap e).drop (i * s) = (ds.drop i).flatMap e
 | [],i => by simp
 | d :: ds,0 => by simp
 | d :: ds,i + 1 => by
  have e1 : (i + 1) * s = (e d).length + i * s := by rw [he,Nat.add_mul]; omega
  simp only [List.flatMap_cons,List.drop_succ_cons]
  rw [e1,List.drop_length_add_append,flatMap_drop he ds i]
theorem putL_take : ∀ (vs l : List Value) (o m : Nat),o + vs.length ≤ m → (putL l o vs).take m = putL (l.take m) o vs
 | [],_,_,_,_ => rfl
 | v :: vs,l,o,m,h => by
  simp only [List.length_cons] at h
  simp only [putL]
  rw [putL_take vs _ _ _ (by omega),List.take_set]
theorem putL_append_left : ∀ (vs l m : List Value) (o : Nat),o + vs.length ≤ l.length → putL (l ++ m) o vs = putL l o vs ++ m
 | [],_,_,_,_ => rfl
 | v :: vs,l,m,o,h => by
  simp only [List.length_cons] at h
  simp only [putL]
  rw [List.set_append_left _ _ (by omega),putL_append_left vs _ _ _ (by rw [List.length_set]; omega)]
theorem putL_append_right : ∀ (vs l m : List Value) (o : Nat),putL (l ++ m) (l.length + o) vs = l ++ putL m o vs
 | [],_,_,_ => rfl
 | v :: vs,l,m,o => by
  simp only [putL]
  rw [List.set_append_right _ _ (by omega),Nat.add_sub_cancel_left,Nat.add_assoc,putL_append_right vs]
theorem flat_put {α : Type} {e : α → List Value} {s : Nat} (he : ∀ x,(e x).length = s) {vals : List Value} {off : Nat} {v v' : α} (hv : e v' = putL (e v) off vals) (hs : off + vals.length ≤ s) :
  ∀ (ds : List α) (i : Nat),ds[i]? = some v → putL (ds.flatMap e) (i * s + off) vals = (ds.set i v').flatMap e
 | [],i,h => by simp at h
 | d :: ds,0,h => by
  simp at h; subst h
  simp only [List.flatMap_cons,List.set_cons_zero,Nat.zero_mul,Nat.zero_add]
  rw [putL_append_left _ _ _ _ (by rw [he]; exact hs),hv]
 | d :: ds,i + 1,h => by
  have e1 : (i + 1) * s + off = (e d).length + (i * s + off) := by rw [he,Nat.add_mul]; omega
  simp only [List.flatMap_cons,List.set_cons_succ]
  rw [e1,putL_append_right,flat_put he hv hs ds i (by simpa using h)]
theorem putL_all : ∀ (vs l : List Value),l.length = vs.length → putL l 0 vs = vs := by
 have key : ∀ (vs l p : List Value),l.length = vs.length → putL (p ++ l) p.length vs = p ++ vs := by
  intro vs
  induction vs with
  | nil => intro l p h; have : l = [] := List.eq_nil_of_length_eq_zero h
           subst this; rfl
  | cons v vs ih =>
   intro l p h
   cases l with
   | nil => simp at h
   | cons x l =>
    simp only [putL]
    rw [List.set_append_right _ _ (Nat.le_refl _),Nat.sub_self,List.set_cons_zero]
    have := ih l (p ++ [v]) (by simpa using h)
    simpa using this
 intro vs l h
 simpa using key vs l [] h
/-- An element of an own row is written anew, wholly or in part. -/
theorem Own.put {α : Type} {e : α → List Value} {s t lo : Nat} (he : ∀ x,(e x).length = s) {h h' : Heap} {a : Option Addr} {n c b : Nat} {ds : List α} {vals cur : List Value} {off i : Nat} {v v' : α}
  (O : Own lo h t s a n c (ds.flatMap e)) (hn : n = ds.length) (hi : ds[i]? = some v) (ha : AX.ob a = some b) (hcur : Blk h b t cur) (B' : Blk h' b t (putL cur (i * s + off) vals)) (hv : e v' = putL (e v) off vals) (hs : off + vals.length ≤ s) :
  Own lo h' t s a n c ((ds.set i v').flatMap e) := by
 have hil : i < ds.length := (List.getElem?_eq_some_iff.1 hi).1
 obtain ⟨hr1,hr2⟩ := O.room
 obtain ⟨g,cur',rfl,hg,G,hcl,hct⟩ := O.blk (by omega)
 cases ha
 have : cur = cur' := by
  unfold Blk at hcur G
  rw [hcur] at G
  simpa using G
 subst this
 have hle : i * s + s ≤ n * s := by rw [← Nat.succ_mul]; exact Nat.mul_le_mul_right _ (by omega)
 refine Own.of_blk hg B' (by rw [putL_length]; exact hcl) hr1 hr2 ?_
 rw [putL_take _ _ _ _ (by omega),hct,flat_put he hv hs ds i hi]
end Go.AX
namespace Go.Proofs.Ytefghfgmkndikaa
open Go Go.AX
theorem put_ok {lo : Nat} {a : Option Addr} {n c : Nat} (vs : List Ver) (v : Ver) (h : Heap) (O : Own lo h 108 4 a n c (vs.flatMap eVer)) (hnl : n = vs.length) (hn : vs.length ≤ big) (hlo : lo ≤ h.size) {R : Value → Heap → Prop}
  (hR : ∀ a' n' c' h',Own lo h' 108 4 a' n' c' ((putV vs v).flatMap eVer) → n' = (putV vs v).length → Gr (ob a) h h' → (ob a' = ob a ∨ ∃ k,ob a' = some k ∧ h.size ≤ k) → R (.slice a' n' c') h') :
  CallsH Try.prog 85 [.slice a n c,.agg (eVer v).toArray] h R := by
 have hbig : big = 1000000 := rfl
 subst hnl
 refine f85ok (by simp) ?_
 (try simp (disch:=first|exact Lb rfl|omega) only [AXR,AXB,J.dst,reduceIte,Z1,Z2,Z3,Z4,Z5]); rw [f85c0_eq]; (try simp (disch:=first|exact Lb rfl|omega) only [AXR,AXB,J.dst,reduceIte,Z1,Z2,Z3,Z4,Z5,f85r0])
 refine wL_boxN rfl ?_; rintro b1 h1 e1 s1 hb1 (B1 : Blk _ _ _ (eVer v))
 (try simp (disch:=first|exact Lb rfl|omega) only [AXR,AXB,J.dst,reduceIte,Z1,Z2,Z3,Z4,Z5]); rw [f85c1_eq]; (try simp (disch:=first|exact Lb rfl|omega) only [AXR,AXB,J.dst,reduceIte,Z1,Z2,Z3,Z4,Z5,f85r1,B1.rd,eVer])
 have O1 := O.ext e1
 refine last_ok vs v.at_ _ (SlF.of_own O1 rfl) (by unfold maxLen; omega) ?_
 intro h2 e2
 have O2 := O1.ext e2
 have B2 := B1.ext e2
 have hlv := lastV_le vs v.at_
 have hob := O.ob
 have e12 := e1.trans e2
 have hins : ¬ (0 ≤ lastV vs v.at_ ∧ (vs.getD (lastV vs v.at_).toNat default).at_ = v.at_) →
   wC Try.prog f85c3 (endW [Rs.tmp 4] R) [(0,.slice a vs.length c),(3,ptr b1 0),(5,vi (lastV vs v.at_)),(21,.bool false)] h2 := by
  intro hno
  obtain ⟨i,hi⟩ : ∃ i : Nat,lastV vs v.at_ + 1 = i := ⟨(lastV vs v.at_ + 1).toNat,by omega⟩
  have hp : putV vs v = vs.take i ++ [v] ++ vs.drop i := by
   unfold putV; rw [if_neg hno,hi]; rfl
  (try simp (disch:=first|exact Lb rfl|omega) only [AXR,AXB,J.dst,reduceIte,Z1,Z2,Z3,Z4,Z5]); rw [f85c3_eq]; (try simp (disch:=first|exact Lb rfl|omega) only [AXR,AXB,J.dst,reduceIte,Z1,Z2,Z3,Z4,Z5,B2.rd,eVer]); rw [f85c6_eq]; (try simp (disch:=first|exact Lb rfl|omega) only [AXR,AXB,J.dst,reduceIte,Z1,Z2,Z3,Z4,Z5,f85r5,B2.rd,eVer])
  rw [i64_wrap (by omega) (by omega),hi]
  refine wL_bslN rfl ?_; rintro b3 h3 e3 s3 hb3 (B3 : Blk _ _ _ (eVer v))
  simp (disch:=first|exact Lb rfl|omega) only [AXR,AXB,J.dst,reduceIte,Z1,Z2,Z3,Z4,Z5]
  have O3 := O2.ext e3
  have e13 := e12.trans e3
  have hz := e13.size
  refine insV_ok _ O3 (by omega) (by omega) (by omega) B3 rfl (one_flatMap eVer_one vs) (eVer_one v) (.inr (fun e => by have := hob b3 e.symm; have := e12.size; omega)) (by unfold maxLen; omega) ?_
  intro a' c' h' O' G' A'
  try simp (disch:=first|exact Lb rfl|omega) only [AXR,AXB,J.dst,reduceIte,Z1,Z2,Z3,Z4,Z5]
  rw [flatMap_take eVer_len,flatMap_drop eVer_len] at O'
  refine hR a' (vs.length + 1) c' h' ?_ ?_ ?_ ?_
  ·rw [hp,List.flatMap_append,List.flatMap_append]; simpa using O'
  ·rw [hp]; simp; omega
  ·exact ((e13.gr _)).trans G'
  ·rcases A' with e | ⟨k,e,hk⟩
   ·exact .inl e
   ·exact .inr ⟨k,e,by omega⟩
 rw [f85c2_eq]
 refine drw_lt ?_
 simp (disch:=first|exact Lb rfl|omega) only [AXR,AXB,J.dst,reduceIte,Z1,Z2,Z3,Z4,Z5,f85r2]
 by_cases hpos : 0 ≤ lastV vs v.at_
 ·obtain ⟨k,hk⟩ : ∃ k : Nat,lastV vs v.at_ = k := ⟨(lastV vs v.at_).toNat,by omega⟩
  rw [hk] at hins hlv ⊢
  obtain ⟨u,hu⟩ := get_ex (show k < vs.length by omega)
  obtain ⟨b,o,ha,_,hrow⟩ := (SlF.of_own O2 rfl).elem eVer_len hu
  rw [decide_eq_true (by omega),br_true]
  simp (disch:=first|exact Lb rfl|omega) only [AXR,AXB,J.dst,reduceIte,Z1,Z2,Z3,Z4,Z5,ha,row_ver hrow,B2.rd,eVer,eStamp,eqA_stamp]
  refine ⟨by omega,by omega,hrow.lt (by rw [eVer_len]; omega),B2.lt,?_⟩
  rw [ha] at hins
  by_cases heq : u.at_ = v.at_
  ·rw [decide_eq_true heq]
   have hp : putV vs v = vs.set k v := by
    unfold putV; rw [hk,if_pos ⟨by omega,by rw [Int.toNat_natCast,getD_of hu]; exact heq⟩]; rfl
   obtain ⟨hr1,hr2⟩ := O2.room
   obtain ⟨g,cur,ha',hg,G,hcl,hct⟩ := O2.blk (by omega)
   rw [ha] at ha'
   cases ha'
   (try simp (disch:=first|exact Lb rfl|omega) only [AXR,AXB,J.dst,reduceIte,Z1,Z2,Z3,Z4,Z5]); rw [f85c3_eq]; (try simp (disch:=first|exact Lb rfl|omega) only [AXR,AXB,J.dst,reduceIte,Z1,Z2,Z3,Z4,Z5,br_true])
   (try simp (disch:=first|exact Lb rfl|omega) only [AXR,AXB,J.dst,reduceIte,Z1,Z2,Z3,Z4,Z5]); rw [f85c4_eq]; (try simp (disch:=first|exact Lb rfl|omega) only [AXR,AXB,J.dst,reduceIte,Z1,Z2,Z3,Z4,Z5,f85r3,B2.rd,eVer])
   refine ⟨by omega,by omega,?_⟩
   refine wL_stN rfl rfl rfl G (by rw [hcl]; omega) (eVer_one v) ?_
   intro h3 u3 B3
   try simp (disch:=first|exact Lb rfl|omega) only [AXR,AXB,J.dst,reduceIte,Z1,Z2,Z3,Z4,Z5]
   (try simp (disch:=first|exact Lb rfl|omega) only [AXR,AXB,J.dst,reduceIte,Z1,Z2,Z3,Z4,Z5]); rw [f85c5_eq]; (try simp (disch:=first|exact Lb rfl|omega) only [AXR,AXB,J.dst,reduceIte,Z1,Z2,Z3,Z4,Z5,f85r4])
   refine hR (some ⟨b,0,none⟩) vs.length c h3 ?_ (by rw [hp]; simp) ((e12.gr _).trans ?_) (.inl (by rw [ha]))
   ·rw [hp,← ha]
    exact O2.put eVer_len (off := 0) (vals := eVer v) rfl hu (by rw [ha]; rfl) G (by rw [Nat.zero_add] at B3; exact B3) (putL_all _ _ rfl).symm (by rw [eVer_len]; omega)
   ·rw [ha]; exact u3.gr
  ·rw [decide_eq_false heq]
   exact hins (fun h => heq (by have := h.2; rwa [Int.toNat_natCast,getD_of hu] at this))
 ·rw [decide_eq_false (by omega),br_false]
  exact hins (fun h => hpos h.1)
end Go.Proofs.Ytefghfgmkndikaa
namespace Go.AX
open Go
/-- The lock that is laid. -/
def lkW (w : Wri) (l : Lck) : Lck := { l with drop := w.drop,data := if w.drop then noB else w.data }
def lockL (cs : List Cell) (w : Wri) (l : Lck) : List Cell :=
 if hasK cs w.key then cs.set (lbK cs w.key) { cs.getD (lbK cs w.key) default with locked := true,lock := lkW w l }
 else cs.take (lbK cs w.key) ++ [⟨w.key,[],true,lkW w l⟩] ++ cs.drop (lbK cs w.key)
theorem All2.set {α β : Type} {R : α → β → Prop} : ∀ {l : List α} {m : List β} {i : Nat} {a : α} {b : β},All2 R l m → R a b → All2 R (l.set i a) (m.set i b)
 | _,_,_,_,_,.nil,_ => .nil
 | _,_,0,_,_,.cons _ t,h => .cons h t
 | _,_,i + 1,_,_,.cons r t,h => .cons r (t.set h)
theorem All2.take {α β : Type} {R : α → β → Prop} : ∀ {l : List α} {m : List β} (i : Nat),All2 R l m → All2 R (l.take i) (m.take i)
 | _,_,0,_ => by simp only [List.take_zero]; exact .nil
 | _,_,i + 1,.nil => by simp only [List.take_nil]; exact .nil
 | _,_,i + 1,.cons r t => .cons r (t.take i)
theorem All2.drop {α β : Type} {R : α → β → Prop} : ∀ {l : List α} {m : List β} (i : Nat),All2 R l m → All2 R (l.drop i) (m.drop i)
 | _,_,0,t => t
 | _,_,i + 1,.nil => .nil
 | _,_,i + 1,.cons _ t => t.drop i
theorem cellTo {lo : Nat} {h h' : Heap} {a a' : Option Addr} (G : Gr (ob a) h h') (A : ob a' = ob a ∨ ∃ k,ob a' = some k ∧ h.size ≤ k) :
  ∀ b,(lo ≤ b ∧ b < h.size ∧ some b ≠ ob a) → (lo ≤ b ∧ b < h'.size ∧ some b ≠ ob a') ∧ h'[b]? = h[b]? := by
 rintro b ⟨b1,b2,b3⟩
 refine ⟨⟨b1,Nat.lt_of_lt_of_le b2 G.size,?_⟩,G.at_ b b2 b3⟩
 rcases A with e | ⟨k,e,hk⟩
 ·rw [e]; exact b3
 ·rw [e]; intro e'; cases e'; omega
end Go.AX
namespace Go.Proofs.Ytefghfgmkndikaa
open Go Go.AX
theorem one_lck (l : Lck) : ∀ v ∈ eLck l,v.oneCell' = true := by
 intro v hv; simp only [eLck,List.mem_cons,List.not_mem_nil,or_false] at hv
 rcases hv with rfl | rfl | rfl | rfl | rfl | rfl | rfl | rfl | rfl <;> rfl
theorem one_b (b : Bool) : ∀ v ∈ (Value.bool b).cells.toList,v.oneCell' = true := by
 intro v hv; simp only [cells_bool,List.mem_cons,List.not_mem_nil,or_false] at hv; subst hv; rfl
theorem one_s (b : ByteArray) : ∀ v ∈ (Value.string b).cells.toList,v.oneCell' = true := by
 intro v hv; simp only [cells_string,List.mem_cons,List.not_mem_nil,or_false] at hv; subst hv; rfl
theorem lock_ok {B : Nat → Prop} {a : Option Addr} {c : Nat} (cs : List Cell) (w : Wri) (l : Lck) (h : Heap) (S : SlC B h a cs) (hs : Sorted cs) (hn : cs.length < big) (F : ∀ c ∈ cs,c.vers.length ≤ big) {R : Value → Heap → Prop}
  (hR : ∀ a' n' c' h',OwnC h.size h' a' n' c' (lockL cs w l) → Ext h h' → R (.slice a' n' c') h') : CallsH Try.prog 40 [.slice a cs.length c,.agg (eWri w).toArray,.agg (eLck l).toArray] h R := by
 have hbig : big = 1000000 := rfl
 refine f40ok (by simp) ?_
 (try simp (disch:=first|exact Lb rfl|omega) only [AXR,AXB,J.dst,reduceIte,Z1,Z2,Z3,Z4,Z5]); rw [f40c0_eq]; (try simp (disch:=first|exact Lb rfl|omega) only [AXR,AXB,J.dst,reduceIte,Z1,Z2,Z3,Z4,Z5,f40r0])
 refine wL_boxN rfl ?_; rintro b1 h1 e1 s1 hb1 (B1 : Blk _ _ _ (eWri w))
 refine wL_boxN rfl ?_; rintro b2 h2 e2 s2 hb2 (B2 : Blk _ _ _ (eLck l))
 have hl1 := B1.lt
 replace B1 := B1.ext e2
 have hne : b1 ≠ b2 := by omega
 (try simp (disch:=first|exact Lb rfl|omega) only [AXR,AXB,J.dst,reduceIte,Z1,Z2,Z3,Z4,Z5]); rw [f40c1_eq]; (try simp (disch:=first|exact Lb rfl|omega) only [AXR,AXB,J.dst,reduceIte,Z1,Z2,Z3,Z4,Z5,f40r1])
 refine ⟨fun b => b < h2.size ∧ b ≠ b2,fun b hb => hb.1,?_⟩
 simp (disch:=first|exact Lb rfl|omega) only [AXR,AXB,J.dst,reduceIte,Z1,Z2,Z3,Z4,Z5,f40r1,B1.cel,eWri]
 refine ⟨⟨by omega,hne⟩,⟨by omega,hne⟩,?_⟩
 refine wL_stD rfl rfl (fun h => h.2 rfl) rfl B2 (Nat.le_of_ble_eq_true rfl) (one_b _) ?_
 intro h3 u3 B3
 simp (disch:=first|exact Lb rfl|omega) only [AXR,AXB,J.dst,reduceIte,Z1,Z2,Z3,Z4,Z5]
 refine wL_stD rfl rfl (fun h => h.2 rfl) rfl B3 (Nat.le_of_ble_eq_true rfl) (one_s _) ?_
 rintro h4 u4 (B4 : Blk _ _ _ (eLck { l with drop := w.drop,data := w.data }))
 have B14 := u4.blk (u3.blk B1 hne) hne
 have e4 : Ext h h4 := u4.ext (u3.ext (e1.trans e2) (by omega)) (by omega)
 try simp (disch:=first|exact Lb rfl|omega) only [AXR,AXB,J.dst,reduceIte,Z1,Z2,Z3,Z4,Z5]
 have rest : ∀ (h5 : Heap) (τ : Env),Ext h h5 → b2 < h5.size → Blk h5 b1 70 (eWri w) → Blk h5 b2 72 (eLck (lkW w l)) → wC Try.prog f40c5 (endW [Rs.tmp 6] R) ((0,.slice a cs.length c) :: (4,ptr b1 0) :: (5,ptr b2 0) :: τ) h5 := by
  intro h5 τ e5 hb5 B1 B2
  (try simp (disch:=first|exact Lb rfl|omega) only [AXR,AXB,J.dst,reduceIte,Z1,Z2,Z3,Z4,Z5]); rw [f40c5_eq]; (try simp (disch:=first|exact Lb rfl|omega) only [AXR,AXB,J.dst,reduceIte,Z1,Z2,Z3,Z4,Z5,f40r4])
  refine all_ok cs _ (S.ext e5) (by omega) F ?_
  intro a6 c6 h6 O6 e6
  try simp (disch:=first|exact Lb rfl|omega) only [AXR,AXB,J.dst,reduceIte,Z1,Z2,Z3,Z4,Z5]
  replace B1 := B1.ext e6
  replace B2 := B2.ext e6
  (try simp (disch:=first|exact Lb rfl|omega) only [AXR,AXB,J.dst,reduceIte,Z1,Z2,Z3,Z4,Z5]); rw [f40c6_eq]; (try simp (disch:=first|exact Lb rfl|omega) only [AXR,AXB,J.dst,reduceIte,Z1,Z2,Z3,Z4,Z5,f40r5,B1.cel,eWri])
  refine find_ok cs w.key _ O6.slc hs (by unfold maxLen; omega) ?_
  intro h7 e7
  try simp (disch:=first|exact Lb rfl|omega) only [AXR,AXB,J.dst,reduceIte,Z1,Z2,Z3,Z4,Z5]
  replace B1 := B1.ext e7
  replace B2 := B2.ext e7
  have O7 := (O6.ext e7)
  have e57 := e5.trans (e6.trans e7)
  have hlb := lbK_le cs w.key
  -- the last part
  have fin : ∀ (h8 : Heap) (τ : Env) (a8 : Option Addr) (n8 c8 : Nat) (ds : List Cell) (x : Cell),Ext h h8 → OwnC h5.size h8 a8 n8 c8 ds → ds[lbK cs w.key]? = some x → Blk h8 b2 72 (eLck (lkW w l)) →
    ds.set (lbK cs w.key) { x with locked := true,lock := lkW w l } = lockL cs w l → wC Try.prog f40c10 (endW [Rs.tmp 6] R) ((5,ptr b2 0) :: (7,.slice a8 n8 c8) :: (8,vi (lbK cs w.key)) :: τ) h8 := by
   intro h8 τ a8 n8 c8 ds x e8 O8 hx B8 hres
   obtain ⟨vs,h1,h2,h3⟩ := O8
   have hxl := (List.getElem?_eq_some_iff.1 hx).1
   obtain ⟨v,hv,hcr⟩ := h3.get hx
   obtain ⟨hr1,hr2⟩ := h1.room
   obtain ⟨g,cur,rfl,hg,G,hcl,hct⟩ := h1.blk (by omega)
   have hgb : g ≠ b2 := by omega
   have hle : lbK cs w.key * 12 + 12 ≤ c8 * 12 := by omega
   rw [f40c10_eq]
   refine ⟨fun b => b < h8.size ∧ b ≠ g,fun b hb => hb.1,?_⟩
   simp (disch:=first|exact Lb rfl|omega) only [AXR,AXB,J.dst,reduceIte,Z1,Z2,Z3,Z4,Z5,f40r8,B8.rd,eLck]
   refine ⟨⟨B8.lt,fun e => hgb e.symm⟩,by omega,by omega,?_⟩
   refine wL_stD rfl rfl (fun h => h.2 rfl) rfl G (by rw [hcl]; omega) (one_b _) ?_
   intro h9 u9 B9
   simp (disch:=first|exact Lb rfl|omega) only [AXR,AXB,J.dst,reduceIte,Z1,Z2,Z3,Z4,Z5]
   refine ⟨by omega,by omega,?_⟩
   refine wL_stD rfl rfl (fun h => h.2 rfl) rfl B9 (by rw [putL_length,hcl]; omega) (one_lck (lkW w l)) ?_
   intro h10 u10 B10
   try simp (disch:=first|exact Lb rfl|omega) only [AXR,AXB,J.dst,reduceIte,Z1,Z2,Z3,Z4,Z5]
   (try simp (disch:=first|exact Lb rfl|omega) only [AXR,AXB,J.dst,reduceIte,Z1,Z2,Z3,Z4,Z5]); rw [f40c11_eq]; (try simp (disch:=first|exact Lb rfl|omega) only [AXR,AXB,J.dst,reduceIte,Z1,Z2,Z3,Z4,Z5,f40r9])
   have hu : Upd g h8 h10 := ⟨by rw [u10.size,u9.size],fun k hk => (u10.ne k hk).trans (u9.ne k hk)⟩
   have hgh : h.size ≤ g := Nat.le_trans e5.size hg
   refine hR _ _ _ _ ⟨vs.set (lbK cs w.key) { v with locked := true,lock := lkW w l },?_,?_,?_⟩ (hu.ext e8 hgh)
   ·simp only [Nat.zero_add] at B9 B10
    have hvl : vs[lbK cs w.key]? = some v := hv
    have P1 := h1.put (h' := h9) eCV_len (by rw [h2,h3.length]) hvl rfl G (off := 2) (vals := [.bool true]) (v' := { v with locked := true }) (by exact B9) rfl (by simp)
    have P2 := P1.put (h' := h10) eCV_len (by rw [List.length_set,h2,h3.length]) (i := lbK cs w.key) (v := { v with locked := true }) (by rw [List.getElem?_set_self (by rw [h3.length]; exact hxl)]) rfl B9 (off := 3) (vals := eLck (lkW w l))
     (v' := { v with locked := true,lock := lkW w l }) (by exact B10) rfl (by simp [eLck])
    rw [List.set_set] at P2
    exact P2.mono e5.size
   ·rw [← hres,List.length_set]; exact h2
   ·rw [← hres]
    have hto : ∀ b,(h5.size ≤ b ∧ b < h8.size ∧ some b ≠ ob (some (⟨g,0,none⟩ : Addr))) → (h.size ≤ b ∧ b < h10.size ∧ some b ≠ ob (some (⟨g,0,none⟩ : Addr))) ∧ h10[b]? = h8[b]? := by
     rintro b ⟨b1,b2,b3⟩
     exact ⟨⟨Nat.le_trans e5.size b1,by rw [hu.size]; exact b2,b3⟩,hu.ne b (fun e => b3 (by rw [e]; rfl))⟩
    have r := hcr.to hto
    exact (h3.imp fun _ _ r => r.to hto).set ⟨r.key,rfl,rfl,r.vn,r.cap,r.vers⟩
  (try simp (disch:=first|exact Lb rfl|omega) only [AXR,AXB,J.dst,reduceIte,Z1,Z2,Z3,Z4,Z5]); rw [f40c7_eq]; (try simp (disch:=first|exact Lb rfl|omega) only [AXR,AXB,J.dst,reduceIte,Z1,Z2,Z3,Z4,Z5,f40r6]); rw [f40c8_eq]; (try simp (disch:=first|exact Lb rfl|omega) only [AXR,AXB,J.dst,reduceIte,Z1,Z2,Z3,Z4,Z5])
  refine ⟨fun hh => ?_,fun hh => ?_⟩
  ·have hno : hasK cs w.key = false := by simpa using hh
   (try simp (disch:=first|exact Lb rfl|omega) only [AXR,AXB,J.dst,reduceIte,Z1,Z2,Z3,Z4,Z5]); rw [f40c9_eq]; (try simp (disch:=first|exact Lb rfl|omega) only [AXR,AXB,J.dst,reduceIte,Z1,Z2,Z3,Z4,Z5,f40r7,B1.cel,eWri])
   refine wL_bslN rfl ?_; rintro b8 h8 e8 s8 hb8 (B8 : Blk _ _ _ (eCV ⟨w.key,none,0,0,false,noLock⟩))
   try simp (disch:=first|exact Lb rfl|omega) only [AXR,AXB,J.dst,reduceIte,Z1,Z2,Z3,Z4,Z5]
   obtain ⟨vs,h1,h2,h3⟩ := O7.ext e8
   have hob := h1.ob
   have hob7 := O7.row
   have hz := e57.size
   have hz8 := e8.size
   have hz67 := (e6.trans e7).size
   have hfl := flatMap_length eCV_len vs
   refine insC_ok _ h1 (by omega) hlb (by omega) B8 rfl (one_flatMap eCV_one vs) (eCV_one _) (.inr (fun e => by have := hob7 b8 e.symm; omega)) (by unfold maxLen; omega) ?_
   intro a9 c9 h9 O9 G9 A9
   try simp (disch:=first|exact Lb rfl|omega) only [AXR,AXB,J.dst,reduceIte,Z1,Z2,Z3,Z4,Z5]
   rw [flatMap_take eCV_len,flatMap_drop eCV_len] at O9
   have e9 : Ext h h9 := G9.ext (e57.trans e8) (fun k hk => by have := hob k hk; have := e5.size; omega)
   have hb2 := B2.lt
   have B29 : Blk h9 b2 72 (eLck (lkW w l)) := G9.blk (B2.ext e8) (fun e => by have := hob b2 e.symm; omega)
   have hto := cellTo (lo := h5.size) G9 A9
   refine fin h9 _ a9 (cs.length + 1) c9 (cs.take (lbK cs w.key) ++ [⟨w.key,[],false,noLock⟩] ++ cs.drop (lbK cs w.key)) ⟨w.key,[],false,noLock⟩ e9 ⟨vs.take (lbK cs w.key) ++ [⟨w.key,none,0,0,false,noLock⟩] ++ vs.drop (lbK cs w.key),?_,?_,?_⟩ ?_ B29 ?_
   ·rw [List.flatMap_append,List.flatMap_append]; simpa using O9
   ·simp; omega
   ·have h3' := h3.imp fun _ _ r => r.to hto
    exact ((h3'.take _).append (.cons ⟨rfl,rfl,rfl,rfl,Nat.le_refl _,SlF.nil⟩ .nil)).append (h3'.drop _)
   ·rw [List.append_assoc,List.getElem?_append_right (by simp; omega)]
    simp [Nat.min_eq_left hlb]
   ·unfold lockL
    rw [if_neg (by simp [hno])]
    rw [List.append_assoc,List.set_append_right _ _ (by simp; omega)]
    simp [Nat.min_eq_left hlb]
  ·have hyes : hasK cs w.key = true := by simpa using hh
   have hx : ∃ x,cs[lbK cs w.key]? = some x := by
    unfold hasK at hyes
    split at hyes
    ·exact ⟨_,by assumption⟩
    ·cases hyes
   obtain ⟨x,hx⟩ := hx
   refine fin h7 _ _ _ _ cs x e57 O7 hx B2 ?_
   unfold lockL
   rw [if_pos hyes,getD_of hx]
 (try simp (disch:=first|exact Lb rfl|omega) only [AXR,AXB,J.dst,reduceIte,Z1,Z2,Z3,Z4,Z5]); rw [f40c2_eq]; (try simp (disch:=first|exact Lb rfl|omega) only [AXR,AXB,J.dst,reduceIte,Z1,Z2,Z3,Z4,Z5,f40r2,B14.cel,eWri]); rw [f40c3_eq]; (try simp (disch:=first|exact Lb rfl|omega) only [AXR,AXB,J.dst,reduceIte,Z1,Z2,Z3,Z4,Z5,B14.cel,eWri])
 refine ⟨fun hd => ?_,fun hd => ?_⟩
 ·(try simp (disch:=first|exact Lb rfl|omega) only [AXR,AXB,J.dst,reduceIte,Z1,Z2,Z3,Z4,Z5]); rw [f40c4_eq]; (try simp (disch:=first|exact Lb rfl|omega) only [AXR,AXB,J.dst,reduceIte,Z1,Z2,Z3,Z4,Z5,f40r3])
  refine wL_stN rfl rfl rfl B4 (Nat.le_of_ble_eq_true rfl) (one_s _) ?_
  rintro h5 u5 (B5 : Blk _ _ _ (eLck { l with drop := w.drop,data := noB }))
  try simp (disch:=first|exact Lb rfl|omega) only [AXR,AXB,J.dst,reduceIte,Z1,Z2,Z3,Z4,Z5]
  refine rest h5 _ (u5.ext e4 (by omega)) (B5.lt) (u5.blk B14 hne) ?_
  have : lkW w l = { l with drop := w.drop,data := noB } := by simp [lkW,hd]
  rw [this]; exact B5
 ·refine rest h4 _ e4 B4.lt B14 ?_
  have : lkW w l = { l with drop := w.drop,data := w.data } := by simp [lkW,hd]
  rw [this]; exact B4
end Go.Proofs.Ytefghfgmkndikaa
namespace Go.AX
open Go
/-- What is left of a cell that may go. -/
def leftC (c : Cell) : Option Cell := if c.locked || decide (c.vers ≠ []) then some c else none
def verL (l : Lck) : Ver := ⟨l.at_,l.drop,l.data⟩
def settleC (by_ : Try4) (yes : Bool) (c : Cell) : Cell :=
 if c.locked && decide (c.lock.by_ = by_) then ⟨c.key,if yes then putV c.vers (verL c.lock) else c.vers,false,noLock⟩ else c
def settleL (cs : List Cell) (by_ : Try4) (yes : Bool) : List Cell := cs.filterMap fun c => leftC (settleC by_ yes c)
theorem OC.box {lo : Nat} {h h' : Heap} {b : Nat} {v : CV} {c : Cell} (r : OC lo h v c) (u : Upd b h h') (hb : b < lo) : OC lo h' v c :=
 ⟨r.key,r.locked,r.lock,r.vn,r.vers.gr u.gr (fun k hk => by have := r.vers.ob k hk; intro e; cases e; omega)⟩
theorem OwnC.mono {lo lo' : Nat} {h : Heap} {a : Option Addr} {n c : Nat} {cs : List Cell} (O : OwnC lo h a n c cs) (hl : lo' ≤ lo) : OwnC lo' h a n c cs := by
 obtain ⟨vs,h1,h2,h3⟩ := O
 exact ⟨vs,h1.mono hl,h2,h3.imp fun _ _ r => r.imp fun b hb => ⟨Nat.le_trans hl hb.1,hb.2⟩⟩
theorem vers_pos (c : Cell) {n : Nat} (hn : n = c.vers.length) : decide ((n : Int) > 0) = decide (c.vers ≠ []) := by
 subst hn
 cases c.vers with
 | nil => rfl
 | cons a l => simp
end Go.AX
namespace Go.Proofs.Ytefghfgmkndikaa
open Go Go.AX
theorem settle_ok {B : Nat → Prop} {a : Option Addr} {c : Nat} (cs : List Cell) (by_ : Try4) (yes : Bool) (h : Heap) (S : SlC B h a cs) (hn : cs.length ≤ big) (F : ∀ c ∈ cs,c.vers.length < big) {R : Value → Heap → Prop}
  (hR : ∀ a' n' c' h',OwnC h.size h' a' n' c' (settleL cs by_ yes) → Ext h h' → R (.slice a' n' c') h') : CallsH Try.prog 39 [.slice a cs.length c,.agg (eTry by_).toArray,.bool yes] h R := by
 have hbig : big = 1000000 := rfl
 refine f39ok (by simp) ?_
 (try simp (disch:=first|exact Lb rfl|omega) only [AXR,AXB,J.dst,reduceIte,Z1,Z2,Z3,Z4,Z5]); rw [f39c0_eq]; (try simp (disch:=first|exact Lb rfl|omega) only [AXR,AXB,J.dst,reduceIte,Z1,Z2,Z3,Z4,Z5,f39r0])
 refine wL_boxN rfl ?_; rintro b1 h1 e1 s1 hb1 (B1 : Blk _ _ _ (eTry by_))
 (try simp (disch:=first|exact Lb rfl|omega) only [AXR,AXB,J.dst,reduceIte,Z1,Z2,Z3,Z4,Z5]); rw [f39c1_eq]; (try simp (disch:=first|exact Lb rfl|omega) only [AXR,AXB,J.dst,reduceIte,Z1,Z2,Z3,Z4,Z5,f39r1]); rw [f39c2_eq]; (try simp (disch:=first|exact Lb rfl|omega) only [AXR,AXB,J.dst,reduceIte,Z1,Z2,Z3,Z4,Z5,f39r2])
 rw [f39c3_eq]
 refine loop_in (fun n σ h' => Ext h1 h' ∧ ∃ (k m c' : Nat) (a' : Option Addr),k + n = cs.length ∧ m ≤ k ∧ OwnC h1.size h' a' m c' ((cs.take k).filterMap fun c => leftC (settleC by_ yes c)) ∧
   σ = [(2,.bool yes),(4,ptr b1 0),(7,.slice a' m c'),(10,.slice a cs.length c),(11,vi cs.length),(12,vi k)])
  cs.length ⟨Ext.refl _,0,0,0,none,by omega,by omega,OwnC.nil _ _,rfl⟩ ?_
 rintro n σ h' ⟨e2,k,m,c',a',hk,hm,O,rfl⟩ Q' hnx hex hrt _
 have eh := e1.trans e2
 (try simp (disch:=first|exact Lb rfl|omega) only [AXR,AXB,J.dst,reduceIte,Z1,Z2,Z3,Z4,Z5]); rw [f39c4_eq]; (try simp (disch:=first|exact Lb rfl|omega) only [AXR,AXB,J.dst,reduceIte,Z1,Z2,Z3,Z4,Z5,f39r3]); rw [f39c5_eq]; (try simp (disch:=first|exact Lb rfl|omega) only [AXR,AXB,J.dst,reduceIte,Z1,Z2,Z3,Z4,Z5])
 refine ⟨fun h2 => ?_,fun h2 => ?_⟩
 ·have hkl : k < cs.length := by have := of_decide_eq_true h2; omega
  obtain ⟨x,hx⟩ := get_ex hkl
  obtain ⟨b,o,v,rfl,_,hrow,hcr⟩ := (S.ext eh).elem hx
  have hxF := F x (List.mem_of_getElem? hx)
  rw [f39c6_eq]
  (try simp (disch:=first|exact Lb rfl|omega) only [AXR,AXB,J.dst,reduceIte,Z1,Z2,Z3,Z4,Z5]); rw [f39c7_eq]; (try simp (disch:=first|exact Lb rfl|omega) only [AXR,AXB,J.dst,reduceIte,Z1,Z2,Z3,Z4,Z5,f39r4,row_cv hrow])
  refine ⟨by omega,by omega,?_⟩
  refine wL_newN ?_; rintro b4 h4 e4 s4 hb4 B4
  refine wL_stN rfl rfl rfl B4 (by decide) (eCV_one v) ?_; rintro h5 u5 (B5 : Blk _ _ _ (eCV v))
  have e5 := u5.ext e4 (by omega)
  (try simp (disch:=first|exact Lb rfl|omega) only [AXR,AXB,J.dst,reduceIte,Z1,Z2,Z3,Z4,Z5]); rw [f39c8_eq]; (try simp (disch:=first|exact Lb rfl|omega) only [AXR,AXB,J.dst,reduceIte,Z1,Z2,Z3,Z4,Z5,f39r5,B5.rd,eCV])
  refine own_ok v x _ (hcr.ext e5) (by omega) ?_
  intro x' h6 O6 e6
  try simp (disch:=first|exact Lb rfl|omega) only [AXR,AXB,J.dst,reduceIte,Z1,Z2,Z3,Z4,Z5]
  have hb45 := B5.lt
  replace B5 := B5.ext e6
  refine wL_stN rfl rfl rfl B5 (by rw [eCV_len]; exact Nat.le_of_ble_eq_true rfl) (eCV_one x') ?_; rintro h7 u7 (B7 : Blk _ _ _ (eCV x'))
  try simp (disch:=first|exact Lb rfl|omega) only [AXR,AXB,J.dst,reduceIte,Z1,Z2,Z3,Z4,Z5]
  have O7 := O6.box u7 hb45
  have e7 : Ext h' h7 := u7.ext (e5.trans e6) (by omega)
  have hO := O.row
  have hs1 := B1.lt
  have hse := eh.size
  have hs2 := e2.size
  have hs5 := e5.size
  -- what is left is appended
  have app : ∀ (h8 : Heap) (τ : Env) (v8 : CV) (c8 : Cell),Ext h' h8 → Blk h8 b4 103 (eCV v8) → OC h5.size h8 v8 c8 → c8 = settleC by_ yes x →
    wC Try.prog f39c15 (X.inBlock 1 (X.then (fun σ h => wC Try.prog f39c18 Q' σ h) Q')) ((2,.bool yes) :: (4,ptr b1 0) :: (7,.slice a' m c') :: (9,ptr b4 0) :: (10,.slice (some ⟨b,o,none⟩) cs.length c) :: (11,vi cs.length) :: (12,vi k) :: τ) h8 := by
   intro h8 τ v8 c8 e8 B8 O8 hres
   have hw : IntKind.i64.wrap ((k : Int) + 1) = ((k + 1 : Nat) : Int) := i64_wrap (by omega) (by omega)
   have hskip : leftC c8 = none → ∀ τ,wC Try.prog f39c16 (X.inBlock 1 (X.then (fun σ h => wC Try.prog f39c18 Q' σ h) Q')) ((2,.bool yes) :: (4,ptr b1 0) :: (7,.slice a' m c') :: (9,ptr b4 0) :: (10,.slice (some ⟨b,o,none⟩) cs.length c) :: (11,vi cs.length) :: (12,vi k) :: (52,.bool false) :: τ) h8 := by
    intro hl τ
    (try simp (disch:=first|exact Lb rfl|omega) only [AXR,AXB,J.dst,reduceIte,Z1,Z2,Z3,Z4,Z5]); rw [f39c16_eq]; (try simp (disch:=first|exact Lb rfl|omega) only [AXR,AXB,J.dst,reduceIte,Z1,Z2,Z3,Z4,Z5,br_false])
    (try simp (disch:=first|exact Lb rfl|omega) only [AXR,AXB,J.dst,reduceIte,Z1,Z2,Z3,Z4,Z5]); rw [f39c18_eq]; (try simp (disch:=first|exact Lb rfl|omega) only [AXR,AXB,J.dst,reduceIte,Z1,Z2,Z3,Z4,Z5,f39r12,hw])
    refine hnx (n - 1) _ _ (by omega) ⟨e2.trans e8,k + 1,m,c',a',by omega,by omega,?_,rfl⟩
    rw [List.take_add_one,hx,List.filterMap_append]
    simp only [Option.toList,List.filterMap_cons,List.filterMap_nil,← hres,hl,List.append_nil]
    exact O.ext e8
   have hkeep : leftC c8 = some c8 → ∀ τ,wC Try.prog f39c16 (X.inBlock 1 (X.then (fun σ h => wC Try.prog f39c18 Q' σ h) Q')) ((2,.bool yes) :: (4,ptr b1 0) :: (7,.slice a' m c') :: (9,ptr b4 0) :: (10,.slice (some ⟨b,o,none⟩) cs.length c) :: (11,vi cs.length) :: (12,vi k) :: (52,.bool true) :: τ) h8 := by
    intro hl τ
    (try simp (disch:=first|exact Lb rfl|omega) only [AXR,AXB,J.dst,reduceIte,Z1,Z2,Z3,Z4,Z5]); rw [f39c16_eq]; (try simp (disch:=first|exact Lb rfl|omega) only [AXR,AXB,J.dst,reduceIte,Z1,Z2,Z3,Z4,Z5,br_true])
    (try simp (disch:=first|exact Lb rfl|omega) only [AXR,AXB,J.dst,reduceIte,Z1,Z2,Z3,Z4,Z5]); rw [f39c17_eq]; (try simp (disch:=first|exact Lb rfl|omega) only [AXR,AXB,J.dst,reduceIte,Z1,Z2,Z3,Z4,Z5,f39r11,B8.rd,eCV])
    refine wL_bslN rfl ?_; rintro b9 h9 e9 s9 hb9 (B9 : Blk _ _ _ (eCV v8))
    try simp (disch:=first|exact Lb rfl|omega) only [AXR,AXB,J.dst,reduceIte,Z1,Z2,Z3,Z4,Z5]
    rw [wL_raw]
    have e89 := e8.trans e9
    have hs89 := e89.size
    refine raw_push rfl rfl rfl (O.ext e89) B9 ((O8.ext e9).cr.to fun b hb => ⟨⟨?_,hb.2.1,?_⟩,rfl⟩) (by omega) (by omega) ?_
    ·omega
    ·intro e; have := hO b e.symm; omega
    intro a10 c10 h10 O10 G10 A10
    refine ⟨trivial,?_⟩
    try simp (disch:=first|exact Lb rfl|omega) only [AXR,AXB,J.dst,reduceIte,Z1,Z2,Z3,Z4,Z5]
    (try simp (disch:=first|exact Lb rfl|omega) only [AXR,AXB,J.dst,reduceIte,Z1,Z2,Z3,Z4,Z5]); rw [f39c18_eq]; (try simp (disch:=first|exact Lb rfl|omega) only [AXR,AXB,J.dst,reduceIte,Z1,Z2,Z3,Z4,Z5,f39r12,hw])
    refine hnx (n - 1) _ _ (by omega) ⟨G10.ext (e2.trans e89) (fun j hj => (hO j hj).1),k + 1,m + 1,c10,a10,by omega,by omega,?_,rfl⟩
    rw [List.take_add_one,hx,List.filterMap_append]
    simp only [Option.toList,List.filterMap_cons,List.filterMap_nil,← hres,hl]
    exact O10
   (try simp (disch:=first|exact Lb rfl|omega) only [AXR,AXB,J.dst,reduceIte,Z1,Z2,Z3,Z4,Z5]); rw [f39c15_eq]; (try simp (disch:=first|exact Lb rfl|omega) only [AXR,AXB,J.dst,reduceIte,Z1,Z2,Z3,Z4,Z5,f39r10,B8.cel,eCV])
   have hlk := O8.locked
   rw [vers_pos c8 O8.vn,hlk]
   refine ⟨fun hl => hkeep (by simp [leftC,hl]) [],fun hl => ?_⟩
   by_cases hv : c8.vers = []
   ·rw [decide_eq_false (by simp [hv])]
    exact hskip (by simp [leftC,hl,hv]) []
   ·rw [decide_eq_true hv]
    exact hkeep (by simp [leftC,hv]) []
  -- the lock is taken away
  have clr : ∀ (h8 : Heap) (τ : Env) (v8 : CV) (c8 : Cell),Ext h' h8 → Blk h8 b4 103 (eCV v8) → OC h5.size h8 v8 c8 → (⟨c8.key,c8.vers,false,noLock⟩ : Cell) = settleC by_ yes x →
    wC Try.prog f39c14 (X.then (fun σ h => wC Try.prog f39c15 (X.inBlock 1 (X.then (fun σ h => wC Try.prog f39c18 Q' σ h) Q')) σ h) (X.inBlock 1 (X.then (fun σ h => wC Try.prog f39c18 Q' σ h) Q')))
     ((2,.bool yes) :: (4,ptr b1 0) :: (7,.slice a' m c') :: (9,ptr b4 0) :: (10,.slice (some ⟨b,o,none⟩) cs.length c) :: (11,vi cs.length) :: (12,vi k) :: τ) h8 := by
   intro h8 τ v8 c8 e8 B8 O8 hres
   (try simp (disch:=first|exact Lb rfl|omega) only [AXR,AXB,J.dst,reduceIte,Z1,Z2,Z3,Z4,Z5]); rw [f39c14_eq]; (try simp (disch:=first|exact Lb rfl|omega) only [AXR,AXB,J.dst,reduceIte,Z1,Z2,Z3,Z4,Z5,f39r9])
   refine wL_stN rfl rfl rfl B8 (by rw [eCV_len]; exact Nat.le_of_ble_eq_true rfl) (one_b _) ?_
   rintro h9 u9 B9
   try simp (disch:=first|exact Lb rfl|omega) only [AXR,AXB,J.dst,reduceIte,Z1,Z2,Z3,Z4,Z5]
   refine wL_stN rfl rfl rfl B9 (by rw [putL_length,eCV_len]; exact Nat.le_of_ble_eq_true rfl) (one_lck noLock) ?_
   rintro h10 u10 (B10 : Blk _ _ _ (eCV { v8 with locked := false,lock := noLock }))
   try simp (disch:=first|exact Lb rfl|omega) only [AXR,AXB,J.dst,reduceIte,Z1,Z2,Z3,Z4,Z5]
   have O10 := (O8.box u9 hb45).box u10 hb45
   exact app h10 [] { v8 with locked := false,lock := noLock } ⟨c8.key,c8.vers,false,noLock⟩ (u10.ext (u9.ext e8 (by omega)) (by omega)) B10 ⟨O8.key,rfl,rfl,O8.vn,O10.vers⟩ hres
  have B17 : Blk h7 b1 37 (eTry by_) := B1.ext (e2.trans e7)
  (try simp (disch:=first|exact Lb rfl|omega) only [AXR,AXB,J.dst,reduceIte,Z1,Z2,Z3,Z4,Z5]); rw [f39c9_eq]; (try simp (disch:=first|exact Lb rfl|omega) only [AXR,AXB,J.dst,reduceIte,Z1,Z2,Z3,Z4,Z5,f39r6,B7.cel,B7.rd,B17.rd,eCV,eTry,eqA_try,O7.locked,O7.lock])
  have hno : (x.locked && decide (x.lock.by_ = by_)) = false → wC Try.prog f39c10 (X.inBlock 1 (X.then (fun σ h => wC Try.prog f39c18 Q' σ h) Q'))
   [(2,.bool yes),(4,ptr b1 0),(7,.slice a' m c'),(9,ptr b4 0),(10,.slice (some ⟨b,o,none⟩) cs.length c),(11,vi cs.length),(12,vi k),(26,.bool false)] h7 := by
   intro hf
   (try simp (disch:=first|exact Lb rfl|omega) only [AXR,AXB,J.dst,reduceIte,Z1,Z2,Z3,Z4,Z5]); rw [f39c10_eq]; (try simp (disch:=first|exact Lb rfl|omega) only [AXR,AXB,J.dst,reduceIte,Z1,Z2,Z3,Z4,Z5,br_false])
   exact app h7 [(26,.bool false)] x' x e7 B7 O7 (by unfold settleC; rw [if_neg (by simp [hf])])
  refine ⟨fun hl => ?_,fun hl => hno (by simp [hl])⟩
  by_cases hby : x.lock.by_ = by_
  ·rw [decide_eq_true hby]
   have hset : settleC by_ yes x = ⟨x.key,if yes then putV x.vers (verL x.lock) else x.vers,false,noLock⟩ := by
    unfold settleC; rw [if_pos (by simp [hl,hby])]
   (try simp (disch:=first|exact Lb rfl|omega) only [AXR,AXB,J.dst,reduceIte,Z1,Z2,Z3,Z4,Z5]); rw [f39c10_eq]; (try simp (disch:=first|exact Lb rfl|omega) only [AXR,AXB,J.dst,reduceIte,Z1,Z2,Z3,Z4,Z5,br_true])
   (try simp (disch:=first|exact Lb rfl|omega) only [AXR,AXB,J.dst,reduceIte,Z1,Z2,Z3,Z4,Z5]); rw [f39c11_eq]; (try simp (disch:=first|exact Lb rfl|omega) only [AXR,AXB,J.dst,reduceIte,Z1,Z2,Z3,Z4,Z5,f39r7]); rw [f39c12_eq]; (try simp (disch:=first|exact Lb rfl|omega) only [AXR,AXB,J.dst,reduceIte,Z1,Z2,Z3,Z4,Z5])
   refine ⟨fun hy => ?_,fun hy => ?_⟩
   ·(try simp (disch:=first|exact Lb rfl|omega) only [AXR,AXB,J.dst,reduceIte,Z1,Z2,Z3,Z4,Z5]); rw [f39c13_eq]; (try simp (disch:=first|exact Lb rfl|omega) only [AXR,AXB,J.dst,reduceIte,Z1,Z2,Z3,Z4,Z5,f39r8,B7.cel,B7.rd,eCV,O7.lock])
    have hO7 := O7.vers.ob
    refine put_ok (lo := h5.size) x.vers (verL x.lock) _ O7.vers O7.vn (by omega) (by have := u7.size; have := e6.size; omega) ?_
    intro a8 n8 c8 h8 O8 hn8 G8 A8
    try simp (disch:=first|exact Lb rfl|omega) only [AXR,AXB,J.dst,reduceIte,Z1,Z2,Z3,Z4,Z5]
    have B8 := G8.blk B7 (fun e => by have := hO7 b4 e.symm; omega)
    have e8 : Ext h' h8 := G8.ext e7 (fun j hj => by have := hO7 j hj; omega)
    have hO8 := O8.ob
    refine wL_stN rfl rfl rfl B8 (by rw [eCV_len]; exact Nat.le_of_ble_eq_true rfl) (one_sl _ _ _) ?_
    rintro h9 u9 (B9 : Blk _ _ _ (eCV { x' with va := a8,vn := n8,vc := c8 }))
    try simp (disch:=first|exact Lb rfl|omega) only [AXR,AXB,J.dst,reduceIte,Z1,Z2,Z3,Z4,Z5]
    have O9 := O8.gr u9.gr (fun j hj => by have := hO8 j hj; intro e; cases e; omega)
    exact clr h9 [] { x' with va := a8,vn := n8,vc := c8 } ⟨x.key,putV x.vers (verL x.lock),x.locked,x.lock⟩ (u9.ext e8 (by omega)) B9 ⟨O7.key,O7.locked,O7.lock,hn8,O9⟩ (by rw [hset,hy]; rfl)
   ·try simp (disch:=first|exact Lb rfl|omega) only [AXR,AXB,J.dst,reduceIte,Z1,Z2,Z3,Z4,Z5]
    exact clr h7 _ x' x e7 B7 O7 (by rw [hset,hy]; rfl)
  ·rw [decide_eq_false hby]
   exact hno (by simp [hby])
 ·have hkl : k = cs.length := by have := of_decide_eq_false h2; omega
  subst hkl
  refine hex _ _ ?_
  (try simp (disch:=first|exact Lb rfl|omega) only [AXR,AXB,J.dst,reduceIte,Z1,Z2,Z3,Z4,Z5]); rw [f39c19_eq]; (try simp (disch:=first|exact Lb rfl|omega) only [AXR,AXB,J.dst,reduceIte,Z1,Z2,Z3,Z4,Z5,f39r13])
  rw [List.take_length] at O
  exact hR _ _ _ _ (O.mono e1.size) eh
end Go.Proofs.Ytefghfgmkndikaa
namespace Go.AX
open Go
/-- How many versions a trim takes away. -/
def cutV (vs : List Ver) (below : Stamp) : Nat :=
 if lastV vs below < 0 then 0 else if (vs.getD (lastV vs below).toNat default).drop then (lastV vs below).toNat + 1 else (lastV vs below).toNat
def trimC (below : Stamp) (c : Cell) : Cell := { c with vers := c.vers.drop (cutV c.vers below) }
def trimL (cs : List Cell) (below : Stamp) : List Cell := cs.filterMap fun c => leftC (trimC below c)
theorem cutV_le (vs : List Ver) (t : Stamp) : cutV vs t ≤ vs.length := by
 have := lastV_le vs t
 unfold cutV
 split
 ·omega
 ·split <;> omega
theorem SlF.of_drop {lo : Nat} {h : Heap} {a a' : Option Addr} {n c : Nat} {vs : List Ver} (O : Own lo h 108 4 a n c (vs.flatMap eVer)) (hn : n = vs.length) {l : Nat} (ha : l < c → a' = a.map (·.add (l * 4))) :
  SlF (fun b => lo ≤ b ∧ b < h.size ∧ ob a = some b) h eVer a' (vs.drop l) := by
 intro hne
 have hlt : l < vs.length := by
  rcases Nat.lt_or_ge l vs.length with h | h
  ·exact h
  ·exact absurd (List.drop_of_length_le h) hne
 obtain ⟨hr1,_⟩ := O.room
 obtain ⟨g,rfl,hg,hrow⟩ := O.row (by omega)
 refine ⟨g,l * 4,by rw [ha (by omega),Option.map_some,add_mk,Nat.zero_add],⟨hg,(O.ob g rfl).2,rfl⟩,?_⟩
 have := hrow.sub (l * 4) ((vs.flatMap eVer).length - l * 4)
 rw [List.take_of_length_le (by rw [List.length_drop]; omega),flatMap_drop eVer_len,Nat.zero_add] at this
 exact this
end Go.AX
namespace Go.Proofs.Ytefghfgmkndikaa
open Go Go.AX
theorem trim_ok {B : Nat → Prop} {a : Option Addr} {c : Nat} (cs : List Cell) (below : Stamp) (h : Heap) (S : SlC B h a cs) (hn : cs.length ≤ big) (F : ∀ c ∈ cs,c.vers.length < big) {R : Value → Heap → Prop}
  (hR : ∀ a' n' c' h',OwnC h.size h' a' n' c' (trimL cs below) → Ext h h' → R (.slice a' n' c') h') : CallsH Try.prog 46 [.slice a cs.length c,.agg (eStamp below).toArray] h R := by
 have hbig : big = 1000000 := rfl
 refine f46ok (by simp) ?_
 (try simp (disch:=first|exact Lb rfl|omega) only [AXR,AXB,J.dst,reduceIte,Z1,Z2,Z3,Z4,Z5]); rw [f46c0_eq]; (try simp (disch:=first|exact Lb rfl|omega) only [AXR,AXB,J.dst,reduceIte,Z1,Z2,Z3,Z4,Z5,f46r0])
 refine wL_boxN rfl ?_; rintro b1 h1 e1 s1 hb1 (B1 : Blk _ _ _ (eStamp below))
 (try simp (disch:=first|exact Lb rfl|omega) only [AXR,AXB,J.dst,reduceIte,Z1,Z2,Z3,Z4,Z5]); rw [f46c1_eq]; (try simp (disch:=first|exact Lb rfl|omega) only [AXR,AXB,J.dst,reduceIte,Z1,Z2,Z3,Z4,Z5,f46r1]); rw [f46c2_eq]; (try simp (disch:=first|exact Lb rfl|omega) only [AXR,AXB,J.dst,reduceIte,Z1,Z2,Z3,Z4,Z5,f46r2])
 rw [f46c3_eq]
 refine loop_in (fun n σ h' => Ext h1 h' ∧ ∃ (k m c' : Nat) (a' : Option Addr),k + n = cs.length ∧ m ≤ k ∧ OwnC h1.size h' a' m c' ((cs.take k).filterMap fun c => leftC (trimC below c)) ∧
   σ = [(3,ptr b1 0),(5,.slice a' m c'),(9,.slice a cs.length c),(10,vi cs.length),(11,vi k)])
  cs.length ⟨Ext.refl _,0,0,0,none,by omega,by omega,OwnC.nil _ _,rfl⟩ ?_
 rintro n σ h' ⟨e2,k,m,c',a',hk,hm,O,rfl⟩ Q' hnx hex hrt _
 have eh := e1.trans e2
 (try simp (disch:=first|exact Lb rfl|omega) only [AXR,AXB,J.dst,reduceIte,Z1,Z2,Z3,Z4,Z5]); rw [f46c4_eq]; (try simp (disch:=first|exact Lb rfl|omega) only [AXR,AXB,J.dst,reduceIte,Z1,Z2,Z3,Z4,Z5,f46r3]); rw [f46c5_eq]; (try simp (disch:=first|exact Lb rfl|omega) only [AXR,AXB,J.dst,reduceIte,Z1,Z2,Z3,Z4,Z5])
 refine ⟨fun h2 => ?_,fun h2 => ?_⟩
 ·have hkl : k < cs.length := by have := of_decide_eq_true h2; omega
  obtain ⟨x,hx⟩ := get_ex hkl
  obtain ⟨b,o,v,rfl,_,hrow,hcr⟩ := (S.ext eh).elem hx
  have hxF := F x (List.mem_of_getElem? hx)
  rw [f46c6_eq]
  (try simp (disch:=first|exact Lb rfl|omega) only [AXR,AXB,J.dst,reduceIte,Z1,Z2,Z3,Z4,Z5]); rw [f46c7_eq]; (try simp (disch:=first|exact Lb rfl|omega) only [AXR,AXB,J.dst,reduceIte,Z1,Z2,Z3,Z4,Z5,f46r4,row_cv hrow])
  refine ⟨by omega,by omega,?_⟩
  refine wL_newN ?_; rintro b4 h4 e4 s4 hb4 B4
  refine wL_stN rfl rfl rfl B4 (by decide) (eCV_one v) ?_; rintro h5 u5 (B5 : Blk _ _ _ (eCV v))
  have e5 := u5.ext e4 (by omega)
  (try simp (disch:=first|exact Lb rfl|omega) only [AXR,AXB,J.dst,reduceIte,Z1,Z2,Z3,Z4,Z5]); rw [f46c8_eq]; (try simp (disch:=first|exact Lb rfl|omega) only [AXR,AXB,J.dst,reduceIte,Z1,Z2,Z3,Z4,Z5,f46r5,B5.rd,eCV])
  refine own_ok v x _ (hcr.ext e5) (by omega) ?_
  intro x' h6 O6 e6
  try simp (disch:=first|exact Lb rfl|omega) only [AXR,AXB,J.dst,reduceIte,Z1,Z2,Z3,Z4,Z5]
  have hb45 := B5.lt
  replace B5 := B5.ext e6
  refine wL_stN rfl rfl rfl B5 (by rw [eCV_len]; exact Nat.le_of_ble_eq_true rfl) (eCV_one x') ?_; rintro h7 u7 (B7 : Blk _ _ _ (eCV x'))
  try simp (disch:=first|exact Lb rfl|omega) only [AXR,AXB,J.dst,reduceIte,Z1,Z2,Z3,Z4,Z5]
  have O7 := O6.box u7 hb45
  have e7 : Ext h' h7 := u7.ext (e5.trans e6) (by omega)
  have hO := O.row
  have hs1 := B1.lt
  have hse := eh.size
  have hs2 := e2.size
  have hs5 := e5.size
  -- what is left is appended
  have app : ∀ (h8 : Heap) (τ : Env) (v8 : CV) (c8 : Cell),Ext h' h8 → Blk h8 b4 103 (eCV v8) → CR (fun b => h5.size ≤ b ∧ b < h8.size) h8 v8 c8 → c8 = trimC below x →
    AX.look τ 3 = some (ptr b1 0) → AX.look τ 5 = some (.slice a' m c') → AX.look τ 7 = some (ptr b4 0) → AX.look τ 9 = some (.slice (some ⟨b,o,none⟩) cs.length c) → AX.look τ 10 = some (vi cs.length) → AX.look τ 11 = some (vi k) →
    wC Try.prog f46c16 (X.inBlock 1 (X.then (fun σ h => wC Try.prog f46c19 Q' σ h) Q')) τ h8 := by
   intro h8 τ v8 c8 e8 B8 O8 hres l3 l5 l7 l9 l10 l11
   have hw : IntKind.i64.wrap ((k : Int) + 1) = ((k + 1 : Nat) : Int) := i64_wrap (by omega) (by omega)
   have hskip : leftC c8 = none → wC Try.prog f46c17 (X.inBlock 1 (X.then (fun σ h => wC Try.prog f46c19 Q' σ h) Q')) [(3,ptr b1 0),(5,.slice a' m c'),(7,ptr b4 0),(9,.slice (some ⟨b,o,none⟩) cs.length c),(10,vi cs.length),(11,vi k),(43,.bool false)] h8 := by
    intro hl
    (try simp (disch:=first|exact Lb rfl|omega) only [AXR,AXB,J.dst,reduceIte,Z1,Z2,Z3,Z4,Z5]); rw [f46c17_eq]; (try simp (disch:=first|exact Lb rfl|omega) only [AXR,AXB,J.dst,reduceIte,Z1,Z2,Z3,Z4,Z5,br_false])
    (try simp (disch:=first|exact Lb rfl|omega) only [AXR,AXB,J.dst,reduceIte,Z1,Z2,Z3,Z4,Z5]); rw [f46c19_eq]; (try simp (disch:=first|exact Lb rfl|omega) only [AXR,AXB,J.dst,reduceIte,Z1,Z2,Z3,Z4,Z5,f46r13,hw])
    refine hnx (n - 1) _ _ (by omega) ⟨e2.trans e8,k + 1,m,c',a',by omega,by omega,?_,rfl⟩
    rw [List.take_add_one,hx,List.filterMap_append]
    simp only [Option.toList,List.filterMap_cons,List.filterMap_nil,← hres,hl,List.append_nil]
    exact O.ext e8
   have hkeep : leftC c8 = some c8 → wC Try.prog f46c17 (X.inBlock 1 (X.then (fun σ h => wC Try.prog f46c19 Q' σ h) Q')) [(3,ptr b1 0),(5,.slice a' m c'),(7,ptr b4 0),(9,.slice (some ⟨b,o,none⟩) cs.length c),(10,vi cs.length),(11,vi k),(43,.bool true)] h8 := by
    intro hl
    (try simp (disch:=first|exact Lb rfl|omega) only [AXR,AXB,J.dst,reduceIte,Z1,Z2,Z3,Z4,Z5]); rw [f46c17_eq]; (try simp (disch:=first|exact Lb rfl|omega) only [AXR,AXB,J.dst,reduceIte,Z1,Z2,Z3,Z4,Z5,br_true])
    (try simp (disch:=first|exact Lb rfl|omega) only [AXR,AXB,J.dst,reduceIte,Z1,Z2,Z3,Z4,Z5]); rw [f46c18_eq]; (try simp (disch:=first|exact Lb rfl|omega) only [AXR,AXB,J.dst,reduceIte,Z1,Z2,Z3,Z4,Z5,f46r12,B8.rd,eCV])
    refine wL_bslN rfl ?_; rintro b9 h9 e9 s9 hb9 (B9 : Blk _ _ _ (eCV v8))
    try simp (disch:=first|exact Lb rfl|omega) only [AXR,AXB,J.dst,reduceIte,Z1,Z2,Z3,Z4,Z5]
    rw [wL_raw]
    have e89 := e8.trans e9
    have hs89 := e89.size
    refine raw_push rfl rfl rfl (O.ext e89) B9 (O8.to fun b hb => ⟨⟨?_,?_,?_⟩,e9.at_ b hb.2⟩) (by omega) (by omega) ?_
    ·omega
    ·have := e9.size; omega
    ·intro e; have := hO b e.symm; omega
    intro a10 c10 h10 O10 G10 A10
    refine ⟨trivial,?_⟩
    try simp (disch:=first|exact Lb rfl|omega) only [AXR,AXB,J.dst,reduceIte,Z1,Z2,Z3,Z4,Z5]
    (try simp (disch:=first|exact Lb rfl|omega) only [AXR,AXB,J.dst,reduceIte,Z1,Z2,Z3,Z4,Z5]); rw [f46c19_eq]; (try simp (disch:=first|exact Lb rfl|omega) only [AXR,AXB,J.dst,reduceIte,Z1,Z2,Z3,Z4,Z5,f46r13,hw])
    refine hnx (n - 1) _ _ (by omega) ⟨G10.ext (e2.trans e89) (fun j hj => (hO j hj).1),k + 1,m + 1,c10,a10,by omega,by omega,?_,rfl⟩
    rw [List.take_add_one,hx,List.filterMap_append]
    simp only [Option.toList,List.filterMap_cons,List.filterMap_nil,← hres,hl]
    exact O10
   (try simp (disch:=first|exact Lb rfl|omega) only [AXR,AXB,J.dst,reduceIte,Z1,Z2,Z3,Z4,Z5]); rw [f46c16_eq]; (try simp (disch:=first|exact Lb rfl|omega) only [AXR,AXB,J.dst,reduceIte,Z1,Z2,Z3,Z4,Z5,f46r11,B8.cel,eCV,l3,l5,l7,l9,l10,l11])
   have hlk := O8.locked
   rw [vers_pos c8 O8.vn,hlk]
   refine ⟨fun hl => hkeep (by simp [leftC,hl]),fun hl => ?_⟩
   by_cases hv : c8.vers = []
   ·rw [decide_eq_false (by simp [hv])]
    exact hskip (by simp [leftC,hl,hv])
   ·rw [decide_eq_true hv]
    exact hkeep (by simp [leftC,hv])
  have B17 : Blk h7 b1 39 (eStamp below) := B1.ext (e2.trans e7)
  (try simp (disch:=first|exact Lb rfl|omega) only [AXR,AXB,J.dst,reduceIte,Z1,Z2,Z3,Z4,Z5]); rw [f46c9_eq]; (try simp (disch:=first|exact Lb rfl|omega) only [AXR,AXB,J.dst,reduceIte,Z1,Z2,Z3,Z4,Z5,f46r6,B7.cel,B7.rd,B17.rd,eCV,eStamp,O7.vn])
  refine last_ok x.vers below _ (SlF.of_own O7.vers O7.vn) (by unfold maxLen; omega) ?_
  intro h8 e8
  try simp (disch:=first|exact Lb rfl|omega) only [AXR,AXB,J.dst,reduceIte,Z1,Z2,Z3,Z4,Z5]
  have e78 := e7.trans e8
  have hlv := lastV_le x.vers below
  have B8 := B7.ext e8
  have O8 := O7.ext e8
  (try simp (disch:=first|exact Lb rfl|omega) only [AXR,AXB,J.dst,reduceIte,Z1,Z2,Z3,Z4,Z5]); rw [f46c10_eq]; (try simp (disch:=first|exact Lb rfl|omega) only [AXR,AXB,J.dst,reduceIte,Z1,Z2,Z3,Z4,Z5,f46r7]); rw [f46c11_eq]; (try simp (disch:=first|exact Lb rfl|omega) only [AXR,AXB,J.dst,reduceIte,Z1,Z2,Z3,Z4,Z5])
  refine ⟨fun h2 => ?_,fun h2 => ?_⟩
  ·have hpos : 0 ≤ lastV x.vers below := of_decide_eq_true h2
   obtain ⟨i,hi⟩ : ∃ i : Nat,lastV x.vers below = i := ⟨(lastV x.vers below).toNat,by omega⟩
   rw [hi] at hlv
   obtain ⟨u,hu⟩ := get_ex (show i < x.vers.length by omega)
   obtain ⟨b',o',ha,_,hrow'⟩ := (SlF.of_own O8.vers O8.vn).elem eVer_len hu
   have hcut : cutV x.vers below = if u.drop then i + 1 else i := by
    unfold cutV
    rw [hi,if_neg (by omega),Int.toNat_natCast,getD_of hu]
   have sli : ∀ (l : Nat) (τ : Env),l = cutV x.vers below → wC Try.prog f46c15 (X.then (fun σ h => wC Try.prog f46c16 (X.inBlock 1 (X.then (fun σ h => wC Try.prog f46c19 Q' σ h) Q')) σ h) (X.inBlock 1 (X.then (fun σ h => wC Try.prog f46c19 Q' σ h) Q')))
     ((3,ptr b1 0) :: (5,.slice a' m c') :: (7,ptr b4 0) :: (8,vi l) :: (9,.slice (some ⟨b,o,none⟩) cs.length c) :: (10,vi cs.length) :: (11,vi k) :: τ) h8 := by
    intro l τ hl
    have hll := cutV_le x.vers below
    rw [← hl] at hll
    have hroom := O8.vers.room
    have hvn := O8.vn
    (try simp (disch:=first|exact Lb rfl|omega) only [AXR,AXB,J.dst,reduceIte,Z1,Z2,Z3,Z4,Z5]); rw [f46c15_eq]; (try simp (disch:=first|exact Lb rfl|omega) only [AXR,AXB,J.dst,reduceIte,Z1,Z2,Z3,Z4,Z5,f46r10,B8.cel,eCV])
    refine slc_lo' (l := l) (by omega) hroom.1 ?_
    intro a9 ha9
    try simp (disch:=first|exact Lb rfl|omega) only [AXR,AXB,J.dst,reduceIte,Z1,Z2,Z3,Z4,Z5]
    refine wL_stN rfl rfl rfl B8 (by rw [eCV_len]; exact Nat.le_of_ble_eq_true rfl) (one_sl _ _ _) ?_
    rintro h9 u9 (B9 : Blk _ _ _ (eCV { x' with va := a9,vn := x'.vn - l,vc := x'.vc - l }))
    try simp (disch:=first|exact Lb rfl|omega) only [AXR,AXB,J.dst,reduceIte,Z1,Z2,Z3,Z4,Z5]
    refine app h9 _ { x' with va := a9,vn := x'.vn - l,vc := x'.vc - l } (trimC below x) (u9.ext e78 (by omega)) B9 ?_ rfl rfl rfl rfl rfl rfl rfl
    refine ⟨O8.key,O8.locked,O8.lock,?_,Nat.sub_le_sub_right hroom.1 l,?_⟩
    ·show x'.vn - l = (x.vers.drop _).length
     rw [List.length_drop,← hl,hvn]
    ·show SlF _ _ _ _ (x.vers.drop _)
     rw [← hl]
     refine (SlF.of_drop O8.vers hvn ha9).to fun b hb => ⟨⟨hb.1,by rw [u9.size]; exact hb.2.1⟩,u9.ne b (by omega)⟩
   (try simp (disch:=first|exact Lb rfl|omega) only [AXR,AXB,J.dst,reduceIte,Z1,Z2,Z3,Z4,Z5]); rw [f46c12_eq]; (try simp (disch:=first|exact Lb rfl|omega) only [AXR,AXB,J.dst,reduceIte,Z1,Z2,Z3,Z4,Z5,f46r8,B8.cel,eCV,ha,hi,O8.vn,row_ver hrow'])
   refine ⟨by omega,by omega,?_⟩
   (try simp (disch:=first|exact Lb rfl|omega) only [AXR,AXB,J.dst,reduceIte,Z1,Z2,Z3,Z4,Z5]); rw [f46c13_eq]; (try simp (disch:=first|exact Lb rfl|omega) only [AXR,AXB,J.dst,reduceIte,Z1,Z2,Z3,Z4,Z5])
   refine ⟨fun hd => ?_,fun hd => ?_⟩
   ·(try simp (disch:=first|exact Lb rfl|omega) only [AXR,AXB,J.dst,reduceIte,Z1,Z2,Z3,Z4,Z5]); rw [f46c14_eq]; (try simp (disch:=first|exact Lb rfl|omega) only [AXR,AXB,J.dst,reduceIte,Z1,Z2,Z3,Z4,Z5,f46r9])
    rw [i64_wrap (by omega) (by omega)]
    exact sli (i + 1) [] (by rw [hcut,hd]; rfl)
   ·exact sli i _ (by rw [hcut,hd]; rfl)
  ·have hneg : lastV x.vers below < 0 := by have := of_decide_eq_false h2; omega
   have hcut : cutV x.vers below = 0 := by unfold cutV; rw [if_pos hneg]
   try simp (disch:=first|exact Lb rfl|omega) only [AXR,AXB,J.dst,reduceIte,Z1,Z2,Z3,Z4,Z5]
   refine app h8 _ x' x e78 B8 (O8.cr.imp fun b hb => ⟨hb.1,hb.2.1⟩) ?_ rfl rfl rfl rfl rfl rfl
   unfold trimC
   rw [hcut]; rfl
 ·have hkl : k = cs.length := by have := of_decide_eq_false h2; omega
  subst hkl
  refine hex _ _ ?_
  (try simp (disch:=first|exact Lb rfl|omega) only [AXR,AXB,J.dst,reduceIte,Z1,Z2,Z3,Z4,Z5]); rw [f46c20_eq]; (try simp (disch:=first|exact Lb rfl|omega) only [AXR,AXB,J.dst,reduceIte,Z1,Z2,Z3,Z4,Z5,f46r14])
  rw [List.take_length] at O
  exact hR _ _ _ _ (O.mono e1.size) eh
end Go.Proofs.Ytefghfgmkndikaa
namespace Go.AX
open Go
def wStep (v : Ver) (r : List Ver × Bool) (u : Ver) : List Ver × Bool :=
 let r1 := if !r.2 && !Stamp.lt u.at_ v.at_ then (r.1 ++ [v],true) else r
 (if u.at_ = v.at_ then r1.1 else r1.1 ++ [u],r1.2)
def withV (vs : List Ver) (v : Ver) : List Ver := let r := vs.foldl (wStep v) ([],false); if r.2 then r.1 else r.1 ++ [v]
end Go.AX
namespace Go.Proofs.Ytefghfgmkndikaa
open Go Go.AX
/-- A version is appended. -/
theorem raw_pushV {o : Oper} {σ : Env} {h : Heap} {K : Value → Heap → Prop} {x y : Operand} (ho : o.op = .call ⟨.builtin .append, #[x,y], #[101,101]⟩) {a : Option Addr} {n c lo b : Nat} {vs : List Ver} {v : Ver}
  (hx : evO σ x = some (.slice a n c)) (hy : evO σ y = some (sl b 0 1 1)) (O : Own lo h 108 4 a n c (vs.flatMap eVer)) (B : Blk h b 108 (eVer v)) (hn : n ≤ 10 * big) (hlo : lo ≤ h.size)
  (H : ∀ a' c' h',Own lo h' 108 4 a' (n + 1) c' ((vs ++ [v]).flatMap eVer) → Gr (ob a) h h' → (ob a' = ob a ∨ ∃ k,ob a' = some k ∧ h.size ≤ k) → K (.slice a' (n + 1) c') h') : RawW Try.prog o σ h K := by
 have hbig : big = 1000000 := rfl
 refine raw_append slT101 ho hx hy O (news := eVer v) (by rw [eVer_len]) (.inr ⟨b,0,rfl,B.row⟩) (eVer_one v) (by unfold maxLen; omega) (by omega) hlo ?_
 intro a' c' h' O' G A
 refine H a' c' h' ?_ G A
 rw [List.flatMap_append]
 simpa using O'
theorem with_ok {B : Nat → Prop} {a : Option Addr} {c : Nat} (vs : List Ver) (v : Ver) (h : Heap) (S : SlF B h eVer a vs) (hn : vs.length ≤ big) {R : Value → Heap → Prop}
  (hR : ∀ a' n' c' h',Own h.size h' 108 4 a' n' c' ((withV vs v).flatMap eVer) → n' = (withV vs v).length → Ext h h' → R (.slice a' n' c') h') :
  CallsH Try.prog 112 [.slice a vs.length c,.agg (eVer v).toArray] h R := by
 have hbig : big = 1000000 := rfl
 refine f112ok (by simp) ?_
 (try simp (disch:=first|exact Lb rfl|omega) only [AXR,AXB,J.dst,reduceIte,Z1,Z2,Z3,Z4,Z5]); rw [f112c0_eq]; (try simp (disch:=first|exact Lb rfl|omega) only [AXR,AXB,J.dst,reduceIte,Z1,Z2,Z3,Z4,Z5,f112r0])
 refine wL_boxN rfl ?_; rintro b1 h1 e1 s1 hb1 (B1 : Blk _ _ _ (eVer v))
 (try simp (disch:=first|exact Lb rfl|omega) only [AXR,AXB,J.dst,reduceIte,Z1,Z2,Z3,Z4,Z5]); rw [f112c1_eq]; (try simp (disch:=first|exact Lb rfl|omega) only [AXR,AXB,J.dst,reduceIte,Z1,Z2,Z3,Z4,Z5,f112r1]); rw [f112c2_eq]; (try simp (disch:=first|exact Lb rfl|omega) only [AXR,AXB,J.dst,reduceIte,Z1,Z2,Z3,Z4,Z5,f112r2]); rw [f112c3_eq]; (try simp (disch:=first|exact Lb rfl|omega) only [AXR,AXB,J.dst,reduceIte,Z1,Z2,Z3,Z4,Z5,f112r3])
 rw [f112c4_eq]
 refine loop_in (fun n σ h' => Ext h1 h' ∧ ∃ (k m c' : Nat) (a' : Option Addr),k + n = vs.length ∧ m ≤ 2 * k ∧ m = ((vs.take k).foldl (wStep v) ([],false)).1.length ∧
   Own h1.size h' 108 4 a' m c' (((vs.take k).foldl (wStep v) ([],false)).1.flatMap eVer) ∧
   σ = [(0,.slice a vs.length c),(3,ptr b1 0),(5,.slice a' m c'),(6,.bool ((vs.take k).foldl (wStep v) ([],false)).2),(7,vi k)])
  vs.length ⟨Ext.refl _,0,0,0,none,by omega,by omega,rfl,Own.nil _ _ _ _,rfl⟩ ?_
 rintro n σ h' ⟨e2,k,m,c',a',hk,hm2,hm,O,rfl⟩ Q' hnx hex hrt _
 have eh := e1.trans e2
 have hs2 := e2.size
 have hs1 := B1.lt
 generalize hr : (vs.take k).foldl (wStep v) ([],false) = r at hm O
 (try simp (disch:=first|exact Lb rfl|omega) only [AXR,AXB,J.dst,reduceIte,Z1,Z2,Z3,Z4,Z5]); rw [f112c5_eq]; (try simp (disch:=first|exact Lb rfl|omega) only [AXR,AXB,J.dst,reduceIte,Z1,Z2,Z3,Z4,Z5,f112r4]); rw [f112c6_eq]; (try simp (disch:=first|exact Lb rfl|omega) only [AXR,AXB,J.dst,reduceIte,Z1,Z2,Z3,Z4,Z5])
 refine ⟨fun h2 => ?_,fun h2 => ?_⟩
 ·have hkl : k < vs.length := by have := of_decide_eq_true h2; omega
  obtain ⟨u,hu⟩ := get_ex hkl
  obtain ⟨b,o,rfl,_,hrow0⟩ := S.elem eVer_len hu
  have hbl := hrow0.lt (by rw [eVer_len]; omega)
  have hrow := hrow0.ext eh
  have hnext : (vs.take (k + 1)).foldl (wStep v) ([],false) = wStep v r u := by
   rw [List.take_add_one,hu,List.foldl_append,hr]; rfl
  have hw : IntKind.i64.wrap ((k : Int) + 1) = ((k + 1 : Nat) : Int) := i64_wrap (by omega) (by omega)
  have hO := O.ob
  rw [f112c7_eq]
  try simp (disch:=first|exact Lb rfl|omega) only [AXR,AXB,J.dst,reduceIte,Z1,Z2,Z3,Z4,Z5]
  -- the last step
  have fin : ∀ (h8 : Heap) (τ : Env) (a8 : Option Addr) (m8 c8 : Nat),Ext h1 h8 → m8 ≤ 2 * (k + 1) → m8 = (wStep v r u).1.length → Own h1.size h8 108 4 a8 m8 c8 ((wStep v r u).1.flatMap eVer) →
    AX.look τ 0 = some (.slice (some ⟨b,o,none⟩) vs.length c) → AX.look τ 3 = some (ptr b1 0) → AX.look τ 5 = some (.slice a8 m8 c8) → AX.look τ 6 = some (.bool (wStep v r u).2) → AX.look τ 7 = some (vi k) →
    wC Try.prog f112c14 Q' τ h8 := by
   intro h8 τ a8 m8 c8 e8 hm8 hml O8 l0 l3 l5 l6 l7
   (try simp (disch:=first|exact Lb rfl|omega) only [AXR,AXB,J.dst,reduceIte,Z1,Z2,Z3,Z4,Z5]); rw [f112c14_eq]; (try simp (disch:=first|exact Lb rfl|omega) only [AXR,AXB,J.dst,reduceIte,Z1,Z2,Z3,Z4,Z5,f112r9,l0,l3,l5,l6,l7,hw])
   exact hnx (n - 1) _ _ (by omega) ⟨e8,k + 1,m8,c8,a8,by omega,hm8,by rw [hnext]; exact hml,by rw [hnext]; exact O8,by rw [hnext]⟩
  -- the element itself
  have mid : ∀ (h8 : Heap) (τ : Env) (a8 : Option Addr) (m8 c8 : Nat) (r1 : List Ver × Bool),Ext h1 h8 → Row h8 b (o + k * 4) (eVer u) → m8 ≤ 2 * k + 1 → m8 = r1.1.length → Own h1.size h8 108 4 a8 m8 c8 (r1.1.flatMap eVer) →
    wStep v r u = (if u.at_ = v.at_ then r1.1 else r1.1 ++ [u],r1.2) →
    AX.look τ 0 = some (.slice (some ⟨b,o,none⟩) vs.length c) → AX.look τ 3 = some (ptr b1 0) → AX.look τ 5 = some (.slice a8 m8 c8) → AX.look τ 6 = some (.bool r1.2) → AX.look τ 7 = some (vi k) →
    wC Try.prog f112c11 (X.inBlock 1 (X.then (fun σ h => wC Try.prog f112c14 Q' σ h) Q')) τ h8 := by
   intro h8 τ a8 m8 c8 r1 e8 hrow8 hm8 hml O8 hst l0 l3 l5 l6 l7
   have B8 := B1.ext e8
   have hs8 := e8.size
   rw [f112c11_eq]
   refine drw_lt ?_
   simp (disch:=first|exact Lb rfl|omega) only [AXR,AXB,J.dst,reduceIte,Z1,Z2,Z3,Z4,Z5,f112r7,l0,l3,l5,l6,l7,row_ver hrow8,B8.rd,eVer,eStamp,eqA_stampN]
   refine ⟨by omega,by omega,hrow8.lt (by rw [eVer_len]; omega),B8.lt,?_⟩
   by_cases he : u.at_ = v.at_
   ·rw [decide_eq_true he,Bool.not_true]
    rw [if_pos he] at hst
    (try simp (disch:=first|exact Lb rfl|omega) only [AXR,AXB,J.dst,reduceIte,Z1,Z2,Z3,Z4,Z5]); rw [f112c12_eq]; (try simp (disch:=first|exact Lb rfl|omega) only [AXR,AXB,J.dst,reduceIte,Z1,Z2,Z3,Z4,Z5,br_false])
    exact fin h8 _ a8 m8 c8 e8 (by omega) (by rw [hst]; exact hml) (by rw [hst]; exact O8) rfl rfl rfl (by rw [hst]; rfl) rfl
   ·rw [decide_eq_false he,Bool.not_false]
    rw [if_neg he] at hst
    (try simp (disch:=first|exact Lb rfl|omega) only [AXR,AXB,J.dst,reduceIte,Z1,Z2,Z3,Z4,Z5]); rw [f112c12_eq]; (try simp (disch:=first|exact Lb rfl|omega) only [AXR,AXB,J.dst,reduceIte,Z1,Z2,Z3,Z4,Z5,br_true])
    (try simp (disch:=first|exact Lb rfl|omega) only [AXR,AXB,J.dst,reduceIte,Z1,Z2,Z3,Z4,Z5]); rw [f112c13_eq]; (try simp (disch:=first|exact Lb rfl|omega) only [AXR,AXB,J.dst,reduceIte,Z1,Z2,Z3,Z4,Z5,f112r8,row_ver hrow8,eVer])
    refine ⟨by omega,by omega,?_⟩
    refine wL_bslN rfl ?_; rintro b9 h9 e9 s9 hb9 (B9 : Blk _ _ _ (eVer u))
    try simp (disch:=first|exact Lb rfl|omega) only [AXR,AXB,J.dst,reduceIte,Z1,Z2,Z3,Z4,Z5]
    rw [wL_raw]
    refine raw_pushV rfl rfl rfl (O8.ext e9) B9 (by omega) (e8.trans e9).size ?_
    intro a10 c10 h10 O10 G10 A10
    refine ⟨trivial,?_⟩
    try simp (disch:=first|exact Lb rfl|omega) only [AXR,AXB,J.dst,reduceIte,Z1,Z2,Z3,Z4,Z5]
    exact fin h10 _ a10 (m8 + 1) c10 (G10.ext (e8.trans e9) (fun j hj => (O8.ob j hj).1)) (by omega) (by rw [hst]; simp [hml]) (by rw [hst]; exact O10) rfl rfl rfl (by rw [hst]; rfl) rfl
  have B2 := B1.ext e2
  have hc9 : ∀ (h8 : Heap) (t : Bool),Ext h' h8 → t = (!r.2 && !Stamp.lt u.at_ v.at_) →
    wC Try.prog f112c9 (X.inBlock 1 (X.then (fun σ h => wC Try.prog f112c14 Q' σ h) Q')) [(0,.slice (some ⟨b,o,none⟩) vs.length c),(3,ptr b1 0),(5,.slice a' m c'),(6,.bool r.2),(7,vi k),(26,.bool t)] h8 := by
   intro h8 t e8 ht
   cases t with
   | false =>
    (try simp (disch:=first|exact Lb rfl|omega) only [AXR,AXB,J.dst,reduceIte,Z1,Z2,Z3,Z4,Z5]); rw [f112c9_eq]; (try simp (disch:=first|exact Lb rfl|omega) only [AXR,AXB,J.dst,reduceIte,Z1,Z2,Z3,Z4,Z5,br_false])
    exact mid h8 _ a' m c' r (e2.trans e8) (hrow.ext e8) (by omega) hm (O.ext e8) (by unfold wStep; rw [← ht]; rfl) rfl rfl rfl rfl rfl
   | true =>
    (try simp (disch:=first|exact Lb rfl|omega) only [AXR,AXB,J.dst,reduceIte,Z1,Z2,Z3,Z4,Z5]); rw [f112c9_eq]; (try simp (disch:=first|exact Lb rfl|omega) only [AXR,AXB,J.dst,reduceIte,Z1,Z2,Z3,Z4,Z5,br_true])
    (try simp (disch:=first|exact Lb rfl|omega) only [AXR,AXB,J.dst,reduceIte,Z1,Z2,Z3,Z4,Z5]); rw [f112c10_eq]; (try simp (disch:=first|exact Lb rfl|omega) only [AXR,AXB,J.dst,reduceIte,Z1,Z2,Z3,Z4,Z5,f112r6,(B2.ext e8).rd,eVer])
    refine wL_bslN rfl ?_; rintro b9 h9 e9 s9 hb9 (B9 : Blk _ _ _ (eVer v))
    try simp (disch:=first|exact Lb rfl|omega) only [AXR,AXB,J.dst,reduceIte,Z1,Z2,Z3,Z4,Z5]
    rw [wL_raw]
    have e89 := e8.trans e9
    refine raw_pushV rfl rfl rfl (O.ext e89) B9 (by omega) (e2.trans e89).size ?_
    intro a10 c10 h10 O10 G10 A10
    refine ⟨trivial,?_⟩
    try simp (disch:=first|exact Lb rfl|omega) only [AXR,AXB,J.dst,reduceIte,Z1,Z2,Z3,Z4,Z5]
    have hxs : ∀ j,ob a' = some j → h1.size ≤ j := fun j hj => (hO j hj).1
    have hrow10 : Row h10 b (o + k * 4) (eVer u) := by
     refine G10.row (hrow.ext e89) (fun e => ?_)
     have := hxs b e.symm
     have := e1.size
     omega
    exact mid h10 _ a10 (m + 1) c10 (r.1 ++ [v],true) (G10.ext (e2.trans e89) hxs) hrow10 (by omega) (by simp [hm]) O10 (by unfold wStep; rw [← ht]; rfl) rfl rfl rfl rfl rfl
  rw [f112c8_eq]
  refine drw_lt ?_
  simp (disch:=first|exact Lb rfl|omega) only [AXR,AXB,J.dst,reduceIte,Z1,Z2,Z3,Z4,Z5,f112r5,row_ver hrow,B2.rd,eVer,eStamp]
  refine ⟨fun hh => ?_,fun hh => ?_⟩
  ·have hf : r.2 = false := by simpa using hh
   refine ⟨by omega,by omega,hrow.lt (by rw [eVer_len]; omega),B2.lt,?_⟩
   refine rless_ok u.at_ v.at_ _ ?_
   intro h8 e8
   refine ⟨kp_ext (Nat.le_refl _) e8,?_⟩
   try simp (disch:=first|exact Lb rfl|omega) only [AXR,AXB,J.dst,reduceIte,Z1,Z2,Z3,Z4,Z5]
   have := hc9 h8 (!Stamp.lt u.at_ v.at_) e8 (by rw [hf]; rfl)
   exact this
  ·have hf : r.2 = true := by simpa using hh
   have := hc9 h' false (Ext.refl _) (by rw [hf]; rfl)
   exact this
 ·have hkl : k = vs.length := by have := of_decide_eq_false h2; omega
  subst hkl
  refine hex _ _ ?_
  rw [List.take_length] at hr
  have hwv : withV vs v = if r.2 then r.1 else r.1 ++ [v] := by unfold withV; rw [hr]
  (try simp (disch:=first|exact Lb rfl|omega) only [AXR,AXB,J.dst,reduceIte,Z1,Z2,Z3,Z4,Z5]); rw [f112c15_eq]; (try simp (disch:=first|exact Lb rfl|omega) only [AXR,AXB,J.dst,reduceIte,Z1,Z2,Z3,Z4,Z5,f112r10,hr]); rw [f112c16_eq]; (try simp (disch:=first|exact Lb rfl|omega) only [AXR,AXB,J.dst,reduceIte,Z1,Z2,Z3,Z4,Z5,hr])
  refine ⟨fun hh => ?_,fun hh => ?_⟩
  ·have hf : r.2 = false := by simpa using hh
   (try simp (disch:=first|exact Lb rfl|omega) only [AXR,AXB,J.dst,reduceIte,Z1,Z2,Z3,Z4,Z5]); rw [f112c17_eq]; (try simp (disch:=first|exact Lb rfl|omega) only [AXR,AXB,J.dst,reduceIte,Z1,Z2,Z3,Z4,Z5,f112r11,(B1.ext e2).rd,eVer])
   refine wL_bslN rfl ?_; rintro b9 h9 e9 s9 hb9 (B9 : Blk _ _ _ (eVer v))
   try simp (disch:=first|exact Lb rfl|omega) only [AXR,AXB,J.dst,reduceIte,Z1,Z2,Z3,Z4,Z5]
   rw [wL_raw]
   refine raw_pushV rfl rfl rfl (O.ext e9) B9 (by omega) (e2.trans e9).size ?_
   intro a10 c10 h10 O10 G10 A10
   refine ⟨trivial,?_⟩
   try simp (disch:=first|exact Lb rfl|omega) only [AXR,AXB,J.dst,reduceIte,Z1,Z2,Z3,Z4,Z5]
   (try simp (disch:=first|exact Lb rfl|omega) only [AXR,AXB,J.dst,reduceIte,Z1,Z2,Z3,Z4,Z5]); rw [f112c18_eq]; (try simp (disch:=first|exact Lb rfl|omega) only [AXR,AXB,J.dst,reduceIte,Z1,Z2,Z3,Z4,Z5,f112r12])
   have hp : withV vs v = r.1 ++ [v] := by rw [hwv,hf]; rfl
   refine hR _ _ _ _ ?_ ?_ (G10.ext (eh.trans e9) (fun j hj => by have := O.ob j hj; have := e1.size; omega))
   ·rw [hp]; exact O10.mono e1.size
   ·rw [hp]; simp [hm]
  ·have hf : r.2 = true := by simpa using hh
   (try simp (disch:=first|exact Lb rfl|omega) only [AXR,AXB,J.dst,reduceIte,Z1,Z2,Z3,Z4,Z5]); rw [f112c18_eq]; (try simp (disch:=first|exact Lb rfl|omega) only [AXR,AXB,J.dst,reduceIte,Z1,Z2,Z3,Z4,Z5,f112r12])
   have hp : withV vs v = r.1 := by rw [hwv,hf]; rfl
   refine hR _ _ _ _ ?_ ?_ eh
   ·rw [hp]; exact O.mono e1.size
   ·rw [hp]; exact hm
end Go.Proofs.Ytefghfgmkndikaa
namespace Go.AX
open Go
def rsettleC (by_ : Try4) (yes : Bool) (c : Cell) : Cell :=
 if c.locked && decide (c.lock.by_ = by_) then ⟨c.key,if yes then withV c.vers (verL c.lock) else c.vers,false,noLock⟩ else c
def rsettleL (cs : List Cell) (by_ : Try4) (yes : Bool) : List Cell := cs.filterMap fun c => leftC (rsettleC by_ yes c)
end Go.AX
namespace Go.Proofs.Ytefghfgmkndikaa
open Go Go.AX
theorem rsettle_ok {B : Nat → Prop} {a : Option Addr} {c : Nat} (cs : List Cell) (by_ : Try4) (yes : Bool) (h : Heap) (S : SlC B h a cs) (hn : cs.length ≤ big) (F : ∀ c ∈ cs,c.vers.length < big) {R : Value → Heap → Prop}
  (hR : ∀ a' n' c' h',OwnC h.size h' a' n' c' (rsettleL cs by_ yes) → Ext h h' → R (.slice a' n' c') h') : CallsH Try.prog 80 [.slice a cs.length c,.agg (eTry by_).toArray,.bool yes] h R := by
 have hbig : big = 1000000 := rfl
 refine f80ok (by simp) ?_
 (try simp (disch:=first|exact Lb rfl|omega) only [AXR,AXB,J.dst,reduceIte,Z1,Z2,Z3,Z4,Z5]); rw [f80c0_eq]; (try simp (disch:=first|exact Lb rfl|omega) only [AXR,AXB,J.dst,reduceIte,Z1,Z2,Z3,Z4,Z5,f80r0])
 refine wL_boxN rfl ?_; rintro b1 h1 e1 s1 hb1 (B1 : Blk _ _ _ (eTry by_))
 (try simp (disch:=first|exact Lb rfl|omega) only [AXR,AXB,J.dst,reduceIte,Z1,Z2,Z3,Z4,Z5]); rw [f80c1_eq]; (try simp (disch:=first|exact Lb rfl|omega) only [AXR,AXB,J.dst,reduceIte,Z1,Z2,Z3,Z4,Z5,f80r1]); rw [f80c2_eq]; (try simp (disch:=first|exact Lb rfl|omega) only [AXR,AXB,J.dst,reduceIte,Z1,Z2,Z3,Z4,Z5,f80r2])
 refine copy_ok cs _ (S.ext e1) hn (fun c hc => Nat.le_of_lt (F c hc)) ?_
 intro al cl h2 L e2
 try simp (disch:=first|exact Lb rfl|omega) only [AXR,AXB,J.dst,reduceIte,Z1,Z2,Z3,Z4,Z5]
 (try simp (disch:=first|exact Lb rfl|omega) only [AXR,AXB,J.dst,reduceIte,Z1,Z2,Z3,Z4,Z5]); rw [f80c3_eq]; (try simp (disch:=first|exact Lb rfl|omega) only [AXR,AXB,J.dst,reduceIte,Z1,Z2,Z3,Z4,Z5,f80r3])
 rw [f80c4_eq]
 have e12 := e1.trans e2
 refine loop_in (fun n σ h' => Ext h2 h' ∧ ∃ (k m c' : Nat) (a' : Option Addr),k + n = cs.length ∧ m ≤ k ∧ OwnC h1.size h' a' m c' ((cs.take k).filterMap fun c => leftC (rsettleC by_ yes c)) ∧ (∀ j,ob a' = some j → h2.size ≤ j) ∧
   σ = [(2,.bool yes),(4,ptr b1 0),(7,.slice a' m c'),(8,.slice al cs.length cl),(9,vi k)])
  cs.length ⟨Ext.refl _,0,0,0,none,by omega,by omega,OwnC.nil _ _,by simp [ob],rfl⟩ ?_
 rintro n σ h' ⟨e3,k,m,c',a',hk,hm,O,hA,rfl⟩ Q' hnx hex hrt _
 have S2 := L.slc
 (try simp (disch:=first|exact Lb rfl|omega) only [AXR,AXB,J.dst,reduceIte,Z1,Z2,Z3,Z4,Z5]); rw [f80c5_eq]; (try simp (disch:=first|exact Lb rfl|omega) only [AXR,AXB,J.dst,reduceIte,Z1,Z2,Z3,Z4,Z5,f80r4]); rw [f80c6_eq]; (try simp (disch:=first|exact Lb rfl|omega) only [AXR,AXB,J.dst,reduceIte,Z1,Z2,Z3,Z4,Z5])
 refine ⟨fun h2 => ?_,fun h2 => ?_⟩
 ·have hkl : k < cs.length := by have := of_decide_eq_true h2; omega
  obtain ⟨x,hx⟩ := get_ex hkl
  obtain ⟨b,o,v,rfl,_,hrow,hcr⟩ := S2.elem hx
  have hxF := F x (List.mem_of_getElem? hx)
  rw [f80c7_eq]
  (try simp (disch:=first|exact Lb rfl|omega) only [AXR,AXB,J.dst,reduceIte,Z1,Z2,Z3,Z4,Z5]); rw [f80c8_eq]; (try simp (disch:=first|exact Lb rfl|omega) only [AXR,AXB,J.dst,reduceIte,Z1,Z2,Z3,Z4,Z5,f80r5,row_cv (hrow.ext e3)])
  refine ⟨by omega,by omega,?_⟩
  refine wL_newN ?_; rintro b4 h4 e4 s4 hb4 B4
  refine wL_stN rfl rfl rfl B4 (by decide) (eCV_one v) ?_; rintro h5 u5 (B5 : Blk _ _ _ (eCV v))
  have e5 := u5.ext e4 (by omega)
  try simp (disch:=first|exact Lb rfl|omega) only [AXR,AXB,J.dst,reduceIte,Z1,Z2,Z3,Z4,Z5]
  have hO := O.row
  have hs1 := B1.lt
  have hs2 := e2.size
  have hs3 := e3.size
  have hs5 := e5.size
  have e35 := e3.trans e5
  have hb45 := B5.lt
  -- what is left is appended
  have app : ∀ (h8 : Heap) (τ : Env) (v8 : CV) (c8 : Cell),Ext h' h8 → Blk h8 b4 103 (eCV v8) → CR (fun b => h1.size ≤ b ∧ b < h8.size ∧ some b ≠ ob a') h8 v8 c8 → c8 = rsettleC by_ yes x →
    AX.look τ 2 = some (.bool yes) → AX.look τ 4 = some (ptr b1 0) → AX.look τ 7 = some (.slice a' m c') → AX.look τ 10 = some (ptr b4 0) → AX.look τ 8 = some (.slice (some ⟨b,o,none⟩) cs.length cl) → AX.look τ 9 = some (vi k) →
    wC Try.prog f80c15 (X.inBlock 1 (X.then (fun σ h => wC Try.prog f80c18 Q' σ h) Q')) τ h8 := by
   intro h8 τ v8 c8 e8 B8 O8 hres l2 l4 l7 l10 l8 l9
   have hw : IntKind.i64.wrap ((k : Int) + 1) = ((k + 1 : Nat) : Int) := i64_wrap (by omega) (by omega)
   have hskip : leftC c8 = none → wC Try.prog f80c16 (X.inBlock 1 (X.then (fun σ h => wC Try.prog f80c18 Q' σ h) Q')) [(2,.bool yes),(4,ptr b1 0),(7,.slice a' m c'),(8,.slice (some ⟨b,o,none⟩) cs.length cl),(9,vi k),(10,ptr b4 0),(57,.bool false)] h8 := by
    intro hl
    (try simp (disch:=first|exact Lb rfl|omega) only [AXR,AXB,J.dst,reduceIte,Z1,Z2,Z3,Z4,Z5]); rw [f80c16_eq]; (try simp (disch:=first|exact Lb rfl|omega) only [AXR,AXB,J.dst,reduceIte,Z1,Z2,Z3,Z4,Z5,br_false])
    (try simp (disch:=first|exact Lb rfl|omega) only [AXR,AXB,J.dst,reduceIte,Z1,Z2,Z3,Z4,Z5]); rw [f80c18_eq]; (try simp (disch:=first|exact Lb rfl|omega) only [AXR,AXB,J.dst,reduceIte,Z1,Z2,Z3,Z4,Z5,f80r12,hw])
    refine hnx (n - 1) _ _ (by omega) ⟨e3.trans e8,k + 1,m,c',a',by omega,by omega,?_,hA,rfl⟩
    rw [List.take_add_one,hx,List.filterMap_append]
    simp only [Option.toList,List.filterMap_cons,List.filterMap_nil,← hres,hl,List.append_nil]
    exact O.ext e8
   have hkeep : leftC c8 = some c8 → wC Try.prog f80c16 (X.inBlock 1 (X.then (fun σ h => wC Try.prog f80c18 Q' σ h) Q')) [(2,.bool yes),(4,ptr b1 0),(7,.slice a' m c'),(8,.slice (some ⟨b,o,none⟩) cs.length cl),(9,vi k),(10,ptr b4 0),(57,.bool true)] h8 := by
    intro hl
    (try simp (disch:=first|exact Lb rfl|omega) only [AXR,AXB,J.dst,reduceIte,Z1,Z2,Z3,Z4,Z5]); rw [f80c16_eq]; (try simp (disch:=first|exact Lb rfl|omega) only [AXR,AXB,J.dst,reduceIte,Z1,Z2,Z3,Z4,Z5,br_true])
    (try simp (disch:=first|exact Lb rfl|omega) only [AXR,AXB,J.dst,reduceIte,Z1,Z2,Z3,Z4,Z5]); rw [f80c17_eq]; (try simp (disch:=first|exact Lb rfl|omega) only [AXR,AXB,J.dst,reduceIte,Z1,Z2,Z3,Z4,Z5,f80r11,B8.rd,eCV])
    refine wL_bslN rfl ?_; rintro b9 h9 e9 s9 hb9 (B9 : Blk _ _ _ (eCV v8))
    try simp (disch:=first|exact Lb rfl|omega) only [AXR,AXB,J.dst,reduceIte,Z1,Z2,Z3,Z4,Z5]
    rw [wL_raw]
    have e89 := e8.trans e9
    have hs89 := e89.size
    refine raw_push rfl rfl rfl (O.ext e89) B9 (O8.to fun b hb => ⟨⟨hb.1,?_,hb.2.2⟩,e9.at_ b hb.2.1⟩) (by omega) (by omega) ?_
    ·have := e9.size; omega
    intro a10 c10 h10 O10 G10 A10
    refine ⟨trivial,?_⟩
    try simp (disch:=first|exact Lb rfl|omega) only [AXR,AXB,J.dst,reduceIte,Z1,Z2,Z3,Z4,Z5]
    (try simp (disch:=first|exact Lb rfl|omega) only [AXR,AXB,J.dst,reduceIte,Z1,Z2,Z3,Z4,Z5]); rw [f80c18_eq]; (try simp (disch:=first|exact Lb rfl|omega) only [AXR,AXB,J.dst,reduceIte,Z1,Z2,Z3,Z4,Z5,f80r12,hw])
    refine hnx (n - 1) _ _ (by omega) ⟨G10.ext (e3.trans e89) hA,k + 1,m + 1,c10,a10,by omega,by omega,?_,?_,rfl⟩
    ·rw [List.take_add_one,hx,List.filterMap_append]
     simp only [Option.toList,List.filterMap_cons,List.filterMap_nil,← hres,hl]
     exact O10
    ·intro j hj
     rcases A10 with e | ⟨q,e,hq⟩
     ·exact hA j (e ▸ hj)
     ·rw [e] at hj; cases hj; omega
   (try simp (disch:=first|exact Lb rfl|omega) only [AXR,AXB,J.dst,reduceIte,Z1,Z2,Z3,Z4,Z5]); rw [f80c15_eq]; (try simp (disch:=first|exact Lb rfl|omega) only [AXR,AXB,J.dst,reduceIte,Z1,Z2,Z3,Z4,Z5,f80r10,B8.cel,eCV,l2,l4,l7,l10,l8,l9])
   have hlk := O8.locked
   rw [vers_pos c8 O8.vn,hlk]
   refine ⟨fun hl => hkeep (by simp [leftC,hl]),fun hl => ?_⟩
   by_cases hv : c8.vers = []
   ·rw [decide_eq_false (by simp [hv])]
    exact hskip (by simp [leftC,hl,hv])
   ·rw [decide_eq_true hv]
    exact hkeep (by simp [leftC,hv])
  -- the lock is taken away
  have clr : ∀ (h8 : Heap) (τ : Env) (v8 : CV) (c8 : Cell),Ext h' h8 → Blk h8 b4 103 (eCV v8) → CR (fun b => h1.size ≤ b ∧ b < h8.size ∧ some b ≠ ob a' ∧ b ≠ b4) h8 v8 c8 → (⟨c8.key,c8.vers,false,noLock⟩ : Cell) = rsettleC by_ yes x →
    AX.look τ 2 = some (.bool yes) → AX.look τ 4 = some (ptr b1 0) → AX.look τ 7 = some (.slice a' m c') → AX.look τ 10 = some (ptr b4 0) → AX.look τ 8 = some (.slice (some ⟨b,o,none⟩) cs.length cl) → AX.look τ 9 = some (vi k) →
    wC Try.prog f80c14 (X.then (fun σ h => wC Try.prog f80c15 (X.inBlock 1 (X.then (fun σ h => wC Try.prog f80c18 Q' σ h) Q')) σ h) (X.inBlock 1 (X.then (fun σ h => wC Try.prog f80c18 Q' σ h) Q'))) τ h8 := by
   intro h8 τ v8 c8 e8 B8 O8 hres l2 l4 l7 l10 l8 l9
   (try simp (disch:=first|exact Lb rfl|omega) only [AXR,AXB,J.dst,reduceIte,Z1,Z2,Z3,Z4,Z5]); rw [f80c14_eq]; (try simp (disch:=first|exact Lb rfl|omega) only [AXR,AXB,J.dst,reduceIte,Z1,Z2,Z3,Z4,Z5,f80r9,l2,l4,l7,l10,l8,l9])
   refine wL_stN (by first | exact l10 | rfl) rfl rfl B8 (by rw [eCV_len]; exact Nat.le_of_ble_eq_true rfl) (one_b _) ?_
   rintro h9 u9 B9
   simp (disch:=first|exact Lb rfl|omega) only [AXR,AXB,J.dst,reduceIte,Z1,Z2,Z3,Z4,Z5,l2,l4,l7,l10,l8,l9]
   refine wL_stN rfl rfl rfl B9 (by rw [putL_length,eCV_len]; exact Nat.le_of_ble_eq_true rfl) (one_lck noLock) ?_
   rintro h10 u10 (B10 : Blk _ _ _ (eCV { v8 with locked := false,lock := noLock }))
   simp (disch:=first|exact Lb rfl|omega) only [AXR,AXB,J.dst,reduceIte,Z1,Z2,Z3,Z4,Z5,l2,l4,l7,l10,l8,l9]
   refine app h10 _ { v8 with locked := false,lock := noLock } ⟨c8.key,c8.vers,false,noLock⟩ (u10.ext (u9.ext e8 (by omega)) (by omega)) B10 ⟨O8.key,rfl,rfl,O8.vn,O8.cap,O8.vers.to fun b hb => ⟨⟨hb.1,?_,hb.2.2.1⟩,?_⟩⟩ hres rfl rfl rfl rfl rfl rfl
   ·rw [u10.size,u9.size]; exact hb.2.1
   ·exact (u10.ne b hb.2.2.2).trans (u9.ne b hb.2.2.2)
  have B17 : Blk h5 b1 37 (eTry by_) := B1.ext (e2.trans e35)
  have O5 : CR (fun b => h1.size ≤ b ∧ b < h5.size ∧ some b ≠ ob a' ∧ b ≠ b4) h5 v x := hcr.to fun b hb => ⟨⟨hb.1,by omega,fun e => by have := hA b e.symm; omega,by omega⟩,e35.at_ b hb.2⟩
  (try simp (disch:=first|exact Lb rfl|omega) only [AXR,AXB,J.dst,reduceIte,Z1,Z2,Z3,Z4,Z5]); rw [f80c9_eq]; (try simp (disch:=first|exact Lb rfl|omega) only [AXR,AXB,J.dst,reduceIte,Z1,Z2,Z3,Z4,Z5,f80r6,B5.cel,B5.rd,B17.rd,eCV,eTry,eqA_try,hcr.locked,hcr.lock])
  have hno : (x.locked && decide (x.lock.by_ = by_)) = false → wC Try.prog f80c10 (X.inBlock 1 (X.then (fun σ h => wC Try.prog f80c18 Q' σ h) Q'))
   [(2,.bool yes),(4,ptr b1 0),(7,.slice a' m c'),(8,.slice (some ⟨b,o,none⟩) cs.length cl),(9,vi k),(10,ptr b4 0),(31,.bool false)] h5 := by
   intro hf
   (try simp (disch:=first|exact Lb rfl|omega) only [AXR,AXB,J.dst,reduceIte,Z1,Z2,Z3,Z4,Z5]); rw [f80c10_eq]; (try simp (disch:=first|exact Lb rfl|omega) only [AXR,AXB,J.dst,reduceIte,Z1,Z2,Z3,Z4,Z5,br_false])
   exact app h5 _ v x e5 B5 (O5.imp fun b hb => ⟨hb.1,hb.2.1,hb.2.2.1⟩) (by unfold rsettleC; rw [if_neg (by simp [hf])]) rfl rfl rfl rfl rfl rfl
  refine ⟨fun hl => ?_,fun hl => hno (by simp [hl])⟩
  by_cases hby : x.lock.by_ = by_
  ·rw [decide_eq_true hby]
   have hset : rsettleC by_ yes x = ⟨x.key,if yes then withV x.vers (verL x.lock) else x.vers,false,noLock⟩ := by
    unfold rsettleC; rw [if_pos (by simp [hl,hby])]
   (try simp (disch:=first|exact Lb rfl|omega) only [AXR,AXB,J.dst,reduceIte,Z1,Z2,Z3,Z4,Z5]); rw [f80c10_eq]; (try simp (disch:=first|exact Lb rfl|omega) only [AXR,AXB,J.dst,reduceIte,Z1,Z2,Z3,Z4,Z5,br_true])
   (try simp (disch:=first|exact Lb rfl|omega) only [AXR,AXB,J.dst,reduceIte,Z1,Z2,Z3,Z4,Z5]); rw [f80c11_eq]; (try simp (disch:=first|exact Lb rfl|omega) only [AXR,AXB,J.dst,reduceIte,Z1,Z2,Z3,Z4,Z5,f80r7]); rw [f80c12_eq]; (try simp (disch:=first|exact Lb rfl|omega) only [AXR,AXB,J.dst,reduceIte,Z1,Z2,Z3,Z4,Z5])
   refine ⟨fun hy => ?_,fun hy => ?_⟩
   ·(try simp (disch:=first|exact Lb rfl|omega) only [AXR,AXB,J.dst,reduceIte,Z1,Z2,Z3,Z4,Z5]); rw [f80c13_eq]; (try simp (disch:=first|exact Lb rfl|omega) only [AXR,AXB,J.dst,reduceIte,Z1,Z2,Z3,Z4,Z5,f80r8,B5.cel,B5.rd,eCV,hcr.lock,hcr.vn])
    refine with_ok x.vers (verL x.lock) _ O5.vers (by omega) ?_
    intro a8 n8 c8 h8 O8 hn8 e8
    try simp (disch:=first|exact Lb rfl|omega) only [AXR,AXB,J.dst,reduceIte,Z1,Z2,Z3,Z4,Z5]
    have B8 := B5.ext e8
    have hO8 := O8.ob
    refine wL_stN rfl rfl rfl B8 (by rw [eCV_len]; exact Nat.le_of_ble_eq_true rfl) (one_sl _ _ _) ?_
    rintro h9 u9 (B9 : Blk _ _ _ (eCV { v with va := a8,vn := n8,vc := c8 }))
    try simp (disch:=first|exact Lb rfl|omega) only [AXR,AXB,J.dst,reduceIte,Z1,Z2,Z3,Z4,Z5]
    have O9 := O8.gr u9.gr (fun j hj => by have := hO8 j hj; intro e; cases e; omega)
    refine clr h9 _ { v with va := a8,vn := n8,vc := c8 } ⟨x.key,withV x.vers (verL x.lock),x.locked,x.lock⟩ (u9.ext (e5.trans e8) (by omega)) B9 ⟨hcr.key,hcr.locked,hcr.lock,hn8,O9.room.1,(SlF.of_own O9 hn8).imp fun b hb => ⟨?_,hb.2.1,?_,?_⟩⟩ (by rw [hset,hy]; rfl) rfl rfl rfl rfl rfl rfl
    ·omega
    ·intro e; have := hO b e.symm; omega
    ·omega
   ·try simp (disch:=first|exact Lb rfl|omega) only [AXR,AXB,J.dst,reduceIte,Z1,Z2,Z3,Z4,Z5]
    exact clr h5 _ v x e5 B5 O5 (by rw [hset,hy]; rfl) rfl rfl rfl rfl rfl rfl
  ·rw [decide_eq_false hby]
   exact hno (by simp [hby])
 ·have hkl : k = cs.length := by have := of_decide_eq_false h2; omega
  subst hkl
  refine hex _ _ ?_
  (try simp (disch:=first|exact Lb rfl|omega) only [AXR,AXB,J.dst,reduceIte,Z1,Z2,Z3,Z4,Z5]); rw [f80c19_eq]; (try simp (disch:=first|exact Lb rfl|omega) only [AXR,AXB,J.dst,reduceIte,Z1,Z2,Z3,Z4,Z5,f80r13])
  rw [List.take_length] at O
  exact hR _ _ _ _ (O.mono e1.size) (e12.trans e3)
end Go.Proofs.Ytefghfgmkndikaa
namespace Go.AX
open Go
def preV (vs : List Ver) (below : Stamp) : Nat := (vs.takeWhile fun v => !Stamp.lt below v.at_).length
def rcutV (vs : List Ver) (below : Stamp) : Nat :=
 if 0 < preV vs below ∧ (vs.getD (preV vs below - 1) default).drop = false then preV vs below - 1 else preV vs below
def rtrimC (below : Stamp) (c : Cell) : Cell := { c with vers := c.vers.drop (rcutV c.vers below) }
def rtrimL (cs : List Cell) (below : Stamp) : List Cell := cs.filterMap fun c => leftC (rtrimC below c)
theorem preV_eq (t : Stamp) : ∀ (vs : List Ver) (i : Nat),i ≤ vs.length → (∀ p v,p < i → vs[p]? = some v → Stamp.lt t v.at_ = false) → (∀ v,vs[i]? = some v → Stamp.lt t v.at_ = true) → preV vs t = i
 | [], i, h, _, _ => by have : i = 0 := by simpa using h
                        subst this; rfl
 | c :: cs,0,_,_,h => by
  have := h c rfl
  simp [preV,List.takeWhile,this]
 | c :: cs,i + 1,hl,h,h' => by
  have h0 := h 0 c (by omega) rfl
  have := preV_eq t cs i (by simpa using hl) (fun p d hp hd => h (p + 1) d (by omega) (by simpa using hd)) (fun d hd => h' d (by simpa using hd))
  unfold preV at this ⊢
  simp [List.takeWhile,h0,this]
theorem preV_le (vs : List Ver) (t : Stamp) : preV vs t ≤ vs.length := by unfold preV; exact List.Sublist.length_le (List.takeWhile_sublist _)
theorem rcutV_le (vs : List Ver) (t : Stamp) : rcutV vs t ≤ vs.length := by
 have := preV_le vs t
 unfold rcutV; split <;> omega
/-- A part of a slice, from a place on. -/
theorem SlF.drop {B : Nat → Prop} {h : Heap} {a a' : Option Addr} {vs : List Ver} (S : SlF B h eVer a vs) {l c : Nat} (hc : vs.length ≤ c) (ha : l < c → a' = a.map (·.add (l * 4))) : SlF B h eVer a' (vs.drop l) := by
 intro hne
 have hlt : l < vs.length := by
  rcases Nat.lt_or_ge l vs.length with h | h
  ·exact h
  ·exact absurd (List.drop_of_length_le h) hne
 obtain ⟨b,o,rfl,hb,hrow⟩ := S (by rintro rfl; simp at hlt)
 refine ⟨b,o + l * 4,by rw [ha (by omega),Option.map_some,add_mk],hb,?_⟩
 have := hrow.sub (l * 4) ((vs.flatMap eVer).length - l * 4)
 rw [List.take_of_length_le (by rw [List.length_drop]; omega),flatMap_drop eVer_len] at this
 exact this
end Go.AX
namespace Go.Proofs.Ytefghfgmkndikaa
open Go Go.AX
theorem rtrim_ok {B : Nat → Prop} {a : Option Addr} {c : Nat} (cs : List Cell) (below : Stamp) (h : Heap) (S : SlC B h a cs) (hn : cs.length ≤ big) (F : ∀ c ∈ cs,c.vers.length < big) {R : Value → Heap → Prop}
  (hR : ∀ a' n' c' h',OwnC h.size h' a' n' c' (rtrimL cs below) → Ext h h' → R (.slice a' n' c') h') : CallsH Try.prog 81 [.slice a cs.length c,.agg (eStamp below).toArray] h R := by
 have hbig : big = 1000000 := rfl
 refine f81ok (by simp) ?_
 (try simp (disch:=first|exact Lb rfl|omega) only [AXR,AXB,J.dst,reduceIte,Z1,Z2,Z3,Z4,Z5]); rw [f81c0_eq]; (try simp (disch:=first|exact Lb rfl|omega) only [AXR,AXB,J.dst,reduceIte,Z1,Z2,Z3,Z4,Z5,f81r0])
 refine wL_boxN rfl ?_; rintro b1 h1 e1 s1 hb1 (B1 : Blk _ _ _ (eStamp below))
 (try simp (disch:=first|exact Lb rfl|omega) only [AXR,AXB,J.dst,reduceIte,Z1,Z2,Z3,Z4,Z5]); rw [f81c1_eq]; (try simp (disch:=first|exact Lb rfl|omega) only [AXR,AXB,J.dst,reduceIte,Z1,Z2,Z3,Z4,Z5,f81r1]); rw [f81c2_eq]; (try simp (disch:=first|exact Lb rfl|omega) only [AXR,AXB,J.dst,reduceIte,Z1,Z2,Z3,Z4,Z5,f81r2])
 refine copy_ok cs _ (S.ext e1) hn (fun c hc => Nat.le_of_lt (F c hc)) ?_
 intro al cl h2 L e2
 try simp (disch:=first|exact Lb rfl|omega) only [AXR,AXB,J.dst,reduceIte,Z1,Z2,Z3,Z4,Z5]
 (try simp (disch:=first|exact Lb rfl|omega) only [AXR,AXB,J.dst,reduceIte,Z1,Z2,Z3,Z4,Z5]); rw [f81c3_eq]; (try simp (disch:=first|exact Lb rfl|omega) only [AXR,AXB,J.dst,reduceIte,Z1,Z2,Z3,Z4,Z5,f81r3])
 rw [f81c4_eq]
 have e12 := e1.trans e2
 refine loop_in (fun n σ h' => Ext h2 h' ∧ ∃ (k m c' : Nat) (a' : Option Addr),k + n = cs.length ∧ m ≤ k ∧ OwnC h1.size h' a' m c' ((cs.take k).filterMap fun c => leftC (rtrimC below c)) ∧ (∀ j,ob a' = some j → h2.size ≤ j) ∧
   σ = [(3,ptr b1 0),(5,.slice a' m c'),(6,.slice al cs.length cl),(7,vi k)])
  cs.length ⟨Ext.refl _,0,0,0,none,by omega,by omega,OwnC.nil _ _,by simp [ob],rfl⟩ ?_
 rintro n σ h' ⟨e3,k,m,c',a',hk,hm,O,hA,rfl⟩ Q' hnx hex hrt _
 obtain ⟨vsl,L1,L2,L3⟩ := L
 have S2 : SlC (fun b => h1.size ≤ b ∧ b < h2.size) h2 al cs := OwnC.slc ⟨vsl,L1,L2,L3⟩
 (try simp (disch:=first|exact Lb rfl|omega) only [AXR,AXB,J.dst,reduceIte,Z1,Z2,Z3,Z4,Z5]); rw [f81c5_eq]; (try simp (disch:=first|exact Lb rfl|omega) only [AXR,AXB,J.dst,reduceIte,Z1,Z2,Z3,Z4,Z5,f81r4]); rw [f81c6_eq]; (try simp (disch:=first|exact Lb rfl|omega) only [AXR,AXB,J.dst,reduceIte,Z1,Z2,Z3,Z4,Z5])
 refine ⟨fun h2 => ?_,fun h2 => ?_⟩
 ·have hkl : k < cs.length := by have := of_decide_eq_true h2; omega
  obtain ⟨x,hx⟩ := get_ex hkl
  obtain ⟨b,o,v,rfl,_,hrow,hcr⟩ := S2.elem hx
  have hxF := F x (List.mem_of_getElem? hx)
  rw [f81c7_eq]
  (try simp (disch:=first|exact Lb rfl|omega) only [AXR,AXB,J.dst,reduceIte,Z1,Z2,Z3,Z4,Z5]); rw [f81c8_eq]; (try simp (disch:=first|exact Lb rfl|omega) only [AXR,AXB,J.dst,reduceIte,Z1,Z2,Z3,Z4,Z5,f81r5,row_cv (hrow.ext e3)])
  refine ⟨by omega,by omega,?_⟩
  refine wL_newN ?_; rintro b4 h4 e4 s4 hb4 B4
  refine wL_stN rfl rfl rfl B4 (by decide) (eCV_one v) ?_; rintro h5 u5 (B5 : Blk _ _ _ (eCV v))
  have e5 := u5.ext e4 (by omega)
  try simp (disch:=first|exact Lb rfl|omega) only [AXR,AXB,J.dst,reduceIte,Z1,Z2,Z3,Z4,Z5]
  have hO := O.row
  have hs1 := B1.lt
  have hs2 := e2.size
  have hs3 := e3.size
  have hs5 := e5.size
  have e35 := e3.trans e5
  have hb45 := B5.lt
  -- what is left is appended
  have app : ∀ (h8 : Heap) (τ : Env) (v8 : CV) (c8 : Cell),Ext h' h8 → Blk h8 b4 103 (eCV v8) → CR (fun b => h1.size ≤ b ∧ b < h8.size ∧ some b ≠ ob a') h8 v8 c8 → c8 = rtrimC below x →
    AX.look τ 3 = some (ptr b1 0) → AX.look τ 5 = some (.slice a' m c') → AX.look τ 8 = some (ptr b4 0) → AX.look τ 6 = some (.slice (some ⟨b,o,none⟩) cs.length cl) → AX.look τ 7 = some (vi k) →
    wC Try.prog f81c19 (X.inBlock 1 (X.then (fun σ h => wC Try.prog f81c22 Q' σ h) Q')) τ h8 := by
   intro h8 τ v8 c8 e8 B8 O8 hres l3 l5 l8 l6 l7
   have hw : IntKind.i64.wrap ((k : Int) + 1) = ((k + 1 : Nat) : Int) := i64_wrap (by omega) (by omega)
   have hskip : leftC c8 = none → wC Try.prog f81c20 (X.inBlock 1 (X.then (fun σ h => wC Try.prog f81c22 Q' σ h) Q')) [(3,ptr b1 0),(5,.slice a' m c'),(6,.slice (some ⟨b,o,none⟩) cs.length cl),(7,vi k),(8,ptr b4 0),(66,.bool false)] h8 := by
    intro hl
    (try simp (disch:=first|exact Lb rfl|omega) only [AXR,AXB,J.dst,reduceIte,Z1,Z2,Z3,Z4,Z5]); rw [f81c20_eq]; (try simp (disch:=first|exact Lb rfl|omega) only [AXR,AXB,J.dst,reduceIte,Z1,Z2,Z3,Z4,Z5,br_false])
    (try simp (disch:=first|exact Lb rfl|omega) only [AXR,AXB,J.dst,reduceIte,Z1,Z2,Z3,Z4,Z5]); rw [f81c22_eq]; (try simp (disch:=first|exact Lb rfl|omega) only [AXR,AXB,J.dst,reduceIte,Z1,Z2,Z3,Z4,Z5,f81r14,hw])
    refine hnx (n - 1) _ _ (by omega) ⟨e3.trans e8,k + 1,m,c',a',by omega,by omega,?_,hA,rfl⟩
    rw [List.take_add_one,hx,List.filterMap_append]
    simp only [Option.toList,List.filterMap_cons,List.filterMap_nil,← hres,hl,List.append_nil]
    exact O.ext e8
   have hkeep : leftC c8 = some c8 → wC Try.prog f81c20 (X.inBlock 1 (X.then (fun σ h => wC Try.prog f81c22 Q' σ h) Q')) [(3,ptr b1 0),(5,.slice a' m c'),(6,.slice (some ⟨b,o,none⟩) cs.length cl),(7,vi k),(8,ptr b4 0),(66,.bool true)] h8 := by
    intro hl
    (try simp (disch:=first|exact Lb rfl|omega) only [AXR,AXB,J.dst,reduceIte,Z1,Z2,Z3,Z4,Z5]); rw [f81c20_eq]; (try simp (disch:=first|exact Lb rfl|omega) only [AXR,AXB,J.dst,reduceIte,Z1,Z2,Z3,Z4,Z5,br_true])
    (try simp (disch:=first|exact Lb rfl|omega) only [AXR,AXB,J.dst,reduceIte,Z1,Z2,Z3,Z4,Z5]); rw [f81c21_eq]; (try simp (disch:=first|exact Lb rfl|omega) only [AXR,AXB,J.dst,reduceIte,Z1,Z2,Z3,Z4,Z5,f81r13,B8.rd,eCV])
    refine wL_bslN rfl ?_; rintro b9 h9 e9 s9 hb9 (B9 : Blk _ _ _ (eCV v8))
    try simp (disch:=first|exact Lb rfl|omega) only [AXR,AXB,J.dst,reduceIte,Z1,Z2,Z3,Z4,Z5]
    rw [wL_raw]
    have e89 := e8.trans e9
    have hs89 := e89.size
    refine raw_push rfl rfl rfl (O.ext e89) B9 (O8.to fun b hb => ⟨⟨hb.1,?_,hb.2.2⟩,e9.at_ b hb.2.1⟩) (by omega) (by omega) ?_
    ·have := e9.size; omega
    intro a10 c10 h10 O10 G10 A10
    refine ⟨trivial,?_⟩
    try simp (disch:=first|exact Lb rfl|omega) only [AXR,AXB,J.dst,reduceIte,Z1,Z2,Z3,Z4,Z5]
    (try simp (disch:=first|exact Lb rfl|omega) only [AXR,AXB,J.dst,reduceIte,Z1,Z2,Z3,Z4,Z5]); rw [f81c22_eq]; (try simp (disch:=first|exact Lb rfl|omega) only [AXR,AXB,J.dst,reduceIte,Z1,Z2,Z3,Z4,Z5,f81r14,hw])
    refine hnx (n - 1) _ _ (by omega) ⟨G10.ext (e3.trans e89) hA,k + 1,m + 1,c10,a10,by omega,by omega,?_,?_,rfl⟩
    ·rw [List.take_add_one,hx,List.filterMap_append]
     simp only [Option.toList,List.filterMap_cons,List.filterMap_nil,← hres,hl]
     exact O10
    ·intro j hj
     rcases A10 with e | ⟨q,e,hq⟩
     ·exact hA j (e ▸ hj)
     ·rw [e] at hj; cases hj; omega
   (try simp (disch:=first|exact Lb rfl|omega) only [AXR,AXB,J.dst,reduceIte,Z1,Z2,Z3,Z4,Z5]); rw [f81c19_eq]; (try simp (disch:=first|exact Lb rfl|omega) only [AXR,AXB,J.dst,reduceIte,Z1,Z2,Z3,Z4,Z5,f81r12,B8.cel,eCV,l3,l5,l8,l6,l7])
   have hlk := O8.locked
   rw [vers_pos c8 O8.vn,hlk]
   refine ⟨fun hl => hkeep (by simp [leftC,hl]),fun hl => ?_⟩
   by_cases hv : c8.vers = []
   ·rw [decide_eq_false (by simp [hv])]
    exact hskip (by simp [leftC,hl,hv])
   ·rw [decide_eq_true hv]
    exact hkeep (by simp [leftC,hv])
  have O5 : CR (fun b => h1.size ≤ b ∧ b < h5.size ∧ some b ≠ ob a' ∧ b ≠ b4) h5 v x := hcr.to fun b hb => ⟨⟨hb.1,by omega,fun e => by have := hA b e.symm; omega,by omega⟩,e35.at_ b hb.2⟩
  have hcap := hcr.cap
  -- the slicing
  have sli : ∀ (h8 : Heap) (l : Nat) (τ : Env),Ext h5 h8 → l = rcutV x.vers below →
    AX.look τ 3 = some (ptr b1 0) → AX.look τ 5 = some (.slice a' m c') → AX.look τ 8 = some (ptr b4 0) → AX.look τ 6 = some (.slice (some ⟨b,o,none⟩) cs.length cl) → AX.look τ 7 = some (vi k) → AX.look τ 9 = some (vi l) →
    wC Try.prog f81c18 (X.inBlock 1 (X.then (fun σ h => wC Try.prog f81c22 Q' σ h) Q')) τ h8 := by
   intro h8 l τ e8 hl l3 l5 l8 l6 l7 l9
   have hll := rcutV_le x.vers below
   rw [← hl] at hll
   have B8 := B5.ext e8
   have hvn := hcr.vn
   (try simp (disch:=first|exact Lb rfl|omega) only [AXR,AXB,J.dst,reduceIte,Z1,Z2,Z3,Z4,Z5]); rw [f81c18_eq]; (try simp (disch:=first|exact Lb rfl|omega) only [AXR,AXB,J.dst,reduceIte,Z1,Z2,Z3,Z4,Z5,f81r11,B8.cel,eCV,l3,l5,l8,l6,l7,l9])
   refine slc_lo' (l := l) (by omega) hcap ?_
   intro a9 ha9
   try simp (disch:=first|exact Lb rfl|omega) only [AXR,AXB,J.dst,reduceIte,Z1,Z2,Z3,Z4,Z5,l3,l5,l8,l6,l7,l9]
   refine wL_stN rfl rfl rfl B8 (by rw [eCV_len]; exact Nat.le_of_ble_eq_true rfl) (one_sl _ _ _) ?_
   rintro h9 u9 (B9 : Blk _ _ _ (eCV { v with va := a9,vn := v.vn - l,vc := v.vc - l }))
   simp (disch:=first|exact Lb rfl|omega) only [AXR,AXB,J.dst,reduceIte,Z1,Z2,Z3,Z4,Z5,l3,l5,l8,l6,l7,l9]
   refine app h9 _ { v with va := a9,vn := v.vn - l,vc := v.vc - l } (rtrimC below x) (u9.ext (e5.trans e8) (by omega)) B9 ?_ rfl rfl rfl rfl rfl rfl
   refine ⟨hcr.key,hcr.locked,hcr.lock,?_,Nat.sub_le_sub_right hcap l,?_⟩
   ·show v.vn - l = (x.vers.drop _).length
    rw [List.length_drop,← hl,hvn]
   ·show SlF _ _ _ _ (x.vers.drop _)
    rw [← hl]
    refine (O5.vers.drop (c := v.vc) (by rw [← hvn]; exact hcap) ha9).to fun b hb => ⟨⟨hb.1,by rw [u9.size]; have := e8.size; omega,hb.2.2.1⟩,(u9.ne b hb.2.2.2).trans (e8.at_ b hb.2.1)⟩
  have B17 : Blk h5 b1 39 (eStamp below) := B1.ext (e2.trans e35)
  have hvn := hcr.vn
  have hpl := preV_le x.vers below
  -- behind the loop
  have stop : ∀ (h8 : Heap) (τ : Env),Ext h5 h8 →
    AX.look τ 3 = some (ptr b1 0) → AX.look τ 5 = some (.slice a' m c') → AX.look τ 8 = some (ptr b4 0) → AX.look τ 6 = some (.slice (some ⟨b,o,none⟩) cs.length cl) → AX.look τ 7 = some (vi k) → AX.look τ 9 = some (vi (preV x.vers below)) →
    wC Try.prog f81c15 (X.inBlock 1 (X.then (fun σ h => wC Try.prog f81c22 Q' σ h) Q')) τ h8 := by
   intro h8 τ e8 l3 l5 l8 l6 l7 l9
   have B8 := B5.ext e8
   (try simp (disch:=first|exact Lb rfl|omega) only [AXR,AXB,J.dst,reduceIte,Z1,Z2,Z3,Z4,Z5]); rw [f81c15_eq]; (try simp (disch:=first|exact Lb rfl|omega) only [AXR,AXB,J.dst,reduceIte,Z1,Z2,Z3,Z4,Z5,f81r9,B8.cel,eCV,l3,l5,l8,l6,l7,l9,hvn])
   generalize hp : preV x.vers below = p at *
   refine ⟨fun hh => ?_,fun hh => ?_⟩
   ·have hpos : 0 < p := by have := of_decide_eq_true hh; omega
    have hw : IntKind.i64.wrap ((p : Int) - 1) = ((p - 1 : Nat) : Int) := by rw [i64_wrap (by omega) (by omega)]; omega
    obtain ⟨u,hu⟩ := get_ex (show p - 1 < x.vers.length by omega)
    obtain ⟨b',o',ha,_,hrow'⟩ := (O5.ext e8).vers.elem eVer_len hu
    simp (disch:=first|exact Lb rfl|omega) only [AXR,AXB,J.dst,reduceIte,Z1,Z2,Z3,Z4,Z5,hw,ha,row_ver hrow']
    refine ⟨by omega,by omega,?_⟩
    cases hd : u.drop with
    | false =>
     (try simp (disch:=first|exact Lb rfl|omega) only [AXR,AXB,J.dst,reduceIte,Z1,Z2,Z3,Z4,Z5]); rw [f81c16_eq]; (try simp (disch:=first|exact Lb rfl|omega) only [AXR,AXB,J.dst,reduceIte,Z1,Z2,Z3,Z4,Z5,Bool.not_false,br_true])
     (try simp (disch:=first|exact Lb rfl|omega) only [AXR,AXB,J.dst,reduceIte,Z1,Z2,Z3,Z4,Z5]); rw [f81c17_eq]; (try simp (disch:=first|exact Lb rfl|omega) only [AXR,AXB,J.dst,reduceIte,Z1,Z2,Z3,Z4,Z5,f81r10,hw])
     refine sli h8 (p - 1) _ e8 ?_ rfl rfl rfl rfl rfl rfl
     unfold rcutV
     rw [hp,if_pos ⟨hpos,by rw [getD_of hu]; exact hd⟩]
    | true =>
     (try simp (disch:=first|exact Lb rfl|omega) only [AXR,AXB,J.dst,reduceIte,Z1,Z2,Z3,Z4,Z5]); rw [f81c16_eq]; (try simp (disch:=first|exact Lb rfl|omega) only [AXR,AXB,J.dst,reduceIte,Z1,Z2,Z3,Z4,Z5,Bool.not_true,br_false])
     refine sli h8 p _ e8 ?_ rfl rfl rfl rfl rfl rfl
     unfold rcutV
     rw [hp,if_neg (fun h => by have := h.2; rw [getD_of hu,hd] at this; cases this)]
   ·have hz : p = 0 := by have := of_decide_eq_false hh; omega
    (try simp (disch:=first|exact Lb rfl|omega) only [AXR,AXB,J.dst,reduceIte,Z1,Z2,Z3,Z4,Z5]); rw [f81c16_eq]; (try simp (disch:=first|exact Lb rfl|omega) only [AXR,AXB,J.dst,reduceIte,Z1,Z2,Z3,Z4,Z5,br_false])
    refine sli h8 p _ e8 ?_ rfl rfl rfl rfl rfl rfl
    unfold rcutV
    rw [hp,if_neg (fun h => by have := h.1; omega)]
  (try simp (disch:=first|exact Lb rfl|omega) only [AXR,AXB,J.dst,reduceIte,Z1,Z2,Z3,Z4,Z5]); rw [f81c9_eq]; (try simp (disch:=first|exact Lb rfl|omega) only [AXR,AXB,J.dst,reduceIte,Z1,Z2,Z3,Z4,Z5,f81r6])
  rw [f81c10_eq]
  refine loop_in (fun n2 σ h'' => Ext h5 h'' ∧ ∃ j : Nat,j + n2 = x.vers.length ∧ σ = [(3,ptr b1 0),(5,.slice a' m c'),(6,.slice (some ⟨b,o,none⟩) cs.length cl),(7,vi k),(8,ptr b4 0),(9,vi j)] ∧ ∀ p u,p < j → x.vers[p]? = some u → Stamp.lt below u.at_ = false)
   x.vers.length ⟨Ext.refl _,0,by omega,rfl,by intros; omega⟩ ?_
  rintro n2 σ h8 ⟨e8,j,hj,rfl,hnk⟩ Q2 hnx2 hex2 hrt2 hnr2
  have B8 := B5.ext e8
  have B18 := B17.ext e8
  rw [f81c11_eq]
  refine drw_lt ?_
  simp only [f81r7,wL_mov,wL_fad,wL_ld1,wL_len,wL_bin,wL_sc,evO_tmp,look_cons,Nat.reduceEqDiff,reduceIte,bd_some,asP_ptr,ldOk_some,ldHeap_some,B8.cel,eCV,List.getElem?_cons_succ,List.getElem?_cons_zero,Nat.zero_add,lenV_sl,hvn,binV_lss,asB_bool,br_eqT]
  refine ⟨B8.lt,fun hh => ?_,fun hh => ?_⟩
  ·have hjl : j < x.vers.length := by have := of_decide_eq_true hh; omega
   obtain ⟨u,hu⟩ := get_ex hjl
   obtain ⟨b',o',ha,_,hrow'⟩ := (O5.ext e8).vers.elem eVer_len hu
   rw [ha]
   simp (disch:=first|exact Lb rfl|omega) only [AXR,AXB,J.dst,reduceIte,Z1,Z2,Z3,Z4,Z5,ha,B8.cel,B18.rd,row_ver hrow',eCV,eStamp,hvn]
   refine ⟨B18.lt,B8.lt,by omega,by omega,hrow'.lt (by rw [eVer_len]; omega),?_⟩
   refine rless_ok below u.at_ _ ?_
   intro h9 e9
   refine ⟨kp_ext (Nat.le_refl _) e9,?_⟩
   try simp (disch:=first|exact Lb rfl|omega) only [AXR,AXB,J.dst,reduceIte,Z1,Z2,Z3,Z4,Z5]
   (try simp (disch:=first|exact Lb rfl|omega) only [AXR,AXB,J.dst,reduceIte,Z1,Z2,Z3,Z4,Z5]); rw [f81c12_eq]; (try simp (disch:=first|exact Lb rfl|omega) only [AXR,AXB,J.dst,reduceIte,Z1,Z2,Z3,Z4,Z5])
   refine ⟨fun h4 => ?_,fun h4 => ?_⟩
   ·have h4' : Stamp.lt below u.at_ = false := by simpa using h4
    rw [f81c13_eq]
    (try simp (disch:=first|exact Lb rfl|omega) only [AXR,AXB,J.dst,reduceIte,Z1,Z2,Z3,Z4,Z5]); rw [f81c14_eq]; (try simp (disch:=first|exact Lb rfl|omega) only [AXR,AXB,J.dst,reduceIte,Z1,Z2,Z3,Z4,Z5,f81r8])
    rw [i64_wrap (by omega) (by omega)]
    refine hnx2 (n2 - 1) _ _ (by omega) ⟨e8.trans e9,j + 1,by omega,rfl,?_⟩
    intro p u' hp hu'
    rcases Nat.lt_or_ge p j with hlt | hge
    ·exact hnk p u' hlt hu'
    ·have : p = j := by omega
     subst this
     rw [hu] at hu'; cases hu'; exact h4'
   ·have h4' : Stamp.lt below u.at_ = true := by simpa using h4
    have hpe := preV_eq below x.vers j (by omega) hnk (fun u' hu' => by rw [hu] at hu'; cases hu'; exact h4')
    refine hex2 _ _ ?_
    exact stop h9 _ (e8.trans e9) rfl rfl rfl rfl rfl (by rw [hpe]; rfl)
  ·have hjl : j = x.vers.length := by have := of_decide_eq_false hh; omega
   have hpe := preV_eq below x.vers j (by omega) hnk (fun u' hu' => by rw [hjl,List.getElem?_eq_none (Nat.le_refl _)] at hu'; cases hu')
   try simp (disch:=first|exact Lb rfl|omega) only [AXR,AXB,J.dst,reduceIte,Z1,Z2,Z3,Z4,Z5]
   (try simp (disch:=first|exact Lb rfl|omega) only [AXR,AXB,J.dst,reduceIte,Z1,Z2,Z3,Z4,Z5]); rw [f81c12_eq]; (try simp (disch:=first|exact Lb rfl|omega) only [AXR,AXB,J.dst,reduceIte,Z1,Z2,Z3,Z4,Z5,br_false])
   refine hex2 _ _ ?_
   exact stop h8 _ e8 rfl rfl rfl rfl rfl (by rw [hpe]; rfl)
 ·have hkl : k = cs.length := by have := of_decide_eq_false h2; omega
  subst hkl
  refine hex _ _ ?_
  (try simp (disch:=first|exact Lb rfl|omega) only [AXR,AXB,J.dst,reduceIte,Z1,Z2,Z3,Z4,Z5]); rw [f81c23_eq]; (try simp (disch:=first|exact Lb rfl|omega) only [AXR,AXB,J.dst,reduceIte,Z1,Z2,Z3,Z4,Z5,f81r15])
  rw [List.take_length] at O
  exact hR _ _ _ _ (O.mono e1.size) (e12.trans e3)
end Go.Proofs.Ytefghfgmkndikaa
namespace Go.AX
open Go
/-- Where the reference lays a lock. -/
def rlockL (cs : List Cell) (w : Wri) (l : Lck) : List Cell :=
 if findK cs w.key < 0 then cs.take (lbK cs w.key) ++ [⟨w.key,[],true,lkW w l⟩] ++ cs.drop (lbK cs w.key)
 else cs.set (findK cs w.key).toNat { cs.getD (findK cs w.key).toNat default with locked := true,lock := lkW w l }
theorem wT_one (P : Program) (m : Option Md) (is : List I) (r : L) (C : Env → Heap → Prop) (σ : Env) (h : Heap) : wT P m (.one is r) C σ h = wL P m is 0 (fun σ h => wT P m r C σ h) σ h := rfl
theorem wT_alt (P : Program) (m : Option Md) (a b : L) (C : Env → Heap → Prop) (σ : Env) (h : Heap) : wT P m (.alt a b) C σ h = (wT P m a C σ h ∧ wT P m b C σ h) := rfl
theorem wT_nil (P : Program) (m : Option Md) (C : Env → Heap → Prop) (σ : Env) (h : Heap) : wT P m .nil C σ h = C σ h := rfl
theorem slc_hi' {sz n c u : Nat} {a : Option Addr} {K : Value → Prop} (h2 : u ≤ c) (H : ∀ a',(∀ b o,a = some ⟨b,o,none⟩ → a' = some ⟨b,o,none⟩) → K (.slice a' u c)) : slcV sz (.slice a n c) none (some (vi u)) none K := by
 simp only [slcV,asI_int,bd_some,Int.toNat_natCast]
 refine ⟨by omega,by omega,by omega,by omega,H _ ?_⟩
 rintro b o rfl
 split
 ·rfl
 ·simp [add_mk]
theorem kp_gr {h0 h h' : Heap} {row : Option Nat} (G : Gr row h h') (hs : h0.size ≤ h.size) (hr : ∀ k,row = some k → h0.size ≤ k) : kpOk (some ⟨(· < h0.size),h0⟩) h h' :=
 fun b hb => G.at_ b (Nat.lt_of_lt_of_le hb hs) (fun e => by have := hr b e.symm; have : b < h0.size := hb; omega)
end Go.AX
namespace Go.Proofs.Ytefghfgmkndikaa
open Go Go.AX
theorem rlock_ok {B : Nat → Prop} {a : Option Addr} {c : Nat} (cs : List Cell) (w : Wri) (l : Lck) (h : Heap) (S : SlC B h a cs) (hn : cs.length < big) (F : ∀ c ∈ cs,c.vers.length ≤ big) {R : Value → Heap → Prop}
  (hR : ∀ a' n' c' h',OwnC h.size h' a' n' c' (rlockL cs w l) → Ext h h' → R (.slice a' n' c') h') : CallsH Try.prog 79 [.slice a cs.length c,.agg (eWri w).toArray,.agg (eLck l).toArray] h R := by
 have hbig : big = 1000000 := rfl
 refine f79ok (by simp) ?_
 (try simp (disch:=first|exact Lb rfl|omega) only [AXR,AXB,J.dst,reduceIte,Z1,Z2,Z3,Z4,Z5]); rw [f79c0_eq]; (try simp (disch:=first|exact Lb rfl|omega) only [AXR,AXB,J.dst,reduceIte,Z1,Z2,Z3,Z4,Z5,f79r0])
 refine wL_boxN rfl ?_; rintro b1 h1 e1 s1 hb1 (B1 : Blk _ _ _ (eWri w))
 refine wL_boxN rfl ?_; rintro b2 h2 e2 s2 hb2 (B2 : Blk _ _ _ (eLck l))
 have hl1 := B1.lt
 replace B1 := B1.ext e2
 have hne : b1 ≠ b2 := by omega
 have e12 := e1.trans e2
 (try simp (disch:=first|exact Lb rfl|omega) only [AXR,AXB,J.dst,reduceIte,Z1,Z2,Z3,Z4,Z5]); rw [f79c1_eq]; (try simp (disch:=first|exact Lb rfl|omega) only [AXR,AXB,J.dst,reduceIte,Z1,Z2,Z3,Z4,Z5,f79r1])
 refine copy_ok cs _ (S.ext e12) (by omega) F ?_
 intro al cl h3 L e3
 try simp (disch:=first|exact Lb rfl|omega) only [AXR,AXB,J.dst,reduceIte,Z1,Z2,Z3,Z4,Z5]
 have hl2 := B2.lt
 have hz3 := e3.size
 replace B1 := B1.ext e3
 replace B2 := B2.ext e3
 have hLo := L.row
 (try simp (disch:=first|exact Lb rfl|omega) only [AXR,AXB,J.dst,reduceIte,Z1,Z2,Z3,Z4,Z5]); rw [f79c2_eq]; (try simp (disch:=first|exact Lb rfl|omega) only [AXR,AXB,J.dst,reduceIte,Z1,Z2,Z3,Z4,Z5,f79r2])
 refine ⟨fun b => b < h3.size ∧ b ≠ b2,fun b hb => hb.1,?_⟩
 simp (disch:=first|exact Lb rfl|omega) only [AXR,AXB,J.dst,reduceIte,Z1,Z2,Z3,Z4,Z5,f79r2,B1.cel,eWri]
 refine ⟨⟨by omega,hne⟩,⟨by omega,hne⟩,?_⟩
 refine wL_stD rfl rfl (fun h => h.2 rfl) rfl B2 (Nat.le_of_ble_eq_true rfl) (one_b _) ?_
 intro h4 u4 B4
 simp (disch:=first|exact Lb rfl|omega) only [AXR,AXB,J.dst,reduceIte,Z1,Z2,Z3,Z4,Z5]
 refine wL_stD rfl rfl (fun h => h.2 rfl) rfl B4 (Nat.le_of_ble_eq_true rfl) (one_s _) ?_
 rintro h5 u5 (B5 : Blk _ _ _ (eLck { l with drop := w.drop,data := w.data }))
 have B15 := u5.blk (u4.blk B1 hne) hne
 have e35 : Ext h h5 := u5.ext (u4.ext (e12.trans e3) (by omega)) (by omega)
 have U35 : ∀ j,h2.size ≤ j → h5[j]? = h3[j]? := fun j hj => (u5.ne j (by omega)).trans (u4.ne j (by omega))
 have hs35 : h5.size = h3.size := u5.size.trans u4.size
 obtain ⟨vs,L1,L2,L3⟩ := L
 -- the copy,where it is after the stores
 have hcopy : OwnC h2.size h5 al cs.length cl cs := by
  refine ⟨vs,?_,L2,L3.imp fun _ _ r => r.to fun b hb => ⟨⟨hb.1,by rw [hs35]; exact hb.2.1,hb.2.2⟩,U35 b hb.1⟩⟩
  refine ⟨L1.1,L1.2.imp id ?_⟩
  rintro ⟨g,cur,rfl,h1',h2',h3'⟩
  exact ⟨g,cur,rfl,h1',by rw [U35 g h1']; exact h2',h3'⟩
 have rest : ∀ (h6 : Heap) (τ : Env),Ext h h6 → h2.size ≤ h6.size → OwnC h2.size h6 al cs.length cl cs → Blk h6 b1 70 (eWri w) → Blk h6 b2 72 (eLck (lkW w l)) →
   AX.look τ 4 = some (ptr b1 0) → AX.look τ 5 = some (ptr b2 0) → AX.look τ 7 = some (.slice al cs.length cl) → wC Try.prog f79c6 (endW [Rs.tmp 6] R) τ h6 := by
  intro h6 τ e6 hz26 O6 B1 B2 l4 l5 l7
  have hlb := lbK_le cs w.key
  have hg12 := B2.lt
  -- the last part
  have fin : ∀ (h8 : Heap) (i : Nat) (τ : Env) (a8 : Option Addr) (n8 c8 : Nat) (ds : List Cell) (x : Cell),Ext h h8 → OwnC h2.size h8 a8 n8 c8 ds → ds[i]? = some x → Blk h8 b2 72 (eLck (lkW w l)) →
    ds.set i { x with locked := true,lock := lkW w l } = rlockL cs w l → AX.look τ 5 = some (ptr b2 0) → AX.look τ 7 = some (.slice a8 n8 c8) → AX.look τ 8 = some (vi i) → wC Try.prog f79c16 (endW [Rs.tmp 6] R) τ h8 := by
   intro h8 i τ a8 n8 c8 ds x e8 O8 hx B8 hres l5 l7 l8
   obtain ⟨vs,h1',h2',h3'⟩ := O8
   have hxl := (List.getElem?_eq_some_iff.1 hx).1
   obtain ⟨v,hv,hcr⟩ := h3'.get hx
   obtain ⟨hr1,hr2⟩ := h1'.room
   obtain ⟨g,cur,rfl,hg,G,hcl,hct⟩ := h1'.blk (by omega)
   have hgb : g ≠ b2 := by omega
   have hle : i * 12 + 12 ≤ c8 * 12 := by omega
   rw [f79c16_eq]
   refine ⟨fun b => b < h8.size ∧ b ≠ g,fun b hb => hb.1,?_⟩
   simp (disch:=first|exact Lb rfl|omega) only [AXR,AXB,J.dst,reduceIte,Z1,Z2,Z3,Z4,Z5,f79r11,B8.rd,eLck,l5,l7,l8]
   refine ⟨⟨B8.lt,fun e => hgb e.symm⟩,by omega,by omega,?_⟩
   refine wL_stD rfl rfl (fun h => h.2 rfl) rfl G (by rw [hcl]; omega) (one_b _) ?_
   intro h9 u9 B9
   simp (disch:=first|exact Lb rfl|omega) only [AXR,AXB,J.dst,reduceIte,Z1,Z2,Z3,Z4,Z5,l5,l7,l8]
   refine ⟨by omega,by omega,?_⟩
   refine wL_stD rfl rfl (fun h => h.2 rfl) rfl B9 (by rw [putL_length,hcl]; omega) (one_lck (lkW w l)) ?_
   intro h10 u10 B10
   try simp (disch:=first|exact Lb rfl|omega) only [AXR,AXB,J.dst,reduceIte,Z1,Z2,Z3,Z4,Z5,l5,l7,l8]
   (try simp (disch:=first|exact Lb rfl|omega) only [AXR,AXB,J.dst,reduceIte,Z1,Z2,Z3,Z4,Z5]); rw [f79c17_eq]; (try simp (disch:=first|exact Lb rfl|omega) only [AXR,AXB,J.dst,reduceIte,Z1,Z2,Z3,Z4,Z5,f79r12])
   have hu : Upd g h8 h10 := ⟨by rw [u10.size,u9.size],fun k hk => (u10.ne k hk).trans (u9.ne k hk)⟩
   have hs2 := e12.size
   have hgh : h.size ≤ g := by omega
   refine hR _ _ _ _ ⟨vs.set i { v with locked := true,lock := lkW w l },?_,?_,?_⟩ (hu.ext e8 hgh)
   ·simp only [Nat.zero_add] at B9 B10
    have P1 := h1'.put (h' := h9) eCV_len (by rw [h2',h3'.length]) hv rfl G (off := 2) (vals := [.bool true]) (v' := { v with locked := true }) (by exact B9) rfl (by simp)
    have P2 := P1.put (h' := h10) eCV_len (by rw [List.length_set,h2',h3'.length]) (i := i) (v := { v with locked := true }) (by rw [List.getElem?_set_self (by rw [h3'.length]; exact hxl)]) rfl B9 (off := 3) (vals := eLck (lkW w l))
     (v' := { v with locked := true,lock := lkW w l }) (by exact B10) rfl (by simp [eLck])
    rw [List.set_set] at P2
    exact P2.mono hs2
   ·rw [← hres,List.length_set]; exact h2'
   ·rw [← hres]
    have hto : ∀ b,(h2.size ≤ b ∧ b < h8.size ∧ some b ≠ ob (some (⟨g,0,none⟩ : Addr))) → (h.size ≤ b ∧ b < h10.size ∧ some b ≠ ob (some (⟨g,0,none⟩ : Addr))) ∧ h10[b]? = h8[b]? := by
     rintro b ⟨b1,b2,b3⟩
     exact ⟨⟨by omega,by rw [hu.size]; exact b2,b3⟩,hu.ne b (fun e => b3 (by rw [e]; rfl))⟩
    have r := hcr.to hto
    exact (h3'.imp fun _ _ r => r.to hto).set ⟨r.key,rfl,rfl,r.vn,r.cap,r.vers⟩
  (try simp (disch:=first|exact Lb rfl|omega) only [AXR,AXB,J.dst,reduceIte,Z1,Z2,Z3,Z4,Z5]); rw [f79c6_eq]; (try simp (disch:=first|exact Lb rfl|omega) only [AXR,AXB,J.dst,reduceIte,Z1,Z2,Z3,Z4,Z5,f79r5,B1.cel,eWri,l4,l5,l7])
  refine rfind_ok cs w.key _ O6.slc (by unfold maxLen; omega) ?_
  try simp (disch:=first|exact Lb rfl|omega) only [AXR,AXB,J.dst,reduceIte,Z1,Z2,Z3,Z4,Z5]
  (try simp (disch:=first|exact Lb rfl|omega) only [AXR,AXB,J.dst,reduceIte,Z1,Z2,Z3,Z4,Z5]); rw [f79c7_eq]; (try simp (disch:=first|exact Lb rfl|omega) only [AXR,AXB,J.dst,reduceIte,Z1,Z2,Z3,Z4,Z5,f79r6]); rw [f79c8_eq]; (try simp (disch:=first|exact Lb rfl|omega) only [AXR,AXB,J.dst,reduceIte,Z1,Z2,Z3,Z4,Z5])
  refine ⟨fun hh => ?_,fun hh => ?_⟩
  ·have hneg := of_decide_eq_true hh
   (try simp (disch:=first|exact Lb rfl|omega) only [AXR,AXB,J.dst,reduceIte,Z1,Z2,Z3,Z4,Z5]); rw [f79c9_eq]; (try simp (disch:=first|exact Lb rfl|omega) only [AXR,AXB,J.dst,reduceIte,Z1,Z2,Z3,Z4,Z5,f79r7])
   rw [f79c10_eq]
   have ins : ∀ τ,AX.look τ 4 = some (ptr b1 0) → AX.look τ 5 = some (ptr b2 0) → AX.look τ 7 = some (.slice al cs.length cl) → AX.look τ 8 = some (vi (lbK cs w.key)) →
     wC Try.prog f79c15 (X.then (fun σ h => wC Try.prog f79c16 (endW [Rs.tmp 6] R) σ h) (endW [Rs.tmp 6] R)) τ h6 := by
    intro τ l4 l5 l7 l8
    generalize hi : lbK cs w.key = i at *
    rw [f79c15_eq]
    refine drt_lt ?_
    obtain ⟨vs,C1,C2,C3⟩ := O6
    obtain ⟨hr1,hr2⟩ := C1.room
    obtain ⟨new,hnew⟩ : ∃ new : CV,new = ⟨w.key,none,0,0,false,noLock⟩ := ⟨_,rfl⟩
    simp only [f79r10,wT_one,wL_mov,evO_tmp,look_cons,Nat.reduceEqDiff,reduceIte,l7,l8,bd_some,wL_slc,evOo_none,evOo_some,Option.map_some]
    refine slc_hi' (u := i) (by omega) ?_
    intro a45 h45
    simp only [wL_fad,wL_ld1,wL_bld,wL_mov,evO_tmp,look_cons,Nat.reduceEqDiff,reduceIte,l4,l7,l8,bd_some,asP_ptr,ldOk_some,ldHeap_some,B1.cel,eWri,Nat.zero_add,List.getElem?_cons_zero,fillL_cons,fillL_nil,Option.bind_some,cells_string,List.size_toArray,List.length_cons,List.length_nil,Nat.reduceAdd,Nat.reduceLeDiff,and_self,putL_cons,putL_nil,List.set_cons_zero,wL_slc,evOo_none,evOo_some,Option.map_some]
    refine ⟨B1.lt,?_⟩
    refine slc_lo' (l := i) hlb hr1 ?_
    intro a54 h54
    have t3 : ∀ (o51 o55 : Oper) (h8 : Heap) (b50 : Nat) (a46 : Option Addr) (c46 : Nat) (τ : Env),o51.op = .call ⟨.builtin .append, #[.tmp 46,.tmp 50], #[74,74]⟩ → o55.op = .call ⟨.builtin .append, #[.tmp 51,.tmp 54], #[74,74]⟩ → Ext h6 h8 → Blk h8 b50 103 (eCV new) → Own h6.size h8 103 12 a46 i c46 ((vs.take i).flatMap eCV) →
      AX.look τ 46 = some (.slice a46 i c46) → AX.look τ 50 = some (sl b50 0 1 1) → AX.look τ 54 = some (.slice a54 (cs.length - i) (cl - i)) → AX.look τ 5 = some (ptr b2 0) → AX.look τ 8 = some (vi i) →
      wL Try.prog (some ⟨(· < h6.size),h6⟩) [.op (.raw (some 51) o51),.op (.raw (some 55) o55),.op (.mov 7 (.tmp 55)),.kp [5,7,8]] 0 (fun σ h => wC Try.prog f79c16 (endW [Rs.tmp 6] R) σ h) τ h8 := by
     intro o51 o55 h8 b50 a46 c46 τ ho51 ho55 e8 B50 O46 l46 l50 l54 l5 l8
     rw [wL_raw]
     refine raw_append slT74 ho51 (by exact l46) (by exact l50) O46 (news := eCV new) (by rw [eCV_len]) (.inr ⟨b50,0,rfl,B50.row⟩) (eCV_one new) (by unfold maxLen; omega) (by omega) e8.size ?_
     intro a51 c51 h9 O51 G9 A9
     have e9 : Ext h6 h9 := G9.ext e8 (fun k hk => (O46.ob k hk).1)
     refine ⟨kp_gr G9 e8.size (fun k hk => (O46.ob k hk).1),?_⟩
     rw [putE_some,wL_raw]
     refine raw_append slT74 ho55 rfl (by exact l54) O51 (news := (vs.drop i).flatMap eCV) (by rw [flatMap_length eCV_len,List.length_drop,← C3.length]) ?_ (one_flatMap eCV_one _) (by unfold maxLen; omega) (by omega) e9.size ?_
     ·rcases Nat.lt_or_ge i cs.length with hil | hil
      ·obtain ⟨g,rfl,hg,hrow⟩ := C1.row (by omega)
       refine .inr ⟨g,i * 12,?_,?_⟩
       ·rw [h54 (by omega),Option.map_some,add_mk,Nat.zero_add]
       ·have := (hrow.ext e9).sub (i * 12) ((vs.flatMap eCV).length - i * 12)
        rw [List.take_of_length_le (by rw [List.length_drop]; omega),flatMap_drop eCV_len,Nat.zero_add] at this
        exact this
      ·exact .inl (by omega)
     intro a55 c55 h10 O55 G10 A10
     have e10 : Ext h6 h10 := G10.ext e9 (fun k hk => (O51.ob k hk).1)
     refine ⟨kp_gr G10 e9.size (fun k hk => (O51.ob k hk).1),?_⟩
     simp (disch:=first|exact Lb rfl|omega) only [AXR,AXB,J.dst,reduceIte,Z1,Z2,Z3,Z4,Z5,l5,l8]
     have hO55 := O55.ob
     refine fin h10 i _ a55 _ c55 (cs.take i ++ [⟨w.key,[],false,noLock⟩] ++ cs.drop i) ⟨w.key,[],false,noLock⟩ (e6.trans e10) ⟨vs.take i ++ [new] ++ vs.drop i,?_,?_,?_⟩ ?_ (B2.ext e10) ?_ rfl rfl rfl
     ·rw [List.flatMap_append,List.flatMap_append]
      simpa using O55.mono hz26
     ·simp; omega
     ·have h3' := C3.imp fun _ _ r => r.to (B' := fun b => h2.size ≤ b ∧ b < h10.size ∧ some b ≠ ob a55) (h' := h10) fun b hb => ⟨⟨hb.1,by have := e10.size; omega,fun e => by have := (hO55 b e.symm).1; omega⟩,e10.at_ b hb.2.1⟩
      exact ((h3'.take _).append (.cons (by rw [hnew]; exact ⟨rfl,rfl,rfl,rfl,Nat.le_refl _,SlF.nil⟩) .nil)).append (h3'.drop _)
     ·rw [List.append_assoc,List.getElem?_append_right (by simp; omega)]
      simp [Nat.min_eq_left hlb]
     ·unfold rlockL
      rw [if_pos hneg,hi]
      rw [List.append_assoc,List.set_append_right _ _ (by simp; omega)]
      simp [Nat.min_eq_left hlb]
    have r45 : ∀ h8,Ext h6 h8 → i = 0 ∨ ∃ b q,a45 = some ⟨b,q,none⟩ ∧ Row h8 b q ((vs.take i).flatMap eCV) := by
     intro h8 e8
     rcases Nat.eq_zero_or_pos i with hz | hp
     ·exact .inl hz
     ·obtain ⟨g,rfl,hg,hrow⟩ := C1.row (by omega)
      refine .inr ⟨g,0,h45 _ _ rfl,?_⟩
      have := (hrow.ext e8).sub 0 (i * 12)
      rw [List.drop_zero,flatMap_take eCV_len] at this
      exact this
    have hl45 : ((vs.take i).flatMap eCV).length = i * 12 := by rw [flatMap_length eCV_len,List.length_take,C3.length,Nat.min_eq_left hlb]
    rw [wL_nil,wT_alt]
    refine ⟨?_,?_⟩
    ·rw [wT_one]
     refine wL_bslD rfl (Nat.le_refl _) ?_; intro b42 h42 e42 s42 hb42 B42
     have hg42 : h6.size ≤ b42 := by omega
     rw [wL_nil,wT_alt]
     refine ⟨?_,?_⟩
     ·rw [wT_one]
      rw [wL_raw]
      refine raw_append slT74 rfl rfl rfl (Own.of_blk (lo := h6.size) (n := 0) (c := 0) (xs := []) hg42 B42 (by simp) (Nat.le_refl _) (Nat.zero_le _) (by simp)) hl45 (r45 _ e42) (one_flatMap eCV_one _) (by unfold maxLen; omega) (by omega) e42.size ?_
      intro a46 c46 h46 O46 G46 A46
      rw [Nat.zero_add] at O46
      have e46 : Ext h6 h46 := G46.ext e42 (fun k hk => by cases hk; exact hg42)
      refine ⟨kp_gr G46 e42.size (fun k hk => by cases hk; exact hg42),?_⟩
      refine wL_bslD rfl e46.size ?_; rintro b50 h50 e50 s50 hb50 (B50 : Blk _ _ _ (eCV ⟨w.key,none,0,0,false,noLock⟩))
      rw [← hnew] at B50
      exact t3 _ _ h50 b50 a46 c46 _ rfl rfl (e46.trans e50) B50 (by simpa using O46.ext e50) (by simp only [Nat.zero_add]; rfl) rfl rfl (by exact l5) (by exact l8)
     ·rw [wT_one]
      refine wL_bslD rfl e42.size ?_; rintro b50 h50 e50 s50 hb50 (B50 : Blk _ _ _ (eCV ⟨w.key,none,0,0,false,noLock⟩))
      rw [← hnew] at B50
      have B42' := B42.ext e50
      have e450 := e42.trans e50
      rw [wL_raw]
      refine raw_append slT74 rfl rfl rfl (Own.of_blk (lo := h6.size) (n := 0) (c := 0) (xs := []) hg42 B42' (by simp) (Nat.le_refl _) (Nat.zero_le _) (by simp)) hl45 (r45 _ e450) (one_flatMap eCV_one _) (by unfold maxLen; omega) (by omega) e450.size ?_
      intro a46 c46 h46 O46 G46 A46
      rw [Nat.zero_add] at O46
      have e46 : Ext h6 h46 := G46.ext e450 (fun k hk => by cases hk; exact hg42)
      refine ⟨kp_gr G46 e450.size (fun k hk => by cases hk; exact hg42),?_⟩
      exact t3 _ _ h46 b50 a46 c46 _ rfl rfl e46 (G46.blk B50 (fun e => absurd (show b50 = b42 by cases e; rfl) (by omega))) (by simpa using O46) (by simp only [Nat.zero_add]; rfl) rfl rfl (by exact l5) (by exact l8)
    ·rw [wT_one]
     refine wL_bslD rfl (Nat.le_refl _) ?_; rintro b50 h50 e50 s50 hb50 (B50 : Blk _ _ _ (eCV ⟨w.key,none,0,0,false,noLock⟩))
     rw [← hnew] at B50
     refine wL_bslD rfl e50.size ?_; intro b42 h42 e42 s42 hb42 B42
     have hg42 : h6.size ≤ b42 := by have := e50.size; omega
     have e450 := e50.trans e42
     have hl50 := B50.lt
     rw [wL_raw]
     refine raw_append slT74 rfl rfl rfl (Own.of_blk (lo := h6.size) (n := 0) (c := 0) (xs := []) hg42 B42 (by simp) (Nat.le_refl _) (Nat.zero_le _) (by simp)) hl45 (r45 _ e450) (one_flatMap eCV_one _) (by unfold maxLen; omega) (by omega) e450.size ?_
     intro a46 c46 h46 O46 G46 A46
     rw [Nat.zero_add] at O46
     have e46 : Ext h6 h46 := G46.ext e450 (fun k hk => by cases hk; exact hg42)
     refine ⟨kp_gr G46 e450.size (fun k hk => by cases hk; exact hg42),?_⟩
     exact t3 _ _ h46 b50 a46 c46 _ rfl rfl e46 (G46.blk (B50.ext e42) (fun e => absurd (show b50 = b42 by cases e; rfl) (by omega))) (by simpa using O46) (by simp only [Nat.zero_add]; rfl) rfl rfl (by exact l5) (by exact l8)
   refine loop_in (fun n σ h' => h' = h6 ∧ ∃ j : Nat,j + n = cs.length ∧ σ = [(4,ptr b1 0),(5,ptr b2 0),(7,.slice al cs.length cl),(8,vi j)] ∧ ∀ p c,p < j → cs[p]? = some c → klt c.key w.key = true)
    cs.length ⟨rfl,0,by omega,rfl,by intros; omega⟩ ?_
   rintro n σ h' ⟨rfl,j,hj,rfl,hnk⟩ Q' hnx hex hrt _
   rw [f79c11_eq]
   refine drw_lt ?_
   simp only [f79r8,wL_mov,wL_len,wL_bin,wL_sc,evO_tmp,look_cons,Nat.reduceEqDiff,reduceIte,bd_some,lenV_sl,binV_lss,asB_bool,br_eqT]
   refine ⟨fun hh => ?_,fun hh => ?_⟩
   ·have hjl : j < cs.length := by have := of_decide_eq_true hh; omega
    obtain ⟨x,hx⟩ := get_ex hjl
    obtain ⟨b,o,v,rfl,_,hrow,hcr⟩ := O6.slc.elem hx
    simp (disch:=first|exact Lb rfl|omega) only [AXR,AXB,J.dst,reduceIte,Z1,Z2,Z3,Z4,Z5,row_cv hrow,B1.cel,eWri,hcr.key]
    refine ⟨by omega,by omega,hrow.lt (by rw [eCV_len]; omega),B1.lt,?_⟩
    (try simp (disch:=first|exact Lb rfl|omega) only [AXR,AXB,J.dst,reduceIte,Z1,Z2,Z3,Z4,Z5]); rw [f79c12_eq]; (try simp (disch:=first|exact Lb rfl|omega) only [AXR,AXB,J.dst,reduceIte,Z1,Z2,Z3,Z4,Z5])
    refine ⟨fun h4 => ?_,fun h4 => ?_⟩
    ·rw [f79c13_eq]
     (try simp (disch:=first|exact Lb rfl|omega) only [AXR,AXB,J.dst,reduceIte,Z1,Z2,Z3,Z4,Z5]); rw [f79c14_eq]; (try simp (disch:=first|exact Lb rfl|omega) only [AXR,AXB,J.dst,reduceIte,Z1,Z2,Z3,Z4,Z5,f79r9])
     rw [i64_wrap (by omega) (by omega)]
     refine hnx (n - 1) _ _ (by omega) ⟨rfl,j + 1,by omega,rfl,?_⟩
     intro p c' hp hc'
     rcases Nat.lt_or_ge p j with hlt | hge
     ·exact hnk p c' hlt hc'
     ·have : p = j := by omega
      subst this
      rw [hx] at hc'; cases hc'; exact h4
    ·have := lbK_eq w.key cs j (by omega) hnk (fun c' hc' => by rw [hx] at hc'; cases hc'; exact h4)
     refine hex _ _ ?_
     exact ins _ rfl rfl rfl (by rw [this]; rfl)
   ·have hjl : j = cs.length := by have := of_decide_eq_false hh; omega
    have := lbK_eq w.key cs j (by omega) hnk (fun c' hc' => by rw [hjl,List.getElem?_eq_none (Nat.le_refl _)] at hc'; cases hc')
    try simp (disch:=first|exact Lb rfl|omega) only [AXR,AXB,J.dst,reduceIte,Z1,Z2,Z3,Z4,Z5]
    (try simp (disch:=first|exact Lb rfl|omega) only [AXR,AXB,J.dst,reduceIte,Z1,Z2,Z3,Z4,Z5]); rw [f79c12_eq]; (try simp (disch:=first|exact Lb rfl|omega) only [AXR,AXB,J.dst,reduceIte,Z1,Z2,Z3,Z4,Z5,br_false])
    refine hex _ _ ?_
    exact ins _ rfl rfl rfl (by rw [this]; rfl)
  ·have hpos := of_decide_eq_false hh
   have hb := findK_lt cs w.key
   obtain ⟨i,hi⟩ : ∃ i : Nat,findK cs w.key = i := ⟨(findK cs w.key).toNat,by omega⟩
   obtain ⟨x,hx⟩ := get_ex (show i < cs.length by omega)
   refine fin h6 i _ al cs.length cl cs x e6 O6 hx B2 ?_ rfl rfl (by rw [hi]; rfl)
   unfold rlockL
   rw [if_neg hpos,hi,Int.toNat_natCast,getD_of hx]
 (try simp (disch:=first|exact Lb rfl|omega) only [AXR,AXB,J.dst,reduceIte,Z1,Z2,Z3,Z4,Z5]); rw [f79c3_eq]; (try simp (disch:=first|exact Lb rfl|omega) only [AXR,AXB,J.dst,reduceIte,Z1,Z2,Z3,Z4,Z5,f79r3,B15.cel,eWri]); rw [f79c4_eq]; (try simp (disch:=first|exact Lb rfl|omega) only [AXR,AXB,J.dst,reduceIte,Z1,Z2,Z3,Z4,Z5,B15.cel,eWri])
 refine ⟨fun hd => ?_,fun hd => ?_⟩
 ·(try simp (disch:=first|exact Lb rfl|omega) only [AXR,AXB,J.dst,reduceIte,Z1,Z2,Z3,Z4,Z5]); rw [f79c5_eq]; (try simp (disch:=first|exact Lb rfl|omega) only [AXR,AXB,J.dst,reduceIte,Z1,Z2,Z3,Z4,Z5,f79r4])
  refine wL_stN rfl rfl rfl B5 (Nat.le_of_ble_eq_true rfl) (one_s _) ?_
  rintro h6 u6 (B6 : Blk _ _ _ (eLck { l with drop := w.drop,data := noB }))
  try simp (disch:=first|exact Lb rfl|omega) only [AXR,AXB,J.dst,reduceIte,Z1,Z2,Z3,Z4,Z5]
  refine rest h6 _ (u6.ext e35 (by have := e12.size; omega)) (by rw [u6.size,hs35]; exact hz3) ?_ (u6.blk B15 hne) ?_ rfl rfl rfl
  ·obtain ⟨vs,C1,C2,C3⟩ := hcopy
   refine ⟨vs,C1.gr u6.gr (fun k hk => by have := (C1.ob k hk).1; intro e; cases e; omega),C2,C3.imp fun _ _ r => r.to fun b hb => ⟨⟨hb.1,by rw [u6.size]; exact hb.2.1,hb.2.2⟩,u6.ne b (by omega)⟩⟩
  ·have : lkW w l = { l with drop := w.drop,data := noB } := by simp [lkW,hd]
   rw [this]; exact B6
 ·refine rest h5 _ e35 (by rw [hs35]; exact hz3) hcopy B15 ?_ rfl rfl rfl
  have : lkW w l = { l with drop := w.drop,data := w.data } := by simp [lkW,hd]
  rw [this]; exact B5
end Go.Proofs.Ytefghfgmkndikaa
namespace Go.AX
open Go
structure Op8 where
 kind : Int
 w : Wri
 l : Lck
 yes : Bool
/-- The sort of an operation. -/
def sortI (k : Int) : Int := (k.tmod 3 + 3).tmod 3
def doL (cs : List Cell) (o : Op8) : List Cell := if sortI o.kind = 0 then lockL cs o.w o.l else if sortI o.kind = 1 then settleL cs o.l.by_ o.yes else trimL cs o.l.at_
end Go.AX
namespace Go.Proofs.Ytefghfgmkndikaa
open Go Go.AX
/-- Whether any lock is an attempt's. -/
def mineL (cs : List Cell) (by_ : Try4) : Bool := cs.any fun c => c.locked && decide (c.lock.by_ = by_)
theorem mine1_ok (x : CV) (by_ : Try4) (b : Nat) (h : Heap) (B : Blk h b 37 (eTry by_)) {R : Value → Heap → Prop} (hR : ∀ h',Ext h h' → R (.bool (x.locked && decide (x.lock.by_ = by_))) h') :
  CallsH Try.prog 83 [.agg (eCV x).toArray,ptr b 0] h R := by
 refine f83ok (by simp) ?_
 (try simp (disch:=first|exact Lb rfl|omega) only [AXR,AXB,J.dst,reduceIte,Z1,Z2,Z3,Z4,Z5]); rw [f83c0_eq]; (try simp (disch:=first|exact Lb rfl|omega) only [AXR,AXB,J.dst,reduceIte,Z1,Z2,Z3,Z4,Z5,f83r0])
 refine wL_boxN rfl ?_; rintro b1 h1 e1 s1 hb1 (B1 : Blk _ _ _ (eCV x))
 (try simp (disch:=first|exact Lb rfl|omega) only [AXR,AXB,J.dst,reduceIte,Z1,Z2,Z3,Z4,Z5]); rw [f83c1_eq]; (try simp (disch:=first|exact Lb rfl|omega) only [AXR,AXB,J.dst,reduceIte,Z1,Z2,Z3,Z4,Z5,f83r1,B1.cel,B1.rd,(B.ext e1).rd,eCV,eTry,eqA_try])
 have hR := hR _ e1
 refine ⟨fun hh => ?_,fun hh => ?_⟩
 ·rw [hh] at hR; simpa using hR
 ·rw [hh] at hR; simpa using hR
theorem anyK (cs : List Cell) (f : Cell → Bool) (k : Nat) (hk : ∀ j c,j < k → cs[j]? = some c → f c = false) : (∀ c,cs[k]? = some c → f c = true → cs.any f = true) ∧ (k = cs.length → cs.any f = false) := by
 refine ⟨fun c hc he => List.any_eq_true.2 ⟨c,List.mem_of_getElem? hc,he⟩,fun he => ?_⟩
 rw [List.any_eq_false]
 intro x hx
 obtain ⟨j,hj,rfl⟩ := List.mem_iff_getElem.1 hx
 simpa using hk j _ (by omega) (List.getElem?_eq_getElem hj)
theorem index_ok {B : Nat → Prop} {a : Option Addr} {c : Nat} (cs : List Cell) (by_ : Try4) (b : Nat) (h : Heap) (S : SlC B h a cs) (hn : cs.length ≤ maxLen) (B0 : Blk h b 37 (eTry by_)) {R : Value → Heap → Prop}
  (hR : ∀ i : Int,(0 ≤ i ↔ mineL cs by_ = true) → ∀ h',Ext h h' → R (vi i) h') : CallsH Try.prog 113 [.slice a cs.length c,.func (.func 83) #[] #[ptr b 0]] h R := by
 refine f113ok (by simp) ?_
 (try simp (disch:=first|exact Lb rfl|omega) only [AXR,AXB,J.dst,reduceIte,Z1,Z2,Z3,Z4,Z5]); rw [f113c0_eq]; (try simp (disch:=first|exact Lb rfl|omega) only [AXR,AXB,J.dst,reduceIte,Z1,Z2,Z3,Z4,Z5,f113r0]); rw [f113c1_eq]; (try simp (disch:=first|exact Lb rfl|omega) only [AXR,AXB,J.dst,reduceIte,Z1,Z2,Z3,Z4,Z5,f113r1])
 unfold maxLen at hn
 rw [f113c2_eq]
 refine loop_in (fun n σ h' => Ext h h' ∧ ∃ k : Nat,k + n = cs.length ∧ σ = [(0,.slice a cs.length c),(1,.func (.func 83) #[] #[ptr b 0]),(7,vi cs.length),(8,vi k)] ∧ ∀ j c,j < k → cs[j]? = some c → (c.locked && decide (c.lock.by_ = by_)) = false)
  cs.length ⟨Ext.refl _,0,by omega,rfl,by intros; omega⟩ ?_
 rintro n σ h' ⟨e1,k,hk,rfl,hnk⟩ Q' hnx hex hrt _
 (try simp (disch:=first|exact Lb rfl|omega) only [AXR,AXB,J.dst,reduceIte,Z1,Z2,Z3,Z4,Z5]); rw [f113c3_eq]; (try simp (disch:=first|exact Lb rfl|omega) only [AXR,AXB,J.dst,reduceIte,Z1,Z2,Z3,Z4,Z5,f113r2]); rw [f113c4_eq]; (try simp (disch:=first|exact Lb rfl|omega) only [AXR,AXB,J.dst,reduceIte,Z1,Z2,Z3,Z4,Z5])
 have hany := anyK cs (fun c => c.locked && decide (c.lock.by_ = by_)) k hnk
 refine ⟨fun h2 => ?_,fun h2 => ?_⟩
 ·have hkl : k < cs.length := by have := of_decide_eq_true h2; omega
  obtain ⟨x,hx⟩ := get_ex hkl
  obtain ⟨b',o,v,rfl,_,hrow,hcr⟩ := (S.ext e1).elem hx
  rw [f113c5_eq]
  (try simp (disch:=first|exact Lb rfl|omega) only [AXR,AXB,J.dst,reduceIte,Z1,Z2,Z3,Z4,Z5]); rw [f113c6_eq]; (try simp (disch:=first|exact Lb rfl|omega) only [AXR,AXB,J.dst,reduceIte,Z1,Z2,Z3,Z4,Z5,f113r3,row_cv hrow]); rw [f113c7_eq]; (try simp (disch:=first|exact Lb rfl|omega) only [AXR,AXB,J.dst,reduceIte,Z1,Z2,Z3,Z4,Z5,f113r4,row_cv hrow])
  refine ⟨by omega,by omega,?_⟩
  refine wL_cav _ _ _ _ _ _ _ rfl rfl f83cal ?_
  refine mine1_ok v by_ b _ (B0.ext e1) ?_
  intro h3 e3
  refine ⟨trivial,?_⟩
  try simp (disch:=first|exact Lb rfl|omega) only [AXR,AXB,J.dst,reduceIte,Z1,Z2,Z3,Z4,Z5]
  rw [hcr.locked,hcr.lock]
  (try simp (disch:=first|exact Lb rfl|omega) only [AXR,AXB,J.dst,reduceIte,Z1,Z2,Z3,Z4,Z5]); rw [f113c8_eq]; (try simp (disch:=first|exact Lb rfl|omega) only [AXR,AXB,J.dst,reduceIte,Z1,Z2,Z3,Z4,Z5])
  refine ⟨fun h4 => ?_,fun h4 => ?_⟩
  ·(try simp (disch:=first|exact Lb rfl|omega) only [AXR,AXB,J.dst,reduceIte,Z1,Z2,Z3,Z4,Z5]); rw [f113c9_eq]; (try simp (disch:=first|exact Lb rfl|omega) only [AXR,AXB,J.dst,reduceIte,Z1,Z2,Z3,Z4,Z5,f113r5])
   refine hrt _ _ ?_
   try simp (disch:=first|exact Lb rfl|omega) only [AXR,AXB,J.dst,reduceIte,Z1,Z2,Z3,Z4,Z5]
   exact hR k ⟨fun _ => hany.1 x hx h4,fun _ => by omega⟩ _ (e1.trans e3)
  ·(try simp (disch:=first|exact Lb rfl|omega) only [AXR,AXB,J.dst,reduceIte,Z1,Z2,Z3,Z4,Z5]); rw [f113c10_eq]; (try simp (disch:=first|exact Lb rfl|omega) only [AXR,AXB,J.dst,reduceIte,Z1,Z2,Z3,Z4,Z5,f113r6])
   rw [i64_wrap (by omega) (by omega)]
   refine hnx (n - 1) _ _ (by omega) ⟨e1.trans e3,k + 1,by omega,rfl,?_⟩
   intro j c' hj hc'
   rcases Nat.lt_or_ge j k with hlt | hge
   ·exact hnk j c' hlt hc'
   ·have : j = k := by omega
    subst this
    rw [hx] at hc'; cases hc'; exact h4
 ·have hkl : k = cs.length := by have := of_decide_eq_false h2; omega
  refine hex _ _ ?_
  (try simp (disch:=first|exact Lb rfl|omega) only [AXR,AXB,J.dst,reduceIte,Z1,Z2,Z3,Z4,Z5]); rw [f113c11_eq]; (try simp (disch:=first|exact Lb rfl|omega) only [AXR,AXB,J.dst,reduceIte,Z1,Z2,Z3,Z4,Z5,f113r7])
  exact hR (-1) ⟨fun h => by omega,fun h => by unfold mineL at h; rw [hany.2 hkl] at h; cases h⟩ _ e1
theorem mine_ok {B : Nat → Prop} {a : Option Addr} {c : Nat} (cs : List Cell) (by_ : Try4) (h : Heap) (S : SlC B h a cs) (hn : cs.length ≤ maxLen) {R : Value → Heap → Prop}
  (hR : ∀ h',Ext h h' → R (.bool (mineL cs by_)) h') : CallsH Try.prog 38 [.slice a cs.length c,.agg (eTry by_).toArray] h R := by
 refine f38ok (by simp) ?_
 (try simp (disch:=first|exact Lb rfl|omega) only [AXR,AXB,J.dst,reduceIte,Z1,Z2,Z3,Z4,Z5]); rw [f38c0_eq]; (try simp (disch:=first|exact Lb rfl|omega) only [AXR,AXB,J.dst,reduceIte,Z1,Z2,Z3,Z4,Z5,f38r0])
 refine wL_boxN rfl ?_; rintro b1 h1 e1 s1 hb1 (B1 : Blk _ _ _ (eTry by_))
 (try simp (disch:=first|exact Lb rfl|omega) only [AXR,AXB,J.dst,reduceIte,Z1,Z2,Z3,Z4,Z5]); rw [f38c1_eq]; (try simp (disch:=first|exact Lb rfl|omega) only [AXR,AXB,J.dst,reduceIte,Z1,Z2,Z3,Z4,Z5,f38r1])
 refine f82ok (by simp) ?_
 (try simp (disch:=first|exact Lb rfl|omega) only [AXR,AXB,J.dst,reduceIte,Z1,Z2,Z3,Z4,Z5]); rw [f82c0_eq]; (try simp (disch:=first|exact Lb rfl|omega) only [AXR,AXB,J.dst,reduceIte,Z1,Z2,Z3,Z4,Z5,f82r0]); rw [f82c1_eq]; (try simp (disch:=first|exact Lb rfl|omega) only [AXR,AXB,J.dst,reduceIte,Z1,Z2,Z3,Z4,Z5,f82r1])
 refine index_ok cs by_ b1 _ (S.ext e1) hn B1 ?_
 intro i hi h2 e2
 try simp (disch:=first|exact Lb rfl|omega) only [AXR,AXB,J.dst,reduceIte,Z1,Z2,Z3,Z4,Z5]
 have : decide (i ≥ 0) = mineL cs by_ := by
  rw [Bool.eq_iff_iff,decide_eq_true_eq]; exact hi
 rw [this]
 exact hR _ (e1.trans e2)
end Go.Proofs.Ytefghfgmkndikaa
namespace Go.AX
open Go
def OkC (cs : List Cell) (i : Nat) (x : Cell) : Prop :=
 (∀ y,0 < i → cs[i - 1]? = some y → klt y.key x.key = true) ∧ (x.locked = false → x.lock = noLock) ∧ (x.locked = false → x.vers ≠ []) ∧ (x.lock.drop = true → x.lock.data = noB)
def OkV (vs : List Ver) (k : Nat) (v : Ver) : Prop := (∀ u,0 < k → vs[k - 1]? = some u → Stamp.lt u.at_ v.at_ = true) ∧ (v.drop = true → v.data = noB)
/-- Cells that may be. -/
def MayP (cs : List Cell) : Prop := ∀ i x,cs[i]? = some x → OkC cs i x ∧ ∀ k v,x.vers[k]? = some v → OkV x.vers k v
theorem eqA_lckB (neg : Bool) (s t : Lck) : eqA neg [.i .i64,.i .i64,.i .i64,.i .i64,.i .i64,.i .i64,.i .i64,.b,.s] (.agg (eLck s).toArray) (.agg (eLck t).toArray) = some (.bool (if neg then !decide (s = t) else decide (s = t))) := by
 obtain ⟨⟨a1,a2,a3,a4⟩,b1,⟨c1,c2⟩,d1,e1⟩ := s
 obtain ⟨⟨a1',a2',a3',a4'⟩,b1',⟨c1',c2'⟩,d1',e1'⟩ := t
 have : (a1 == a1' && (a2 == a2' && (a3 == a3' && (a4 == a4' && (b1 == b1' && (c1 == c1' && (c2 == c2' && (d1 == d1' && e1.toList == e1'.toList)))))))) =
   decide ((⟨⟨a1,a2,a3,a4⟩,b1,⟨c1,c2⟩,d1,e1⟩ : Lck) = ⟨⟨a1',a2',a3',a4'⟩,b1',⟨c1',c2'⟩,d1',e1'⟩) := by
  rw [keq_iff,Bool.eq_iff_iff]; simp [and_assoc]
 simp only [eqA,eLck,eqKds,eqKd,and_self,if_true,Option.bind_some,Option.map_some,Bool.and_true,this]
theorem eqA_lckN (s t : Lck) : eqA true [.i .i64,.i .i64,.i .i64,.i .i64,.i .i64,.i .i64,.i .i64,.b,.s] (.agg (eLck s).toArray) (.agg (eLck t).toArray) = some (.bool (!decide (s = t))) := eqA_lckB true s t
end Go.AX
namespace Go.Proofs.Ytefghfgmkndikaa
open Go Go.AX
theorem eqA_no (l : Lck) : eqA true [.i .i64,.i .i64,.i .i64,.i .i64,.i .i64,.i .i64,.i .i64,.b,.s] (.agg #[vi l.by_.node,vi l.by_.life,vi l.by_.seq,vi l.by_.attempt,vi l.home,vi l.at_.wall,vi l.at_.tie,.bool l.drop,.string l.data])
  (.agg #[.int .i64 0,.int .i64 0,.int .i64 0,.int .i64 0,.int .i64 0,.int .i64 0,.int .i64 0,.bool false,.string ⟨#[]⟩]) = some (.bool (!decide (l = noLock))) := eqA_lckN l noLock
set_option maxHeartbeats 4000000 in
theorem may_ok {B : Nat → Prop} {a : Option Addr} {c : Nat} (cs : List Cell) (h : Heap) (S : SlC B h a cs) (hn : cs.length ≤ big) (F : ∀ c ∈ cs,c.vers.length ≤ big) {R : Value → Heap → Prop}
  (hR : ∀ b,(b = true ↔ MayP cs) → ∀ h',Ext h h' → R (.bool b) h') : CallsH Try.prog 45 [.slice a cs.length c] h R := by
 have hbig : big = 1000000 := rfl
 refine f45ok (by simp) ?_
 (try simp (disch:=first|exact Lb rfl|omega) only [AXR,AXB,J.dst,reduceIte,Z1,Z2,Z3,Z4,Z5]); rw [f45c0_eq]; (try simp (disch:=first|exact Lb rfl|omega) only [AXR,AXB,J.dst,reduceIte,Z1,Z2,Z3,Z4,Z5,f45r0]); rw [f45c1_eq]; (try simp (disch:=first|exact Lb rfl|omega) only [AXR,AXB,J.dst,reduceIte,Z1,Z2,Z3,Z4,Z5,f45r1])
 rw [f45c2_eq]
 refine loop_in (fun n σ h' => Ext h h' ∧ ∃ k : Nat,k + n = cs.length ∧ σ = [(0,.slice a cs.length c),(7,.slice a cs.length c),(8,vi cs.length),(9,vi k)] ∧
   ∀ i x,i < k → cs[i]? = some x → OkC cs i x ∧ ∀ k v,x.vers[k]? = some v → OkV x.vers k v)
  cs.length ⟨Ext.refl _,0,by omega,rfl,by intros; omega⟩ ?_
 rintro n σ h' ⟨e1,k,hk,rfl,hok⟩ Q' hnx hex hrt _
 (try simp (disch:=first|exact Lb rfl|omega) only [AXR,AXB,J.dst,reduceIte,Z1,Z2,Z3,Z4,Z5]); rw [f45c3_eq]; (try simp (disch:=first|exact Lb rfl|omega) only [AXR,AXB,J.dst,reduceIte,Z1,Z2,Z3,Z4,Z5,f45r2]); rw [f45c4_eq]; (try simp (disch:=first|exact Lb rfl|omega) only [AXR,AXB,J.dst,reduceIte,Z1,Z2,Z3,Z4,Z5])
 refine ⟨fun h2 => ?_,fun h2 => ?_⟩
 ·have hkl : k < cs.length := by have := of_decide_eq_true h2; omega
  obtain ⟨x,hx⟩ := get_ex hkl
  obtain ⟨b,o,v,rfl,_,hrow,hcr⟩ := (S.ext e1).elem hx
  have hno : ¬ MayP cs → ∀ h8,Ext h' h8 → Q' .ret [(2,.bool false)] h8 := fun hm h8 e8 => hrt _ _ (by
   try simp (disch:=first|exact Lb rfl|omega) only [AXR,AXB,J.dst,reduceIte,Z1,Z2,Z3,Z4,Z5]
   exact hR false ⟨fun h => (by cases h),fun h => absurd h hm⟩ _ (e1.trans e8))
  rw [f45c5_eq]
  (try simp (disch:=first|exact Lb rfl|omega) only [AXR,AXB,J.dst,reduceIte,Z1,Z2,Z3,Z4,Z5]); rw [f45c6_eq]; (try simp (disch:=first|exact Lb rfl|omega) only [AXR,AXB,J.dst,reduceIte,Z1,Z2,Z3,Z4,Z5,f45r3,row_cv hrow])
  refine ⟨by omega,by omega,?_⟩
  refine wL_newN ?_; rintro b4 h4 e4 s4 hb4 B4
  try simp (disch:=first|exact Lb rfl|omega) only [AXR,AXB,J.dst,reduceIte,Z1,Z2,Z3,Z4,Z5]
  refine wL_stN rfl rfl rfl B4 (by decide) (eCV_one v) ?_; rintro h5 u5 (B5 : Blk _ _ _ (eCV v))
  have e5 := u5.ext e4 (by omega)
  try simp (disch:=first|exact Lb rfl|omega) only [AXR,AXB,J.dst,reduceIte,Z1,Z2,Z3,Z4,Z5]
  have hlt := B5.lt
  have fin : ∀ t : Bool,(t = false ↔ OkC cs k x) → wC Try.prog f45c8 (X.inBlock 1 (X.then (fun σ h => wC Try.prog f45c20 Q' σ h) Q'))
    [(59,.bool t),(0,.slice (some ⟨b,o,none⟩) cs.length c),(4,ptr b4 0),(7,.slice (some ⟨b,o,none⟩) cs.length c),(8,vi cs.length),(9,vi k)] h5 := by
   intro t ht
   cases t with
   | true =>
    (try simp (disch:=first|exact Lb rfl|omega) only [AXR,AXB,J.dst,reduceIte,Z1,Z2,Z3,Z4,Z5]); rw [f45c8_eq]; (try simp (disch:=first|exact Lb rfl|omega) only [AXR,AXB,J.dst,reduceIte,Z1,Z2,Z3,Z4,Z5]); rw [f45c9_eq]; (try simp (disch:=first|exact Lb rfl|omega) only [AXR,AXB,J.dst,reduceIte,Z1,Z2,Z3,Z4,Z5,f45r5])
    refine hno ?_ _ e5
    intro hm
    have := ht.2 (hm k x hx).1
    cases this
   | false =>
    have hok0 := ht.1 rfl
    have hvn := hcr.vn
    (try simp (disch:=first|exact Lb rfl|omega) only [AXR,AXB,J.dst,reduceIte,Z1,Z2,Z3,Z4,Z5]); rw [f45c8_eq]; (try simp (disch:=first|exact Lb rfl|omega) only [AXR,AXB,J.dst,reduceIte,Z1,Z2,Z3,Z4,Z5,B5.cel,eCV,hvn]); rw [f45c10_eq]; (try simp (disch:=first|exact Lb rfl|omega) only [AXR,AXB,J.dst,reduceIte,Z1,Z2,Z3,Z4,Z5,f45r6,B5.cel,eCV,hvn])
    rw [f45c11_eq]
    have SV := hcr.vers.ext e5
    have hvl := F x (List.mem_of_getElem? hx)
    refine loop_in1 (fun n' σ h' => Ext h5 h' ∧ ∃ i : Nat,i + n' = x.vers.length ∧ σ = [(0,.slice (some ⟨b,o,none⟩) cs.length c),(4,ptr b4 0),(7,.slice (some ⟨b,o,none⟩) cs.length c),(8,vi cs.length),(9,vi k),(61,.slice v.va x.vers.length v.vc),(62,vi x.vers.length),(63,vi i)] ∧
     ∀ j w,j < i → x.vers[j]? = some w → OkV x.vers j w) x.vers.length ⟨Ext.refl _,0,by omega,rfl,by intros; omega⟩ ?_
    rintro n2 σ h6 ⟨e6,i,hi,rfl,hokv⟩ Q2 hnx2 hex2 hrt2 _
    (try simp (disch:=first|exact Lb rfl|omega) only [AXR,AXB,J.dst,reduceIte,Z1,Z2,Z3,Z4,Z5]); rw [f45c12_eq]; (try simp (disch:=first|exact Lb rfl|omega) only [AXR,AXB,J.dst,reduceIte,Z1,Z2,Z3,Z4,Z5,f45r7]); rw [f45c13_eq]; (try simp (disch:=first|exact Lb rfl|omega) only [AXR,AXB,J.dst,reduceIte,Z1,Z2,Z3,Z4,Z5])
    refine ⟨fun h7 => ?_,fun h7 => ?_⟩
    ·have hil : i < x.vers.length := by have := of_decide_eq_true h7; omega
     obtain ⟨w,hw⟩ := get_ex hil
     obtain ⟨vb,vo,hva,_,hrowv⟩ := (SV.ext e6).elem eVer_len hw
     rw [f45c14_eq]
     rw [hva] at hnx2
     (try simp (disch:=first|exact Lb rfl|omega) only [AXR,AXB,J.dst,reduceIte,Z1,Z2,Z3,Z4,Z5]); rw [f45c15_eq]; (try simp (disch:=first|exact Lb rfl|omega) only [AXR,AXB,J.dst,reduceIte,Z1,Z2,Z3,Z4,Z5,f45r8,hva,row_ver hrowv])
     refine ⟨by omega,by omega,?_⟩
     refine wL_newN ?_; rintro b6 h8 e8 s8 hb6 B6
     try simp (disch:=first|exact Lb rfl|omega) only [AXR,AXB,J.dst,reduceIte,Z1,Z2,Z3,Z4,Z5]
     refine wL_stN rfl rfl rfl B6 (by decide) (eVer_one w) ?_; rintro h9 u9 (B9 : Blk _ _ _ (eVer w))
     have e9 := u9.ext e8 (by omega)
     have B5' := B5.ext (e6.trans e9)
     have hl9 := B9.lt
     have hl5 := B5'.lt
     try simp (disch:=first|exact Lb rfl|omega) only [AXR,AXB,J.dst,reduceIte,Z1,Z2,Z3,Z4,Z5]
     have fin2 : ∀ (h10 : Heap) (t : Bool),Ext h9 h10 → (t = false ↔ OkV x.vers i w) → wC Try.prog f45c17 (X.inBlock 3 (X.then (fun σ h => wC Try.prog f45c19 Q2 σ h) Q2))
       [(91,.bool t),(0,.slice (some ⟨b,o,none⟩) cs.length c),(4,ptr b4 0),(7,.slice (some ⟨b,o,none⟩) cs.length c),(8,vi cs.length),(9,vi k),(61,.slice (some ⟨vb,vo,none⟩) x.vers.length v.vc),(62,vi x.vers.length),(63,vi i)] h10 := by
      intro h10 t e10 ht
      cases t with
      | true =>
       (try simp (disch:=first|exact Lb rfl|omega) only [AXR,AXB,J.dst,reduceIte,Z1,Z2,Z3,Z4,Z5]); rw [f45c17_eq]; (try simp (disch:=first|exact Lb rfl|omega) only [AXR,AXB,J.dst,reduceIte,Z1,Z2,Z3,Z4,Z5]); rw [f45c18_eq]; (try simp (disch:=first|exact Lb rfl|omega) only [AXR,AXB,J.dst,reduceIte,Z1,Z2,Z3,Z4,Z5,f45r10])
       refine hrt2 _ _ ?_
       try simp (disch:=first|exact Lb rfl|omega) only [AXR,AXB,J.dst,reduceIte,Z1,Z2,Z3,Z4,Z5]
       refine hno ?_ _ (e5.trans (e6.trans (e9.trans e10)))
       intro hm
       have := ht.2 ((hm k x hx).2 i w hw)
       cases this
      | false =>
       (try simp (disch:=first|exact Lb rfl|omega) only [AXR,AXB,J.dst,reduceIte,Z1,Z2,Z3,Z4,Z5]); rw [f45c17_eq]; (try simp (disch:=first|exact Lb rfl|omega) only [AXR,AXB,J.dst,reduceIte,Z1,Z2,Z3,Z4,Z5]); rw [f45c19_eq]; (try simp (disch:=first|exact Lb rfl|omega) only [AXR,AXB,J.dst,reduceIte,Z1,Z2,Z3,Z4,Z5,f45r11])
       rw [i64_wrap (by omega) (by omega)]
       refine hnx2 (n2 - 1) _ _ (by omega) ⟨e6.trans (e9.trans e10),i + 1,by omega,rfl,?_⟩
       intro j u hj hu
       rcases Nat.lt_or_ge j i with hlt | hge
       ·exact hokv j u hlt hu
       ·have : j = i := by omega
        subst this
        rw [hw] at hu; cases hu
        exact ht.1 rfl
     rw [f45c16_eq]
     refine drw_lt ?_
     have hdz : ((!w.data.toList == ByteArray.toList ⟨#[]⟩)) = !decide (w.data = noB) := by rw [keq_iff]; rfl
     have seg2 : ∀ (h10 : Heap) (t : Bool),Ext h9 h10 → (t = false ↔ ∀ u,0 < i → x.vers[i - 1]? = some u → Stamp.lt u.at_ w.at_ = true) → wL Try.prog (some ⟨(· < h9.size),h9⟩) f45r9a 0 (fun σ h => wC Try.prog f45c17 (X.inBlock 3 (X.then (fun σ h => wC Try.prog f45c19 Q2 σ h) Q2)) σ h)
       [(82,.bool t),(0,.slice (some ⟨b,o,none⟩) cs.length c),(4,ptr b4 0),(6,ptr b6 0),(7,.slice (some ⟨b,o,none⟩) cs.length c),(8,vi cs.length),(9,vi k),(61,.slice (some ⟨vb,vo,none⟩) x.vers.length v.vc),(62,vi x.vers.length),(63,vi i)] h10 := by
      intro h10 t e10 ht
      simp (maxSteps:=1000000) (disch:=first|exact Lb rfl|omega) only [AXJ,AXS,AXB,J.dst,reduceIte,Z1,Z2,Z3,Z4,Z5,f45r9a,B9.cel,eVer,hdz]
      refine ⟨fun _ => hl9,fun _ _ => hl9,?_⟩
      refine fin2 h10 _ e10 ?_
      unfold OkV
      rw [← ht]
      cases t <;> cases w.drop <;> simp
     rcases Nat.eq_zero_or_pos i with hz | hp
     ·subst hz
      simp (maxSteps:=1000000) (disch:=first|exact Lb rfl|omega) only [AXJ,AXS,AXB,J.dst,reduceIte,Z1,Z2,Z3,Z4,Z5,f45r9,decide_eq_false (show ¬ (((0 : Nat) : Int) > 0) by omega)]
      exact ⟨fun _ => hl5,seg2 _ false (Ext.refl _) (by simp)⟩
     ·obtain ⟨u,hu⟩ := get_ex (show i - 1 < x.vers.length by omega)
      obtain ⟨vb',vo',hva',_,hrowu⟩ := (SV.ext (e6.trans e9)).elem eVer_len hu
      rw [hva] at hva'; cases hva'
      have hw1 : IntKind.i64.wrap ((i : Int) - 1) = ((i - 1 : Nat) : Int) := by rw [i64_wrap (by omega) (by omega)]; omega
      have hbl := hrowu.lt (by rw [eVer_len]; omega)
      simp (maxSteps:=1000000) (disch:=first|exact Lb rfl|omega) only [AXJ,AXS,AXB,J.dst,reduceIte,Z1,Z2,Z3,Z4,Z5,f45r9,decide_eq_true (show ((i : Int) > 0) by omega),B5'.cel,B9.cel,B9.rd,eCV,hw1,row_ver hrowu,hva,hvn,eVer,eStamp]
      refine ⟨fun _ => hl5,fun _ => by omega,fun _ => by omega,fun _ => hbl,fun _ => hl9,?_⟩
      refine less_ok u.at_ w.at_ _ ?_
      intro h10 e10
      refine ⟨kp_ext (Nat.le_refl _) e10,?_⟩
      simp (maxSteps:=1000000) (disch:=first|exact Lb rfl|omega) only [AXJ,AXS,AXB,J.dst,reduceIte,Z1,Z2,Z3,Z4,Z5]
      refine seg2 h10 _ e10 ?_
      refine ⟨fun h0 z _ hz => ?_,fun h0 => by rw [h0 u hp hu]; rfl⟩
      rw [hu] at hz; cases hz
      simpa using h0
    ·have hil : i = x.vers.length := by have := of_decide_eq_false h7; omega
     refine hex2 _ _ ?_
     (try simp (disch:=first|exact Lb rfl|omega) only [AXR,AXB,J.dst,reduceIte,Z1,Z2,Z3,Z4,Z5]); rw [f45c20_eq]; (try simp (disch:=first|exact Lb rfl|omega) only [AXR,AXB,J.dst,reduceIte,Z1,Z2,Z3,Z4,Z5,f45r12])
     rw [i64_wrap (by omega) (by omega)]
     refine hnx (n - 1) _ _ (by omega) ⟨e1.trans (e5.trans e6),k + 1,by omega,rfl,?_⟩
     intro j y hj hy
     rcases Nat.lt_or_ge j k with hlt | hge
     ·exact hok j y hlt hy
     ·have : j = k := by omega
      subst this
      rw [hx] at hy; cases hy
      exact ⟨hok0,fun m u hu => hokv m u (by have := (List.getElem?_eq_some_iff.1 hu).1; omega) hu⟩
  rw [f45c7_eq]
  refine drw_lt ?_
  have hoc : OkC cs k x ↔ ((∀ y,0 < k → cs[k - 1]? = some y → klt y.key x.key = true) ∧ (x.locked = false → x.lock = noLock) ∧ (x.locked = false → x.vers ≠ []) ∧ (x.lock.drop = true → x.lock.data = noB)) := Iff.rfl
  have hvz : (((x.vers.length : Nat) : Int) == 0) = decide (x.vers = []) := by
   cases x.vers with
   | nil => rfl
   | cons a l => rw [decide_eq_false (by simp)]; simp; omega
  have hdz : ((!x.lock.data.toList == ByteArray.toList ⟨#[]⟩)) = !decide (x.lock.data = noB) := by rw [keq_iff]; rfl
  have hlk := hcr.locked
  have hlc := hcr.lock
  have hvn := hcr.vn
  have seg1 : ∀ t : Bool,(t = false ↔ ∀ y,0 < k → cs[k - 1]? = some y → klt y.key x.key = true) → wL Try.prog (some ⟨(· < h5.size),h5⟩) f45r4a 0 (fun σ h => wC Try.prog f45c8 (X.inBlock 1 (X.then (fun σ h => wC Try.prog f45c20 Q' σ h) Q')) σ h)
    [(26,.bool t),(0,.slice (some ⟨b,o,none⟩) cs.length c),(4,ptr b4 0),(7,.slice (some ⟨b,o,none⟩) cs.length c),(8,vi cs.length),(9,vi k)] h5 := by
   intro t ht
   simp (maxSteps:=1000000) (disch:=first|exact Lb rfl|omega) only [AXJ,AXS,AXB,J.dst,reduceIte,Z1,Z2,Z3,Z4,Z5,f45r4a,B5.cel,B5.rd,eCV,hlk,hlc,hvn,eqA_no]
   refine ⟨fun _ => hlt,fun _ _ => hlt,?_⟩
   simp (maxSteps:=1000000) (disch:=first|exact Lb rfl|omega) only [AXJ,AXS,AXB,J.dst,reduceIte,Z1,Z2,Z3,Z4,Z5,f45r4b,B5.cel,B5.rd,eCV,hlk,hlc,hvn,hvz]
   refine ⟨fun _ => hlt,fun _ _ => hlt,?_⟩
   simp (maxSteps:=1000000) (disch:=first|exact Lb rfl|omega) only [AXJ,AXS,AXB,J.dst,reduceIte,Z1,Z2,Z3,Z4,Z5,f45r4c,B5.cel,B5.rd,eCV,hlk,hlc,hvn,hdz]
   refine ⟨fun _ => hlt,fun _ _ => hlt,?_⟩
   refine fin _ ?_
   rw [hoc,← ht]
   cases t <;> cases x.locked <;> cases x.lock.drop <;> simp [and_assoc]
  rcases Nat.eq_zero_or_pos k with hz | hp
  ·subst hz
   simp (maxSteps:=1000000) (disch:=first|exact Lb rfl|omega) only [AXJ,AXS,AXB,J.dst,reduceIte,Z1,Z2,Z3,Z4,Z5,f45r4,decide_eq_false (show ¬ (((0 : Nat) : Int) > 0) by omega)]
   exact ⟨fun _ => hlt,seg1 false (by simp)⟩
  ·obtain ⟨y,hy⟩ := get_ex (show k - 1 < cs.length by omega)
   obtain ⟨b',o',yv,hb',_,hrowy,hcy⟩ := (S.ext (e1.trans e5)).elem hy
   cases hb'
   have hw1 : IntKind.i64.wrap ((k : Int) - 1) = ((k - 1 : Nat) : Int) := by rw [i64_wrap (by omega) (by omega)]; omega
   have hbl := hrowy.lt (by rw [eCV_len]; omega)
   simp (maxSteps:=1000000) (disch:=first|exact Lb rfl|omega) only [AXJ,AXS,AXB,J.dst,reduceIte,Z1,Z2,Z3,Z4,Z5,f45r4,decide_eq_true (show ((k : Int) > 0) by omega),B5.cel,eCV,hw1,row_cv hrowy]
   refine ⟨fun _ => hlt,fun _ => by omega,fun _ => by omega,fun _ => hbl,?_⟩
   refine seg1 _ ?_
   rw [hcr.key,hcy.key,keq_iff]
   show ((klt x.key y.key || decide (x.key = y.key)) = false) ↔ _
   rw [kle_iff]
   refine ⟨fun h0 z _ hz => ?_,fun h0 => by rw [h0 y hp hy]; rfl⟩
   rw [hy] at hz; cases hz
   simpa using h0
 ·have hkl : k = cs.length := by have := of_decide_eq_false h2; omega
  refine hex _ _ ?_
  (try simp (disch:=first|exact Lb rfl|omega) only [AXR,AXB,J.dst,reduceIte,Z1,Z2,Z3,Z4,Z5]); rw [f45c21_eq]; (try simp (disch:=first|exact Lb rfl|omega) only [AXR,AXB,J.dst,reduceIte,Z1,Z2,Z3,Z4,Z5,f45r13])
  refine hR true ⟨fun _ i x hx => hok i x (by have := (List.getElem?_eq_some_iff.1 hx).1; omega) hx,fun _ => rfl⟩ _ e1
end Go.Proofs.Ytefghfgmkndikaa
namespace Go.Proofs.Ytefghfgmkndikaa
open Go Go.AX
/-- The cell of a key. -/
def cellK (cs : List Cell) (key : ByteArray) : Option Cell := cs.find? fun c => decide (c.key = key)
theorem cellK_cons (c : Cell) (cs : List Cell) (key : ByteArray) : cellK (c :: cs) key = if c.key = key then some c else cellK cs key := by
 unfold cellK
 rw [List.find?_cons]
 by_cases h : c.key = key
 ·simp [h]
 ·simp [h]
theorem cellK_none {cs : List Cell} {key : ByteArray} (h : ∀ c ∈ cs,c.key ≠ key) : cellK cs key = none := by
 unfold cellK
 rw [List.find?_eq_none]
 intro c hc
 simpa using h c hc
theorem sorted_cons {c : Cell} {cs : List Cell} : Sorted (c :: cs) ↔ (∀ d ∈ cs,klt c.key d.key = true) ∧ Sorted cs := List.pairwise_cons
theorem lbK_cons (c : Cell) (cs : List Cell) (key : ByteArray) : lbK (c :: cs) key = if klt c.key key then lbK cs key + 1 else 0 := by
 unfold lbK
 rw [List.takeWhile_cons]
 split <;> simp
theorem hasK_cons (c : Cell) (cs : List Cell) (key : ByteArray) : hasK (c :: cs) key = if klt c.key key then hasK cs key else decide (c.key = key) := by
 unfold hasK
 rw [lbK_cons]
 split <;> rename_i h <;> split at h <;> simp_all
/-- A key is behind: it is not there. -/
theorem cellK_behind {c : Cell} {cs : List Cell} {key : ByteArray} (hs : Sorted (c :: cs)) (h : klt key c.key = true) : cellK (c :: cs) key = none := by
 refine cellK_none ?_
 intro d hd
 rcases List.mem_cons.1 hd with rfl | hd
 ·exact (klt_ne h).symm
 ·exact (klt_ne (klt_trans h ((sorted_cons.1 hs).1 d hd))).symm
theorem at_lb : ∀ {cs : List Cell} (key : ByteArray),Sorted cs → (match cs[lbK cs key]? with | some c => if c.key = key then some c else none | none => none) = cellK cs key
 | [],_,_ => rfl
 | c :: cs,key,hs => by
  rw [lbK_cons]
  by_cases h : klt c.key key = true
  ·rw [if_pos h,cellK_cons,if_neg (klt_ne h)]
   simpa using at_lb key (sorted_cons.1 hs).2
  ·rw [if_neg h]
   simp only [List.getElem?_cons_zero]
   by_cases he : c.key = key
   ·rw [if_pos he,cellK_cons,if_pos he]
   ·rw [if_neg he]
    rcases klt_total c.key key with h1 | h1 | h1
    ·exact absurd h1 h
    ·exact absurd h1 he
    ·rw [cellK_behind hs h1]
def lockR (w : Wri) (l : Lck) : List Cell → List Cell
 | [] => [⟨w.key,[],true,lkW w l⟩]
 | c :: cs => if klt c.key w.key then c :: lockR w l cs else if c.key = w.key then { c with locked := true,lock := lkW w l } :: cs else ⟨w.key,[],true,lkW w l⟩ :: c :: cs
theorem lockL_eq (w : Wri) (l : Lck) : ∀ cs : List Cell,lockL cs w l = lockR w l cs
 | [] => rfl
 | c :: cs => by
  have ih := lockL_eq w l cs
  unfold lockL lockR
  unfold lockL at ih
  rw [hasK_cons,lbK_cons]
  by_cases h : klt c.key w.key = true
  ·simp only [if_pos h]
   rw [← ih]
   by_cases hk : hasK cs w.key = true
   ·simp [hk]
   ·simp [hk]
  ·simp only [if_neg h]
   by_cases he : c.key = w.key
   ·simp [he]
   ·simp [he]
theorem findK_cons (c : Cell) (cs : List Cell) (key : ByteArray) : findK (c :: cs) key = if c.key = key then 0 else if findK cs key < 0 then -1 else findK cs key + 1 := by
 unfold findK
 rw [List.findIdx?_cons]
 by_cases h : c.key = key
 ·simp [h]
 ·simp only [h,decide_false,Bool.false_eq_true,if_false]
  cases cs.findIdx? (fun c => decide (c.key = key)) with
  | none => rfl
  | some i =>
   simp only [Option.map_some]
   rw [if_neg (by omega)]; omega
theorem findK_ge (cs : List Cell) (key : ByteArray) : -1 ≤ findK cs key := by
 unfold findK; split <;> omega
theorem findK_none {cs : List Cell} {key : ByteArray} (h : ∀ c ∈ cs,c.key ≠ key) : findK cs key = -1 := by
 unfold findK
 rw [List.findIdx?_eq_none_iff.2 (by intro x hx; simpa using h x hx)]
theorem findK_cell : ∀ (cs : List Cell) (key : ByteArray),(if findK cs key < 0 then none else cs[(findK cs key).toNat]?) = cellK cs key
 | [],_ => rfl
 | c :: cs,key => by
  have ih := findK_cell cs key
  have hg := findK_ge cs key
  rw [findK_cons,cellK_cons]
  by_cases h : c.key = key
  ·simp [h]
  ·simp only [if_neg h]
   rw [← ih]
   by_cases hn : findK cs key < 0
   ·simp [hn]
   ·simp only [if_neg hn]
    rw [if_neg (by omega)]
    obtain ⟨k,hk⟩ : ∃ k : Nat,findK cs key = k := ⟨(findK cs key).toNat,by omega⟩
    rw [hk]
    rw [show ((k : Int) + 1).toNat = k + 1 by omega]
    simp
theorem rlockL_eq (w : Wri) (l : Lck) : ∀ {cs : List Cell},Sorted cs → rlockL cs w l = lockR w l cs
 | [],_ => rfl
 | c :: cs,hs => by
  have ih := rlockL_eq w l (sorted_cons.1 hs).2
  have hg := findK_ge cs w.key
  unfold rlockL at ih ⊢
  unfold lockR
  rw [findK_cons,lbK_cons]
  by_cases h : klt c.key w.key = true
  ·have hne := klt_ne h
   simp only [if_pos h,if_neg hne]
   rw [← ih]
   by_cases hn : findK cs w.key < 0
   ·simp [hn]
   ·simp only [if_neg hn]
    rw [if_neg (by omega)]
    obtain ⟨k,hk⟩ : ∃ k : Nat,findK cs w.key = k := ⟨(findK cs w.key).toNat,by omega⟩
    rw [hk,show ((k : Int) + 1).toNat = k + 1 by omega]
    simp
  ·simp only [if_neg h]
   by_cases he : c.key = w.key
   ·simp [he]
   ·have hlt : klt w.key c.key = true := by
     rcases klt_total c.key w.key with h1 | h1 | h1
     ·exact absurd h1 h
     ·exact absurd h1 he
     ·exact h1
    have : findK cs w.key = -1 := findK_none fun d hd => (klt_ne (klt_trans hlt ((sorted_cons.1 hs).1 d hd))).symm
    simp [he,this]
theorem mem_lockR {w : Wri} {l : Lck} : ∀ {cs : List Cell} {d : Cell},d ∈ lockR w l cs → (d.key = w.key ∧ d.locked = true ∧ d.lock = lkW w l ∧ (d.vers = [] ∨ ∃ c ∈ cs,c.key = w.key ∧ d.vers = c.vers)) ∨ d ∈ cs
 | [],d,h => by
  simp only [lockR,List.mem_cons,List.not_mem_nil,or_false] at h
  subst h; exact .inl ⟨rfl,rfl,rfl,.inl rfl⟩
 | c :: cs,d,h => by
  unfold lockR at h
  split at h
  ·rcases List.mem_cons.1 h with rfl | h
   ·exact .inr (by simp)
   ·rcases mem_lockR h with ⟨h1,h2,h3,h4⟩ | h1
    ·refine .inl ⟨h1,h2,h3,h4.imp id ?_⟩
     rintro ⟨e,he,hk⟩; exact ⟨e,by simp [he],hk⟩
    ·exact .inr (by simp [h1])
  ·split at h
   ·rename_i he
    rcases List.mem_cons.1 h with rfl | h
    ·exact .inl ⟨he,rfl,rfl,.inr ⟨c,by simp,he,rfl⟩⟩
    ·exact .inr (by simp [h])
   ·rcases List.mem_cons.1 h with rfl | h
    ·exact .inl ⟨rfl,rfl,rfl,.inl rfl⟩
    ·exact .inr h
theorem lockR_len (w : Wri) (l : Lck) : ∀ cs : List Cell,(lockR w l cs).length ≤ cs.length + 1
 | [] => by simp [lockR]
 | c :: cs => by
  have := lockR_len w l cs
  unfold lockR
  split
  ·simp; omega
  ·split <;> simp
theorem lockR_key_ge {w : Wri} {l : Lck} {cs : List Cell} {d : Cell} (h : d ∈ lockR w l cs) : d.key = w.key ∨ d ∈ cs := (mem_lockR h).imp (·.1) id
theorem lockR_sorted (w : Wri) (l : Lck) : ∀ {cs : List Cell},Sorted cs → Sorted (lockR w l cs)
 | [],_ => List.pairwise_singleton _ _
 | c :: cs,hs => by
  have h1 := sorted_cons.1 hs
  unfold lockR
  split
  ·rename_i h
   refine sorted_cons.2 ⟨?_,lockR_sorted w l h1.2⟩
   intro d hd
   rcases lockR_key_ge hd with e | e
   ·rw [e]; exact h
   ·exact h1.1 d e
  ·rename_i h
   split
   ·exact sorted_cons.2 h1
   ·rename_i he
    have hlt : klt w.key c.key = true := by
     rcases klt_total c.key w.key with k | k | k
     ·exact absurd k h
     ·exact absurd k he
     ·exact k
    refine sorted_cons.2 ⟨?_,hs⟩
    intro d hd
    rcases List.mem_cons.1 hd with rfl | hd
    ·exact hlt
    ·exact klt_trans hlt (h1.1 d hd)
theorem leftC_some {c d : Cell} (h : leftC c = some d) : d = c ∧ (c.locked = true ∨ c.vers ≠ []) := by
 unfold leftC at h
 split at h
 ·rename_i hc; cases h; exact ⟨rfl,by simpa using hc⟩
 ·cases h
def KP (f : Cell → Option Cell) : Prop := ∀ c d,f c = some d → d.key = c.key
theorem KP.sorted {f : Cell → Option Cell} (hf : KP f) {cs : List Cell} (hs : Sorted cs) : Sorted (cs.filterMap f) := by
 refine List.Pairwise.filterMap f ?_ hs
 intro a a' h b hb b' hb'
 rw [hf a b hb,hf a' b' hb']; exact h
theorem settle_KP (by_ : Try4) (yes : Bool) : KP fun c => leftC (settleC by_ yes c) := by
 intro c d h
 rw [(leftC_some h).1]
 unfold settleC; split <;> rfl
theorem trim_KP (t : Stamp) : KP fun c => leftC (trimC t c) := by
 intro c d h
 rw [(leftC_some h).1]; rfl
def VS (vs : List Ver) : Prop := vs.Pairwise fun a b => Stamp.lt a.at_ b.at_ = true
theorem vs_cons {u : Ver} {us : List Ver} : VS (u :: us) ↔ (∀ v ∈ us,Stamp.lt u.at_ v.at_ = true) ∧ VS us := List.pairwise_cons
theorem preV_cons (u : Ver) (us : List Ver) (t : Stamp) : preV (u :: us) t = if Stamp.lt t u.at_ then 0 else preV us t + 1 := by
 unfold preV
 rw [List.takeWhile_cons]
 cases Stamp.lt t u.at_ <;> simp
theorem preV_zero {us : List Ver} {t : Stamp} (h : ∀ v ∈ us,Stamp.lt t v.at_ = true) : preV us t = 0 := by
 cases us with
 | nil => rfl
 | cons u us => rw [preV_cons,if_pos (h u (by simp))]
theorem preV_at {t : Stamp} : ∀ {vs : List Ver} {p : Nat} {v : Ver},p < preV vs t → vs[p]? = some v → Stamp.lt t v.at_ = false
 | [],p,v,h,_ => by simp [preV] at h
 | u :: us,p,v,h,hv => by
  rw [preV_cons] at h
  split at h
  ·omega
  ·rename_i hu
   cases p with
   | zero => simp at hv; subst hv; simpa using hu
   | succ p => exact preV_at (vs := us) (p := p) (by omega) (by simpa using hv)
theorem preV_after {t : Stamp} : ∀ {vs : List Ver},VS vs → ∀ {p : Nat} {v : Ver},preV vs t ≤ p → vs[p]? = some v → Stamp.lt t v.at_ = true
 | [],_,p,v,_,hv => by simp at hv
 | u :: us,hs,p,v,h,hv => by
  rw [preV_cons] at h
  have h1 := vs_cons.1 hs
  split at h
  ·rename_i hu
   cases p with
   | zero => simp at hv; subst hv; exact hu
   | succ p => exact Stamp.lt_trans hu (h1.1 v (List.mem_of_getElem? (by simpa using hv)))
  ·cases p with
   | zero => omega
   | succ p => exact preV_after h1.2 (vs := us) (p := p) (by omega) (by simpa using hv)
theorem lastK_of (vs : List Ver) (t : Stamp) (i : Nat) (hi : i ≤ vs.length) (h1 : ∀ p v,p < i → vs[p]? = some v → Stamp.lt t v.at_ = false) (h2 : ∀ p v,i ≤ p → vs[p]? = some v → Stamp.lt t v.at_ = true) :
  ∀ k,i ≤ k → k ≤ vs.length → lastK vs t k = (i : Int) - 1
 | 0, hk, _ => by have : i = 0 := by omega
                  subst this; rfl
 | k + 1,hk,hkl => by
  obtain ⟨v,hv⟩ := get_ex (l := vs) (k := k) (by omega)
  unfold lastK
  rw [getD_of hv]
  rcases Nat.lt_or_ge k i with hlt | hge
  ·have : k + 1 = i := by omega
   rw [h1 k v hlt hv,if_neg (by simp)]; omega
  ·rw [h2 k v hge hv,if_pos rfl,lastK_of vs t i hi h1 h2 k hge (by omega)]
theorem lastV_pre {vs : List Ver} (hs : VS vs) (t : Stamp) : lastV vs t = (preV vs t : Int) - 1 :=
 lastK_of vs t (preV vs t) (preV_le vs t) (fun _ _ h hv => preV_at h hv) (fun _ _ h hv => preV_after hs h hv) _ (preV_le vs t) (Nat.le_refl _)
theorem cutV_eq {vs : List Ver} (hs : VS vs) (t : Stamp) : cutV vs t = rcutV vs t := by
 unfold cutV rcutV
 rw [lastV_pre hs]
 generalize preV vs t = p
 cases p with
 | zero => simp
 | succ q =>
  rw [if_neg (by omega),show ((q + 1 : Nat) : Int) - 1 = q by omega]
  simp only [Int.toNat_natCast,Nat.zero_lt_succ,true_and,Nat.add_sub_cancel]
  cases (vs.getD q default).drop <;> simp
def insR (v : Ver) : List Ver → List Ver
 | [] => [v]
 | u :: us => if Stamp.lt u.at_ v.at_ then u :: insR v us else if u.at_ = v.at_ then v :: us else v :: u :: us
theorem putV_pre {vs : List Ver} (hs : VS vs) (v : Ver) : putV vs v = if 0 < preV vs v.at_ ∧ (vs.getD (preV vs v.at_ - 1) default).at_ = v.at_ then vs.set (preV vs v.at_ - 1) v else vs.take (preV vs v.at_) ++ [v] ++ vs.drop (preV vs v.at_) := by
 unfold putV
 rw [lastV_pre hs]
 generalize preV vs v.at_ = p
 cases p with
 | zero => simp
 | succ q =>
  rw [show ((q + 1 : Nat) : Int) - 1 = q by omega]
  have e : ((q : Int) + 1).toNat = q + 1 := by omega
  simp only [Int.toNat_natCast,Nat.zero_lt_succ,true_and,Nat.add_sub_cancel,e]
  congr 1
  simp
theorem putV_eq (v : Ver) : ∀ {vs : List Ver},VS vs → putV vs v = insR v vs
 | [],_ => rfl
 | u :: us,hs => by
  have h1 := vs_cons.1 hs
  have ih := putV_eq v h1.2
  rw [putV_pre hs]
  rw [putV_pre h1.2] at ih
  rw [preV_cons]
  unfold insR
  by_cases h : Stamp.lt v.at_ u.at_ = true
  ·have hn : Stamp.lt u.at_ v.at_ = false := Stamp.lt_asymm h
   have hne : ¬ u.at_ = v.at_ := by intro e; rw [e,Stamp.lt_irrefl] at h; cases h
   simp [h,hn,hne]
  ·rw [if_neg h]
   by_cases he : u.at_ = v.at_
   ·have hz : preV us v.at_ = 0 := preV_zero fun x hx => by rw [← he]; exact h1.1 x hx
    simp [hz,he,Stamp.lt_irrefl]
   ·have hlt : Stamp.lt u.at_ v.at_ = true := by
     rcases Stamp.lt_total u.at_ v.at_ with k | k | k
     ·exact k
     ·exact absurd k he
     ·exact absurd k h
    rw [if_pos hlt,← ih]
    cases hp : preV us v.at_ with
    | zero => simp [he]
    | succ q =>
     simp only [Nat.zero_lt_succ,true_and,Nat.add_sub_cancel]
     simp only [List.getD_cons_succ,List.set_cons_succ,List.take_succ_cons,List.drop_succ_cons,List.cons_append]
     split <;> rfl
theorem wfold (v : Ver) : ∀ (vs : List Ver) (acc : List Ver),VS vs → (let r := vs.foldl (wStep v) (acc,false); if r.2 then r.1 else r.1 ++ [v]) = acc ++ insR v vs
 | [],acc,_ => by simp [insR]
 | u :: us,acc,hs => by
  have h1 := vs_cons.1 hs
  have after : ∀ (us : List Ver) (acc : List Ver),(∀ x ∈ us,x.at_ ≠ v.at_) → us.foldl (wStep v) (acc,true) = (acc ++ us,true) := by
   intro us
   induction us with
   | nil => intro acc _; simp
   | cons x us ih =>
    intro acc h
    rw [List.foldl_cons]
    have : wStep v (acc,true) x = (acc ++ [x],true) := by
     unfold wStep; simp [h x (by simp)]
    rw [this,ih _ (fun y hy => h y (by simp [hy]))]
    simp
  rw [List.foldl_cons]
  unfold insR
  by_cases hlt : Stamp.lt u.at_ v.at_ = true
  ·have hne : ¬ u.at_ = v.at_ := by intro e; rw [e,Stamp.lt_irrefl] at hlt; cases hlt
   have : wStep v (acc,false) u = (acc ++ [u],false) := by unfold wStep; simp [hlt,hne]
   rw [this,wfold v us _ h1.2,if_pos hlt]
   simp
  ·rw [if_neg hlt]
   by_cases he : u.at_ = v.at_
   ·have : wStep v (acc,false) u = (acc ++ [v],true) := by unfold wStep; simp [hlt,he,Stamp.lt_irrefl]
    rw [this,after us _ (fun x hx e => by have := h1.1 x hx; rw [he,e,Stamp.lt_irrefl] at this; cases this),if_pos he]
    simp
   ·have : wStep v (acc,false) u = (acc ++ [v] ++ [u],true) := by unfold wStep; simp [hlt,he]
    have hvu : Stamp.lt v.at_ u.at_ = true := by
     rcases Stamp.lt_total u.at_ v.at_ with k | k | k
     ·exact absurd k hlt
     ·exact absurd k he
     ·exact k
    rw [this,after us _ (fun x hx e => by have := Stamp.lt_trans hvu (h1.1 x hx); rw [e,Stamp.lt_irrefl] at this; cases this),if_neg he]
    simp
theorem withV_eq (v : Ver) {vs : List Ver} (hs : VS vs) : withV vs v = insR v vs := by
 have := wfold v vs [] hs
 simpa [withV] using this
theorem mem_insR {v : Ver} : ∀ {vs : List Ver} {x : Ver},x ∈ insR v vs → x = v ∨ x ∈ vs
 | [],x,h => by simpa [insR] using h
 | u :: us,x,h => by
  unfold insR at h
  split at h
  ·rcases List.mem_cons.1 h with rfl | h
   ·exact .inr (by simp)
   ·rcases mem_insR h with h | h
    ·exact .inl h
    ·exact .inr (by simp [h])
  ·split at h
   ·rcases List.mem_cons.1 h with rfl | h
    ·exact .inl rfl
    ·exact .inr (by simp [h])
   ·rcases List.mem_cons.1 h with rfl | h
    ·exact .inl rfl
    ·exact .inr h
theorem insR_len (v : Ver) : ∀ vs : List Ver,(insR v vs).length ≤ vs.length + 1
 | [] => by simp [insR]
 | u :: us => by
  have := insR_len v us
  unfold insR
  split
  ·simp; omega
  ·split <;> simp
theorem insR_vs (v : Ver) : ∀ {vs : List Ver},VS vs → VS (insR v vs)
 | [],_ => List.pairwise_singleton _ _
 | u :: us,hs => by
  have h1 := vs_cons.1 hs
  unfold insR
  split
  ·rename_i h
   refine vs_cons.2 ⟨?_,insR_vs v h1.2⟩
   intro x hx
   rcases mem_insR hx with rfl | hx
   ·exact h
   ·exact h1.1 x hx
  ·rename_i h
   split
   ·rename_i he
    refine vs_cons.2 ⟨fun x hx => by rw [← he]; exact h1.1 x hx,h1.2⟩
   ·rename_i he
    have hvu : Stamp.lt v.at_ u.at_ = true := by
     rcases Stamp.lt_total u.at_ v.at_ with k | k | k
     ·exact absurd k h
     ·exact absurd k he
     ·exact k
    refine vs_cons.2 ⟨?_,hs⟩
    intro x hx
    rcases List.mem_cons.1 hx with rfl | hx
    ·exact hvu
    ·exact Stamp.lt_trans hvu (h1.1 x hx)
theorem vs_drop {vs : List Ver} (hs : VS vs) (k : Nat) : VS (vs.drop k) := hs.sublist (List.drop_sublist k vs)
end Go.Proofs.Ytefghfgmkndikaa
namespace Go.Proofs.Ytefghfgmkndikaa
open Go Go.AX
end Go.Proofs.Ytefghfgmkndikaa
namespace Go.Proofs.Ytefghfgmkndikaa
open Go Go.AX
def kB : ByteArray := ⟨#[107]⟩
def xB : ByteArray := ⟨#[120]⟩
def w0 : Wri := ⟨kB,false,xB⟩
def l0 : Lck := ⟨⟨1,0,0,0⟩,0,⟨5,0⟩,false,noB⟩
def c0 : List Cell := [⟨kB,[],true,⟨⟨1,0,0,0⟩,0,⟨5,0⟩,false,xB⟩⟩]
def d0 : List Cell := [⟨kB,[⟨⟨5,0⟩,false,xB⟩],false,noLock⟩]
theorem s0 : Sorted c0 := List.pairwise_singleton _ _
theorem s1 : Sorted d0 := List.pairwise_singleton _ _
theorem OwnC.len {lo : Nat} {h : Heap} {a : Option Addr} {n c : Nat} {cs : List Cell} (O : OwnC lo h a n c cs) : n = cs.length := by obtain ⟨_,_,h,_⟩ := O; exact h
end Go.Proofs.Ytefghfgmkndikaa
namespace Go.Proofs.Ytefghfgmkndikaa
open Go Go.AX
structure CellOk (c : Cell) : Prop where
 nolock : c.locked = false → c.lock = noLock
 some_ : c.locked = false → c.vers ≠ []
 ldata : c.lock.drop = true → c.lock.data = noB
 vs : VS c.vers
 vdata : ∀ v ∈ c.vers,v.drop = true → v.data = noB
structure Good (cs : List Cell) : Prop where
 sorted : Sorted cs
 ok : ∀ c ∈ cs,CellOk c
def Sz (n : Nat) (cs : List Cell) : Prop := cs.length ≤ n ∧ ∀ c ∈ cs,c.vers.length ≤ n
/-- Steps that hold between neighbours hold between all. -/
theorem pw_of_next {α : Type} {R : α → α → Prop} (tr : ∀ a b c,R a b → R b c → R a c) : ∀ l : List α,(∀ i x y,l[i]? = some x → l[i + 1]? = some y → R x y) → l.Pairwise R
 | [],_ => .nil
 | [a],_ => List.pairwise_singleton _ _
 | a :: b :: l,h => by
  have ih := pw_of_next tr (b :: l) (fun i x y hx hy => h (i + 1) x y (by simpa using hx) (by simpa using hy))
  have hab := h 0 a b rfl rfl
  refine List.pairwise_cons.2 ⟨?_,ih⟩
  intro x hx
  rcases List.mem_cons.1 hx with rfl | hx
  ·exact hab
  ·exact tr _ _ _ hab ((List.pairwise_cons.1 ih).1 x hx)
theorem next_of_pw {α : Type} {R : α → α → Prop} {l : List α} (h : l.Pairwise R) {i : Nat} {x y : α} (hx : l[i]? = some x) (hy : l[i + 1]? = some y) : R x y := by
 obtain ⟨h1,rfl⟩ := List.getElem?_eq_some_iff.1 hx
 obtain ⟨h2,rfl⟩ := List.getElem?_eq_some_iff.1 hy
 exact List.pairwise_iff_getElem.1 h i (i + 1) h1 h2 (by omega)
theorem mayP_iff (cs : List Cell) : MayP cs ↔ Good cs := by
 constructor
 ·intro h
  refine ⟨pw_of_next (R := fun a b : Cell => klt a.key b.key = true) (fun _ _ _ => klt_trans) cs ?_,?_⟩
  ·intro i x y hx hy
   exact (h (i + 1) y hy).1.1 x (by omega) (by simpa using hx)
  ·intro c hc
   obtain ⟨i,hi,rfl⟩ := List.mem_iff_getElem.1 hc
   obtain ⟨h1,h2⟩ := h i _ (List.getElem?_eq_getElem hi)
   refine ⟨h1.2.1,h1.2.2.1,h1.2.2.2,pw_of_next (R := fun a b : Ver => Stamp.lt a.at_ b.at_ = true) (fun _ _ _ => Stamp.lt_trans) _ ?_,?_⟩
   ·intro k x y hx hy
    exact (h2 (k + 1) y hy).1 x (by omega) (by simpa using hx)
   ·intro v hv
    obtain ⟨k,hk,rfl⟩ := List.mem_iff_getElem.1 hv
    exact (h2 k _ (List.getElem?_eq_getElem hk)).2
 ·intro h i x hx
  have ho := h.ok x (List.mem_of_getElem? hx)
  refine ⟨⟨?_,ho.nolock,ho.some_,ho.ldata⟩,?_⟩
  ·intro y hp hy
   exact next_of_pw h.sorted hy (by rw [show i - 1 + 1 = i by omega]; exact hx)
  ·intro k v hv
   refine ⟨?_,ho.vdata v (List.mem_of_getElem? hv)⟩
   intro u hp hu
   exact next_of_pw ho.vs hu (by rw [show k - 1 + 1 = k by omega]; exact hv)
theorem Good.nil : Good [] := ⟨.nil,by simp⟩
theorem Sz.nil (n : Nat) : Sz n [] := ⟨by simp,by simp⟩
theorem Sz.mono {n m : Nat} {cs : List Cell} (h : Sz n cs) (hm : n ≤ m) : Sz m cs := ⟨Nat.le_trans h.1 hm,fun c hc => Nat.le_trans (h.2 c hc) hm⟩
theorem lkW_data (w : Wri) (l : Lck) : (lkW w l).drop = true → (lkW w l).data = noB := by
 intro h
 have : w.drop = true := h
 simp [lkW,this]
theorem lock_good {cs : List Cell} (w : Wri) (l : Lck) (h : Good cs) : Good (lockL cs w l) := by
 rw [lockL_eq]
 refine ⟨lockR_sorted w l h.sorted,?_⟩
 intro d hd
 rcases mem_lockR hd with ⟨h1,h2,h3,h4⟩ | hd
 ·have hv : VS d.vers ∧ ∀ v ∈ d.vers,v.drop = true → v.data = noB := by
   rcases h4 with h4 | ⟨c,hc,_,h4⟩
   ·rw [h4]; exact ⟨.nil,by simp⟩
   ·rw [h4]; exact ⟨(h.ok c hc).vs,(h.ok c hc).vdata⟩
  exact ⟨fun e => (by rw [h2] at e; cases e),fun e => (by rw [h2] at e; cases e),(by rw [h3]; exact lkW_data w l),hv.1,hv.2⟩
 ·exact h.ok d hd
theorem lock_sz {n : Nat} {cs : List Cell} (w : Wri) (l : Lck) (h : Sz n cs) : Sz (n + 1) (lockL cs w l) := by
 rw [lockL_eq]
 refine ⟨Nat.le_trans (lockR_len w l cs) (by have := h.1; omega),?_⟩
 intro d hd
 rcases mem_lockR hd with ⟨h1,h2,h3,h4⟩ | hd
 ·rcases h4 with h4 | ⟨c,hc,_,h4⟩
  ·rw [h4]; simp
  ·rw [h4]; have := h.2 c hc; omega
 ·have := h.2 d hd; omega
theorem settleC_ok {by_ : Try4} {yes : Bool} {c d : Cell} (h : CellOk c) (hd : leftC (settleC by_ yes c) = some d) : CellOk d := by
 obtain ⟨rfl,hl⟩ := leftC_some hd
 unfold settleC at hl ⊢
 split
 ·rename_i hm
  rw [if_pos hm] at hl
  simp only at hl
  refine ⟨fun _ => rfl,fun _ => ?_,fun e => (by cases e),?_,?_⟩
  ·rcases hl with hl | hl
   ·cases hl
   ·exact hl
  ·show VS (if yes = true then putV c.vers (verL c.lock) else c.vers)
   split
   ·rw [putV_eq _ h.vs]; exact insR_vs _ h.vs
   ·exact h.vs
  ·show ∀ v ∈ (if yes = true then putV c.vers (verL c.lock) else c.vers),_
   split
   ·rw [putV_eq _ h.vs]
    intro v hv
    rcases mem_insR hv with rfl | hv
    ·exact h.ldata
    ·exact h.vdata v hv
   ·exact h.vdata
 ·exact h
theorem filterMap_ok {f : Cell → Option Cell} {cs : List Cell} (hf : ∀ c ∈ cs, ∀ d,f c = some d → CellOk d) : ∀ d ∈ cs.filterMap f,CellOk d := by
 intro d hd
 obtain ⟨c,hc,hcd⟩ := List.mem_filterMap.1 hd
 exact hf c hc d hcd
theorem settle_good {cs : List Cell} (by_ : Try4) (yes : Bool) (h : Good cs) : Good (settleL cs by_ yes) :=
 ⟨(settle_KP by_ yes).sorted h.sorted,filterMap_ok fun c hc d hd => settleC_ok (h.ok c hc) hd⟩
theorem settle_sz {n : Nat} {cs : List Cell} (by_ : Try4) (yes : Bool) (g : Good cs) (h : Sz n cs) : Sz (n + 1) (settleL cs by_ yes) := by
 refine ⟨Nat.le_trans (List.length_filterMap_le _ _) (by have := h.1; omega),?_⟩
 intro d hd
 obtain ⟨c,hc,hcd⟩ := List.mem_filterMap.1 hd
 obtain ⟨rfl,_⟩ := leftC_some hcd
 have hn := h.2 c hc
 unfold settleC
 split
 ·show (if yes = true then putV c.vers (verL c.lock) else c.vers).length ≤ n + 1
  split
  ·rw [putV_eq _ (g.ok c hc).vs]
   have := insR_len (verL c.lock) c.vers
   omega
  ·omega
 ·omega
theorem trimC_ok {t : Stamp} {c d : Cell} (h : CellOk c) (hd : leftC (trimC t c) = some d) : CellOk d := by
 obtain ⟨rfl,hl⟩ := leftC_some hd
 refine ⟨h.nolock,?_,h.ldata,vs_drop h.vs _,fun v hv => h.vdata v (List.mem_of_mem_drop hv)⟩
 intro e
 rcases hl with hl | hl
 ·rw [e] at hl; cases hl
 ·exact hl
theorem trim_good {cs : List Cell} (t : Stamp) (h : Good cs) : Good (trimL cs t) :=
 ⟨(trim_KP t).sorted h.sorted,filterMap_ok fun c hc d hd => trimC_ok (h.ok c hc) hd⟩
theorem trim_sz {n : Nat} {cs : List Cell} (t : Stamp) (h : Sz n cs) : Sz n (trimL cs t) := by
 refine ⟨Nat.le_trans (List.length_filterMap_le _ _) h.1,?_⟩
 intro d hd
 obtain ⟨c,hc,hcd⟩ := List.mem_filterMap.1 hd
 obtain ⟨rfl,_⟩ := leftC_some hcd
 have hn := h.2 c hc
 show (c.vers.drop _).length ≤ n
 rw [List.length_drop]; omega
theorem do_good {cs : List Cell} (o : Op8) (h : Good cs) : Good (doL cs o) := by
 unfold doL
 split
 ·exact lock_good _ _ h
 ·split
  ·exact settle_good _ _ h
  ·exact trim_good _ h
theorem do_sz {n : Nat} {cs : List Cell} (o : Op8) (g : Good cs) (h : Sz n cs) : Sz (n + 1) (doL cs o) := by
 unfold doL
 split
 ·exact lock_sz _ _ h
 ·split
  ·exact settle_sz _ _ g h
  ·exact (trim_sz _ h).mono (by omega)
def runL (ops : List Op8) : List Cell := ops.foldl doL []
theorem fold_good (ops : List Op8) : ∀ (n : Nat) (cs : List Cell),Good cs → Sz n cs → Good (ops.foldl doL cs) ∧ Sz (n + ops.length) (ops.foldl doL cs) := by
 induction ops with
 | nil => intro n cs g s; exact ⟨g,s⟩
 | cons o ops ih =>
  intro n cs g s
  have := ih (n + 1) (doL cs o) (do_good o g) (do_sz o g s)
  rw [List.foldl_cons,List.length_cons]
  exact ⟨this.1,this.2.mono (by omega)⟩
theorem runL_good (ops : List Op8) : Good (runL ops) ∧ Sz ops.length (runL ops) := by
 have := fold_good ops 0 [] Good.nil (Sz.nil 0)
 rw [Nat.zero_add] at this
 exact this
def heldK (cs : List Cell) (key : ByteArray) : Lck × Bool := match cellK cs key with | some c => if c.locked then (c.lock,true) else (noLock,false) | none => (noLock,false)
theorem fm_congr {f g : Cell → Option Cell} : ∀ {l : List Cell},(∀ c ∈ l,f c = g c) → l.filterMap f = l.filterMap g
 | [],_ => rfl
 | c :: l,h => by rw [List.filterMap_cons,List.filterMap_cons,h c (by simp),fm_congr fun d hd => h d (by simp [hd])]
end Go.Proofs.Ytefghfgmkndikaa
namespace Go.AX
open Go Go.ChangeShapes Go.WideShapes Go.RowKit Go.Deep
/-- A value of a kind, as a datum reads. -/
def kdV : Kd → Value → Prop
 | .i k,v => ∃ n,v = .int k n ∧ (Lit.int k n).wf = true
 | .b,v => ∃ b,v = .bool b
 | .s,v => ∃ s : ByteArray,v = .string s ∧ s.size ≤ maxLen
theorem all2_nil {α β : Type} {R : α → β → Prop} {m : List β} (h : All2 R [] m) : m = [] := by cases h; rfl
theorem all2_cons {α β : Type} {R : α → β → Prop} {a : α} {l : List α} {m : List β} (h : All2 R (a :: l) m) : ∃ b m',m = b :: m' ∧ R a b ∧ All2 R l m' := by
 cases h with
 | cons r t => exact ⟨_,_,rfl,r,t⟩
section
variable {H : Type} {enc : TypeId × Value → H} {P : Program} {w : World} {base : Nat} {spare : Nat → Bool} {held : Bool}
theorem flatFs_trod {ft : TypeId → Option (List Kd)} {n : Nat} {cs : List Value} (ih : ∀ t ks cs,ft t = some ks → ∀ x,DataW.trod enc P w base spare held n t cs = some x → All2 kdV ks cs) :
  ∀ (fs : List Field) (o : Nat) (ks : List Kd),flatFs ft o fs = some ks → (∀ f ∈ fs, ∃ y,DataW.trod enc P w base spare held n f.type ((cs.drop f.offset).take (P.cellsOf f.type)) = some y) →
   All2 kdV ks ((cs.drop o).take ks.length)
 | [],o,ks,h,_ => by
  simp only [flatFs,Option.some.injEq] at h; subst h
  simp only [List.length_nil,List.take_zero]; exact .nil
 | f :: fs,o,ks,h,hf => by
  unfold flatFs at h
  split at h
  ·cases h
  ·rename_i hno
   simp only [not_or,Decidable.not_not] at hno
   simp only [Option.bind_eq_some_iff] at h
   obtain ⟨a,ha,h⟩ := h
   split at h
   ·cases h
   ·simp only [Option.map_eq_some_iff] at h
    obtain ⟨r,hr,rfl⟩ := h
    obtain ⟨y,hy⟩ := hf f (by simp)
    rw [hno.2] at hy
    have h1 := ih f.type a _ ha y hy
    have hl := h1.length
    have h2 := flatFs_trod ih fs (o + a.length) r hr (fun g hg => hf g (by simp [hg]))
    have e1 : (cs.drop o).take (P.cellsOf f.type) = (cs.drop o).take a.length := by
     rw [hl,List.take_eq_take_iff]; simp
    rw [e1] at h1
    have : (cs.drop o).take (a ++ r).length = (cs.drop o).take a.length ++ (cs.drop (o + a.length)).take r.length := by
     rw [List.length_append,List.take_add,List.drop_drop]
    rw [this]
    exact h1.append h2
theorem flatT_trod : ∀ (d : Nat) (t : TypeId) (ks : List Kd) (cs : List Value) (fuel : Nat) (x : DataW H × List MemPlace),flatT P d t = some ks → DataW.trod enc P w base spare held fuel t cs = some x → All2 kdV ks cs
 | 0,_,_,_,_,_,h,_ => by cases h
 | d + 1,t,ks,cs,fuel,x,h,ht => by
  unfold flatT at h
  split at h
  ·rename_i k hu
   cases h
   obtain ⟨n,rfl,_,hw⟩ := DataW.trod_int hu ht
   exact .cons ⟨n,rfl,hw⟩ .nil
  ·rename_i hu
   cases h
   obtain ⟨b,rfl,_⟩ := DataW.trod_bool hu ht
   exact .cons ⟨b,rfl⟩ .nil
  ·rename_i hu
   cases h
   obtain ⟨s,rfl,_,hs⟩ := DataW.trod_string hu ht
   exact .cons ⟨s,rfl,hs⟩ .nil
  ·rename_i fs hu
   split at h
   ·cases h
   ·simp only [Option.bind_eq_some_iff] at h
    obtain ⟨ks',hks,h⟩ := h
    split at h
    ·rename_i hsz
     cases h
     obtain ⟨xs,n,rfl,_,hl,hlen,hf⟩ := DataW.trod_struct hu ht
     have h2 := flatFs_trod (enc := enc) (P := P) (w := w) (base := base) (spare := spare) (held := held) (n := n) (cs := cs) (fun t ks cs ht x hx => flatT_trod d t ks cs n x ht hx) fs.toList 0 ks hks (by
      intro f hf'
      obtain ⟨i,hi,rfl⟩ := List.mem_iff_getElem.1 hf'
      have hi' : i < fs.size := by simpa using hi
      have := hf i fs[i] (Array.getElem?_eq_getElem hi')
      rw [List.getElem?_eq_getElem (by omega)] at this
      exact ⟨_,by simpa using this⟩)
     have hc : P.cellsOf t = ks.length := by
      unfold sizeT at hsz
      simp [Program.cellsOf,hsz]
     rw [List.drop_zero,← hc,← hl,List.take_length] at h2
     exact h2
    ·cases h
  ·cases h
/-- A slice of data without memory behind it. -/
theorem open_flat {α : Type} {e : α → List Value} {d s : Nat} {t te : TypeId} {ks : List Kd} {fuel : Nat} {cs : List Value} {x : DataW H × List MemPlace} (ht : P.underlying t = some (.slice te)) (hk : flatT P d te = some ks) (hs : P.cellsOf te = s) (hpos : 0 < s)
  (he : ∀ cs,All2 kdV ks cs → ∃ a,cs = e a) (hel : ∀ a,(e a).length = s) (h : DataW.trod enc P w 0 (fun _ => true) true fuel t cs = some x) :
  ∃ a n c ds,cs = [.slice a n c] ∧ ds.length = n ∧ n ≤ c ∧ c ≤ maxLen ∧ SlF (fun b => b < w.heap.size) w.heap e a ds := by
 rcases open_slice ht h with ⟨rfl,_⟩ | ⟨a,len,cap,m,n,D,Pl,rfl,hb,hl,hm,hmm,hx,hi⟩
 ·exact ⟨none,0,0,[],rfl,rfl,Nat.le_refl _,Nat.zero_le _,SlF.nil⟩
 ·have hm' : m = cap := by rw [hmm]; rfl
  have hget : ∀ i,i < len → ∃ d,w.cells? 0 (a.add (i * s)) s = some (e d) := by
   intro i hil
   obtain ⟨cs',hc,htr⟩ := hi i (by omega)
   obtain ⟨d',hd'⟩ := he cs' (flatT_trod _ _ _ _ _ _ hk htr)
   rw [hs,hd'] at hc
   exact ⟨d',hc⟩
  have hds : ∀ k,k ≤ len → ∃ ds : List α,ds.length = k ∧ ∀ i d,ds[i]? = some d → w.cells? 0 (a.add (i * s)) s = some (e d) := by
   intro k
   induction k with
   | zero => intro _; exact ⟨[],rfl,fun i d h => by simp at h⟩
   | succ k ih =>
    intro hk
    obtain ⟨ds,h1,h2⟩ := ih (by omega)
    obtain ⟨d',hd'⟩ := hget k (by omega)
    refine ⟨ds ++ [d'],by simp [h1],fun i d hid => ?_⟩
    rcases Nat.lt_or_ge i ds.length with hlt | hge
    ·rw [List.getElem?_append_left hlt] at hid
     exact h2 i d hid
    ·rw [List.getElem?_append_right hge] at hid
     have : i - ds.length = 0 := by
      have := (List.getElem?_eq_some_iff.1 hid).1
      simp at this; omega
     rw [this] at hid
     simp at hid; subst hid
     rw [show i = k by omega]; exact hd'
  obtain ⟨ds,h1,h2⟩ := hds len (Nat.le_refl _)
  refine ⟨some a,len,cap,ds,rfl,h1,hl,hm,?_⟩
  intro hne
  -- the address
  have hcell : ∀ i d j,ds[i]? = some d → j < s → w.cell? ((a.add (i * s)).add j) = (e d)[j]? := fun i d j hid hj => (World.cells?_some (h2 i d hid)).2.2 j hj
  obtain ⟨d0,hd0⟩ : ∃ d0,ds[0]? = some d0 := by
   cases ds with
   | nil => exact absurd rfl hne
   | cons d ds => exact ⟨d,rfl⟩
  have h00 := hcell 0 d0 0 hd0 hpos
  rw [Nat.zero_mul] at h00
  have ea : (a.add 0).add 0 = a := rfl
  rw [ea,List.getElem?_eq_getElem (by rw [hel]; exact hpos)] at h00
  obtain ⟨b,o,spot⟩ := a
  have hsp : spot = none := by
   cases spot with
   | none => rfl
   | some k =>
    unfold World.cell? at h00
    split at h00
    ·simp at h00
    ·cases h00
  subst hsp
  have hbl : b < w.heap.size := by
   rw [cel_cell] at h00
   exact cel_lt h00
  refine ⟨b,o,rfl,hbl,?_⟩
  have key : ∀ k,k ≤ ds.length → Row w.heap b o ((ds.take k).flatMap e) := by
   intro k
   induction k with
   | zero => intro _; simp only [List.take_zero,List.flatMap_nil]; exact Row.nil _ _ _
   | succ k ih =>
    intro hk
    obtain ⟨d',hd'⟩ := List.getElem?_eq_some_iff.2 ⟨show k < ds.length by omega,rfl⟩ |> fun h => (⟨_,h⟩ : ∃ d,ds[k]? = some d)
    rw [List.take_add_one,hd',Option.toList_some,List.flatMap_append,List.flatMap_singleton]
    refine (ih (by omega)).append ?_
    rw [flatMap_length hel,List.length_take,Nat.min_eq_left (by omega)]
    intro j hj
    rw [hel] at hj
    have := hcell k d' j hd' hj
    rw [add_mk,add_mk,cel_cell] at this
    exact this
  have := key ds.length (Nat.le_refl _)
  rwa [List.take_length] at this
end
theorem TrodAll.below {H : Type} {enc : TypeId × Value → H} {P : Program} (hl : laidOutB P = true) {W W' : World} (hb : Below W.heap.size W W') : ∀ {ts : List TypeId} {vs : List Value} {ds : List (DataW H)} {ps : List MemPlace},
  (ts.all fun t => P.readableRec t && decide (t < P.types.size)) = true → DataW.TrodAll enc P W 0 (fun _ => true) true ts vs ds ps → (∀ x ∈ ps,x.block < W.heap.size) → DataW.TrodAll enc P W' 0 (fun b => decide (b < W.heap.size)) true ts vs ds ps
 | [],vs,ds,ps,_,h,_ => by
  obtain ⟨rfl,rfl,rfl⟩ := trodAll_nil h
  exact trodAll_mk0
 | t :: ts,vs,ds,ps,hr,h,hlt => by
  obtain ⟨v,vs',d,ds',p,q,rfl,rfl,rfl,h1,h2⟩ := trodAll_cons h
  simp only [List.all_cons,Bool.and_eq_true,decide_eq_true_eq] at hr
  exact ⟨p,q,Below.trod hl hr.1.1 hr.1.2 h1 hb (fun x hx => hlt x (by simp [hx])),TrodAll.below hl hb hr.2 h2 (fun x hx => hlt x (by simp [hx])),rfl⟩
theorem below_of {W W' : World} (s : Same W W') (e : Ext W.heap W'.heap) : Below W.heap.size W W' := ⟨s.os,s.tape,s.output,e.size,fun k hk => e.at_ k hk⟩
end Go.AX
namespace Go.Proofs.Ytefghfgmkndikaa
open Go Go.AX Go.ChangeShapes Go.WideShapes Go.ChangeAt Go.RowKit
theorem tryOwn : ownKnob Try.prog.godebug = none := by kernel_rfl
theorem tryLaid : laidOutB Try.prog = true := by kernel_rfl
theorem trodLen {H : Type} {enc : TypeId × Value → H} {P : Program} {w : World} {base : Nat} {spare : Nat → Bool} {held : Bool} : ∀ {ts : List TypeId} {vs : List Value} {ds : List (DataW H)} {ps : List MemPlace},DataW.TrodAll enc P w base spare held ts vs ds ps → vs.length = ts.length ∧ ds.length = ts.length
 | [],_,_,_,h => by
  obtain ⟨rfl,rfl,_⟩ := trodAll_nil h
  exact ⟨rfl,rfl⟩
 | _ :: _,_,_,_,h => by
  obtain ⟨v,vs',d,ds',p,q,rfl,rfl,rfl,_,h2⟩ := trodAll_cons h
  have := trodLen h2
  simp [this.1,this.2]
set_option maxRecDepth 100000 in
/-- What a law's function must do, for its row. -/
theorem law_lift {f : FuncId} {fn : Func} {s : ChangeSpec} {ts : List TypeId} {tb : TypeId} (hfn : Try.prog.funcs[f]? = some fn) (hts : fn.params.toList = ts) (hres : fn.resultTypes = #[tb]) (htb : Try.prog.underlying tb = some .bool) (hvars : s.vars = [])
  (hspec : ∀ (H : Type) (ds : List (DataW H)),ds.length = ts.length → s.fn H ds = { results := [.lit (.bool true)],args := ds,vars := [] }) (hread : (ts.all fun t => Try.prog.readableRec t && decide (t < Try.prog.types.size)) = true) (noInit : Try.prog.inits.idxOf? f = none)
  (os : Os) (started : os.Started) (H : Type) (enc : TypeId × Value → H)
  (witness : ∃ (w : World) (tape : Tape) (i : Input),w.os = os ∧ (w.forCall tape i).Shaped Try.checked.prog ∧ i.vars = [] ∧ Input.okWide Try.checked.prog (w.forCall tape i) .any w.heap.size f i ∧
   s.pre6 enc Try.checked.prog fn [] false (w.forCall tape i).memory i.args ∧ ({} : Assume).holds Try.checked.prog (lone (Frame.enter Try.checked.prog f i.args .normal) [] (w.forCall tape i)))
  (walk : ∀ (W : World) (base : Nat) (vs : List Value) (ds : List (DataW H)) (p : List MemPlace),(∀ (j : Nat) t v,ts[j]? = some t → vs[j]? = some v → Value.okWide Try.prog W .any base t v) → DataW.TrodAll enc Try.prog W 0 (fun _ => true) true ts vs ds p →
   CallsH Try.prog f vs W.heap fun v h' => v = .bool true ∧ Ext W.heap h') :
  ReturnsInHanded {} Try.checked os f .any (s.pre6 enc Try.prog fn [] false) (s.post enc Try.prog fn false true false false) := by
 refine returnsInHanded_of_change (C := Try.checked) tryOwn started noInit hfn witness ?_
 intro W base args ds gs before hval0 hW hcnd _
 have hW' := hW
 obtain ⟨p,q,hA0,hV,rfl,hfz,hnd⟩ := hW
 have hA : DataW.TrodAll enc Try.prog W 0 (fun _ => true) true fn.params.toList args.toList ds p := hA0
 rw [hts] at hA
 have hV' : DataW.TrodVars enc Try.prog W (fun _ => true) s.vars gs q := hV
 rw [hvars] at hV'
 obtain ⟨rfl,rfl⟩ := trodVars_none hV'
 have hval : ∀ (j : Nat) t v,ts[j]? = some t → args.toList[j]? = some v → Value.okWide Try.prog W .any base t v := fun j t v h1 h2 => by
  refine hval0 j t v ?_ (by simpa using h2)
  rw [← hts] at h1; simpa using h1
 have hlen : ds.length = ts.length := (trodLen hA).2
 have hcall := walk W base args.toList ds p hval hA W rfl
 rw [Array.toArray_toList] at hcall
 refine hcall.mono fun e W' ⟨v,he,⟨hv,hx⟩,hsame⟩ => ?_
 subst he; subst hv
 have hb := below_of hsame hx
 refine ⟨_,rfl,ds,[],p ++ [],[],p,[],hW',?_,?_,?_,hb.frame _,fun h => by cases h⟩
 ·rw [List.append_nil,hspec H ds hlen,hres]
  exact trodAll_mk1 (shut_bool htb true)
 ·rw [List.append_nil,hspec H ds hlen,hts]
  exact TrodAll.below tryLaid hb hread hA (fun x hx => by simpa using hW'.lt x (by simpa using hx))
 ·rw [hvars,List.append_nil,hspec H ds hlen]
  rfl
end Go.Proofs.Ytefghfgmkndikaa
namespace Go.Proofs.Ytefghfgmkndikaa
open Go Go.AX Go.ChangeShapes Go.WideShapes Go.RowKit Go.Deep
theorem kdStamp {cs : List Value} (h0 : All2 kdV [.i .i64,.i .i64] cs) : ∃ x : Stamp,cs = eStamp x := by
 obtain ⟨_,_,rfl,⟨a0,rfl,_⟩,h1⟩ := all2_cons h0
 obtain ⟨_,_,rfl,⟨a1,rfl,_⟩,h2⟩ := all2_cons h1
 have := all2_nil h2; subst this
 exact ⟨⟨a0,a1⟩,rfl⟩
theorem flat39 : flatT Try.prog 20 39 = some [.i .i64,.i .i64] := by kernel_rfl
theorem kdTry {cs : List Value} (h0 : All2 kdV [.i .i64,.i .i64,.i .i64,.i .i64] cs) : ∃ x : Try4,cs = eTry x := by
 obtain ⟨_,_,rfl,⟨a0,rfl,_⟩,h1⟩ := all2_cons h0
 obtain ⟨_,_,rfl,⟨a1,rfl,_⟩,h2⟩ := all2_cons h1
 obtain ⟨_,_,rfl,⟨a2,rfl,_⟩,h3⟩ := all2_cons h2
 obtain ⟨_,_,rfl,⟨a3,rfl,_⟩,h4⟩ := all2_cons h3
 have := all2_nil h4; subst this
 exact ⟨⟨a0,a1,a2,a3⟩,rfl⟩
theorem flat37 : flatT Try.prog 20 37 = some [.i .i64,.i .i64,.i .i64,.i .i64] := by kernel_rfl
theorem kdWri {cs : List Value} (h0 : All2 kdV [.s,.b,.s] cs) : ∃ x : Wri,cs = eWri x := by
 obtain ⟨_,_,rfl,⟨a0,rfl,_⟩,h1⟩ := all2_cons h0
 obtain ⟨_,_,rfl,⟨a1,rfl⟩,h2⟩ := all2_cons h1
 obtain ⟨_,_,rfl,⟨a2,rfl,_⟩,h3⟩ := all2_cons h2
 have := all2_nil h3; subst this
 exact ⟨⟨a0,a1,a2⟩,rfl⟩
theorem flat70 : flatT Try.prog 20 70 = some [.s,.b,.s] := by kernel_rfl
theorem kdSpn {cs : List Value} (h0 : All2 kdV [.s,.s] cs) : ∃ x : Spn,cs = eSpn x := by
 obtain ⟨_,_,rfl,⟨a0,rfl,_⟩,h1⟩ := all2_cons h0
 obtain ⟨_,_,rfl,⟨a1,rfl,_⟩,h2⟩ := all2_cons h1
 have := all2_nil h2; subst this
 exact ⟨⟨a0,a1⟩,rfl⟩
theorem flat94 : flatT Try.prog 20 94 = some [.s,.s] := by kernel_rfl
section
variable {H : Type} {enc : TypeId × Value → H} {w : World} {base : Nat} {t : TypeId} {v : Value} {d : DataW H} {p : List MemPlace}
set_option maxRecDepth 100000 in
/-- A slice of flat structs as an argument. -/
theorem argFlat {α : Type} {e : α → List Value} {s te : TypeId} {ks : List Kd} (ht : Try.prog.underlying t = some (.slice te)) (hk : flatT Try.prog 20 te = some ks) (hs : Try.prog.cellsOf te = s) (hpos : 0 < s)
  (he : ∀ cs,All2 kdV ks cs → ∃ a,cs = e a) (hel : ∀ a,(e a).length = s) (hv : Value.okWide Try.prog w .any base t v) (h : DataW.Trod enc Try.prog w 0 (fun _ => true) true t v d p) :
  ∃ a c ds,v = .slice a ds.length c ∧ ds.length ≤ maxLen ∧ ds.length ≤ c ∧ SlF (fun b => b < w.heap.size) w.heap e a ds := by
 obtain ⟨a0,n0,c0,rfl⟩ := okWide_slice ht hv
 obtain ⟨fuel,hf⟩ := h
 obtain ⟨a,n,c,ds,hcs,hl,hnc,hc,S⟩ := open_flat ht hk hs hpos he hel hf
 have : a0 = a ∧ n0 = n ∧ c0 = c := by simpa [Value.cells] using hcs
 obtain ⟨rfl,rfl,rfl⟩ := this
 subst hl
 exact ⟨_,_,ds,rfl,Nat.le_trans hnc hc,hnc,S⟩
end
theorem und4 : Try.prog.underlying 4 = some .bool := by kernel_rfl
end Go.Proofs.Ytefghfgmkndikaa
namespace Go.AX
open Go Go.ChangeShapes Go.WideShapes Go.RowKit Go.Deep
/-- A struct's fields: their types and places. -/
def isStrF (P : Program) (t : TypeId) (l : List (TypeId × Nat)) : Bool := match P.underlying t with | some (.struct fs) => (fs.toList.map fun f => (f.type,f.offset)) == l | _ => false
section
variable {H : Type} {enc : TypeId × Value → H} {P : Program} {w : World} {base : Nat} {spare : Nat → Bool} {held : Bool}
theorem trod_fields {t : TypeId} {l : List (TypeId × Nat)} {fuel : Nat} {cs : List Value} {x : DataW H × List MemPlace} (hl : isStrF P t l = true) (h : DataW.trod enc P w base spare held fuel t cs = some x) :
  cs.length = P.cellsOf t ∧ ∀ p ∈ l, ∃ n y,DataW.trod enc P w base spare held n p.1 ((cs.drop p.2).take (P.cellsOf p.1)) = some y := by
 unfold isStrF at hl
 split at hl
 ·rename_i fs hu
  have hl : (fs.toList.map fun f => (f.type,f.offset)) = l := eq_of_beq hl
  obtain ⟨xs,n,rfl,_,hlen,hxl,hf⟩ := DataW.trod_struct hu h
  refine ⟨hlen,?_⟩
  rw [← hl]
  intro p hp
  obtain ⟨f,hfm,rfl⟩ := List.mem_map.1 hp
  obtain ⟨i,hi,rfl⟩ := List.mem_iff_getElem.1 hfm
  have hi' : i < fs.size := by simpa using hi
  have := hf i fs[i] (Array.getElem?_eq_getElem hi')
  rw [List.getElem?_eq_getElem (by omega)] at this
  exact ⟨n,_,by simpa using this⟩
 ·cases hl
/-- A slice whose elements read as data with a property. -/
theorem open_rows {α : Type} {e : α → List Value} {Q : α → Prop} {s : Nat} {t te : TypeId} {fuel : Nat} {cs : List Value} {x : DataW H × List MemPlace} (ht : P.underlying t = some (.slice te)) (hs : P.cellsOf te = s) (hpos : 0 < s)
  (he : ∀ n cs y,DataW.trod enc P w 0 (fun _ => true) true n te cs = some y → ∃ a,cs = e a ∧ Q a) (hel : ∀ a,(e a).length = s) (h : DataW.trod enc P w 0 (fun _ => true) true fuel t cs = some x) :
  ∃ a n c ds,cs = [.slice a n c] ∧ ds.length = n ∧ n ≤ c ∧ c ≤ maxLen ∧ SlF (fun b => b < w.heap.size) w.heap e a ds ∧ ∀ d ∈ ds,Q d := by
 rcases open_slice ht h with ⟨rfl,_⟩ | ⟨a,len,cap,m,n,D,Pl,rfl,hb,hl,hm,hmm,hx,hi⟩
 ·exact ⟨none,0,0,[],rfl,rfl,Nat.le_refl _,Nat.zero_le _,SlF.nil,by simp⟩
 ·have hm' : m = cap := by rw [hmm]; rfl
  have hget : ∀ i,i < len → ∃ d,w.cells? 0 (a.add (i * s)) s = some (e d) ∧ Q d := by
   intro i hil
   obtain ⟨cs',hc,htr⟩ := hi i (by omega)
   obtain ⟨d',hd',hq⟩ := he _ _ _ htr
   rw [hs,hd'] at hc
   exact ⟨d',hc,hq⟩
  have hds : ∀ k,k ≤ len → ∃ ds : List α,ds.length = k ∧ ∀ i d,ds[i]? = some d → w.cells? 0 (a.add (i * s)) s = some (e d) ∧ Q d := by
   intro k
   induction k with
   | zero => intro _; exact ⟨[],rfl,fun i d h => by simp at h⟩
   | succ k ih =>
    intro hk
    obtain ⟨ds,h1,h2⟩ := ih (by omega)
    obtain ⟨d',hd'⟩ := hget k (by omega)
    refine ⟨ds ++ [d'],by simp [h1],fun i d hid => ?_⟩
    rcases Nat.lt_or_ge i ds.length with hlt | hge
    ·rw [List.getElem?_append_left hlt] at hid
     exact h2 i d hid
    ·rw [List.getElem?_append_right hge] at hid
     have : i - ds.length = 0 := by
      have := (List.getElem?_eq_some_iff.1 hid).1
      simp at this; omega
     rw [this] at hid
     simp at hid; subst hid
     rw [show i = k by omega]; exact hd'
  obtain ⟨ds,h1,h2⟩ := hds len (Nat.le_refl _)
  have hQ : ∀ d ∈ ds,Q d := by
   intro d hd
   obtain ⟨i,hi,rfl⟩ := List.mem_iff_getElem.1 hd
   exact (h2 i _ (List.getElem?_eq_getElem hi)).2
  refine ⟨some a,len,cap,ds,rfl,h1,hl,hm,?_,hQ⟩
  intro hne
  have hcell : ∀ i d j,ds[i]? = some d → j < s → w.cell? ((a.add (i * s)).add j) = (e d)[j]? := fun i d j hid hj => (World.cells?_some (h2 i d hid).1).2.2 j hj
  obtain ⟨d0,hd0⟩ : ∃ d0,ds[0]? = some d0 := by
   cases ds with
   | nil => exact absurd rfl hne
   | cons d ds => exact ⟨d,rfl⟩
  have h00 := hcell 0 d0 0 hd0 hpos
  rw [Nat.zero_mul] at h00
  have ea : (a.add 0).add 0 = a := rfl
  rw [ea,List.getElem?_eq_getElem (by rw [hel]; exact hpos)] at h00
  obtain ⟨b,o,spot⟩ := a
  have hsp : spot = none := by
   cases spot with
   | none => rfl
   | some k =>
    unfold World.cell? at h00
    split at h00
    ·simp at h00
    ·cases h00
  subst hsp
  have hbl : b < w.heap.size := by
   rw [cel_cell] at h00
   exact cel_lt h00
  refine ⟨b,o,rfl,hbl,?_⟩
  have key : ∀ k,k ≤ ds.length → Row w.heap b o ((ds.take k).flatMap e) := by
   intro k
   induction k with
   | zero => intro _; simp only [List.take_zero,List.flatMap_nil]; exact Row.nil _ _ _
   | succ k ih =>
    intro hk
    obtain ⟨d',hd'⟩ := List.getElem?_eq_some_iff.2 ⟨show k < ds.length by omega,rfl⟩ |> fun h => (⟨_,h⟩ : ∃ d,ds[k]? = some d)
    rw [List.take_add_one,hd',Option.toList_some,List.flatMap_append,List.flatMap_singleton]
    refine (ih (by omega)).append ?_
    rw [flatMap_length hel,List.length_take,Nat.min_eq_left (by omega)]
    intro j hj
    rw [hel] at hj
    have := hcell k d' j hd' hj
    rw [add_mk,add_mk,cel_cell] at this
    exact this
  have := key ds.length (Nat.le_refl _)
  rwa [List.take_length] at this
theorem all2_ex {α β : Type} {R : α → β → Prop} : ∀ {l : List α},(∀ a ∈ l, ∃ b,R a b) → ∃ m,All2 R l m
 | [],_ => ⟨[],.nil⟩
 | a :: l,h => by
  obtain ⟨b,hb⟩ := h a (by simp)
  obtain ⟨m,hm⟩ := all2_ex (l := l) fun x hx => h x (by simp [hx])
  exact ⟨b :: m,.cons hb hm⟩
end
end Go.AX
namespace Go.Proofs.Ytefghfgmkndikaa
open Go Go.AX Go.ChangeShapes Go.WideShapes Go.RowKit Go.Deep
section
variable {H : Type} {enc : TypeId × Value → H} {w : World} {base : Nat}
theorem sz4 : Try.prog.cellsOf 4 = 1 := by kernel_rfl
end
end Go.Proofs.Ytefghfgmkndikaa
namespace Go.AX
open Go
theorem make_of {P : Program} {l : List Char} {rest : List (List Char)} (h : P.initOrder.toList = l) (h2 : behindMainWord (wordsSigns l) = "cut".toList :: rest) : P.make = some Make.cut := by
 unfold Program.make; rw [h,h2]; rfl
theorem lifts_of {P : Program} {l : List Char} {rest : List (List Char)} (h : P.initOrder.toList = l) (h2 : behindMainWord (wordsSigns l) = "cut".toList :: rest) : P.liftsFinal = false := by
 unfold Program.liftsFinal Program.headLifts; rw [h,h2]; rfl
theorem enter_of {P : Program} {l : List Char} {rest : List (List Char)} (h : P.initOrder.toList = l) (h2 : behindMainWord (wordsSigns l) = "cut".toList :: rest) (h3 : P.laysLater = false) (h4 : P.bearsReflect = false) (h5 : P.doorFits [] = true) : P.mayEnter = true := by
 have e : stripLifts liftWords ("cut".toList :: rest) = ([], "cut".toList :: rest) := rfl
 unfold Program.mayEnter; rw [h,h2]; simp only [e,h3,h4,h5]; rfl
end Go.AX
namespace Go.Proofs.Ytefghfgmkndikaa
open Go Go.AX Go.ChangeShapes Go.WideShapes Go.ChangeAt Go.RowKit
set_option maxRecDepth 100000
def headSigns : List Char := [104,97,114,110,101,115,115,32,49,52,53,50,100,54,52,101,48,100,97,54,53,102,102,102,102,55,50,97,56,51,56,100,53,51,49,99,57,57,100,101,51,54,100,100,49,99,53,53,56,100,49,102,57,51,98,53,99,97,97,53,57,98,50,101,50,98,51,101,48,55,97,99,32,99,117,116,32,97,116,32,97,110,116,105,112,111,100,101,47,97,110,116,105,112,111,100,101,108,97,119,50,54,46,78,101,116,65,108,108,32,97,110,116,105,112,111,100,101,47,97,110,116,105,112,111,100,101,108,97,119,50,54,46,78,101,116,70,117,108,108,32,97,110,116,105,112,111,100,101,47,97,110,116,105,112,111,100,101,108,97,119,50,54,46,78,101,116,79,114,100,101,114,32,97,110,116,105,112,111,100,101,47,97,110,116,105,112,111,100,101,108,97,119,56,46,77,118,99,99,80,97,115,116,32,97,110,116,105,112,111,100,101,47,97,110,116,105,112,111,100,101,108,97,119,56,46,77,118,99,99,84,117,114,110,115,32,97,110,116,105,112,111,100,101,47,97,110,116,105,112,111,100,101,108,97,119,56,46,77,118,99,99,65,112,97,114,116,32,97,110,116,105,112,111,100,101,47,97,110,116,105,112,111,100,101,108,97,119,56,46,77,118,99,99,70,114,101,101,32,97,110,116,105,112,111,100,101,47,97,110,116,105,112,111,100,101,108,97,119,56,46,77,118,99,99,84,114,105,109,115,32,97,110,116,105,112,111,100,101,47,97,110,116,105,112,111,100,101,108,97,119,56,46,77,118,99,99,83,99,97,110,115,32,97,110,116,105,112,111,100,101,47,97,110,116,105,112,111,100,101,108,97,119,56,46,77,118,99,99,65,108,108,32,97,110,116,105,112,111,100,101,47,97,110,116,105,112,111,100,101,108,97,119,56,46,77,118,99,99,65,110,121,32,97,110,116,105,112,111,100,101,47,97,110,116,105,112,111,100,101,108,97,119,50,51,46,80,97,114,116,65,108,108,32,97,110,116,105,112,111,100,101,47,97,110,116,105,112,111,100,101,108,97,119,50,51,46,80,97,114,116,65,110,121,32,97,110,116,105,112,111,100,101,47,97,110,116,105,112,111,100,101,108,97,119,50,51,46,80,97,114,116,82,101,97,100,115,32,97,110,116,105,112,111,100,101,47,97,110,116,105,112,111,100,101,108,97,119,50,51,46,80,97,114,116,67,108,111,115,101,115,32,97,110,116,105,112,111,100,101,47,97,110,116,105,112,111,100,101,108,97,119,50,51,46,80,97,114,116,68,101,99,105,100,101,115,32,97,110,116,105,112,111,100,101,47,97,110,116,105,112,111,100,101,108,97,119,50,51,46,80,97,114,116,79,110,99,101,32,97,110,116,105,112,111,100,101,47,97,110,116,105,112,111,100,101,108,97,119,50,51,46,80,97,114,116,76,111,99,107,115,32,97,110,116,105,112,111,100,101,47,97,110,116,105,112,111,100,101,108,97,119,50,51,46,80,97,114,116,69,112,111,99,104,115,32,97,110,116,105,112,111,100,101,47,97,110,116,105,112,111,100,101,108,97,119,50,51,46,80,97,114,116,83,116,111,112,115,32,97,110,116,105,112,111,100,101,47,97,110,116,105,112,111,100,101,108,97,119,50,51,46,80,97,114,116,83,101,116,116,108,101,100].map Char.ofNat
theorem head1 : Try.prog.initOrder = String.ofList headSigns := by kernel_rfl
theorem head2 : Try.prog.initOrder.toList = headSigns := by rw [head1,String.toList_ofList]
theorem head0 : (behindMainWord (wordsSigns headSigns)).head? = some "cut".toList := by kernel_rfl
theorem headR : ∃ rest, behindMainWord (wordsSigns headSigns) = "cut".toList :: rest := by
 have := head0
 generalize behindMainWord (wordsSigns headSigns) = l at this
 cases l with
 | nil => cases this
 | cons a l => cases this; exact ⟨l,rfl⟩
theorem head3 : Try.prog.mayEnter = true := by
 obtain ⟨r,hr⟩ := headR
 exact enter_of head2 hr (by kernel_rfl) (by kernel_rfl) (by kernel_rfl)
theorem head4 : Try.prog.liftsFinal = false := by
 obtain ⟨r,hr⟩ := headR
 exact lifts_of head2 hr
theorem head5 : Try.prog.make = some Make.cut := by
 obtain ⟨r,hr⟩ := headR
 exact make_of head2 hr
end Go.Proofs.Ytefghfgmkndikaa
