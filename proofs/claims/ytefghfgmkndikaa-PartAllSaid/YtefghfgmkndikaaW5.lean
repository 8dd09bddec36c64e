/-
  The walks and plain laws under the laws of one package: texts of mine put together, what they do not use left out (wip/tools/prune.py).
-/
import Derived.Test.YtefghfgmkndikaaW4
set_option linter.unusedSimpArgs false
set_option linter.unusedVariables false
open Nat renaming reduceEqDiff → Z1, reduceAdd → Z2, reduceMul → Z3, reduceLT → Z4, reduceLeDiff → Z5, le_of_ble_eq_true → Lb
namespace Go.AX
open Go
theorem OwnC.gr {lo : Nat} {h h' : Heap} {a : Option Addr} {n c : Nat} {cs : List Cell} (O : OwnC lo h a n c cs) {row : Option Nat} (g : Gr row h h') (hr : ∀ k,row = some k → k < lo) : OwnC lo h' a n c cs := by
 obtain ⟨vs,h1,h2,h3⟩ := O
 have hne : ∀ b,lo ≤ b → some b ≠ row := fun b hb e => by have := hr b e.symm; omega
 exact ⟨vs,h1.gr g (fun k hk e => hne k (h1.ob k hk).1 e.symm),h2,h3.imp fun _ _ r => r.to fun b hb => ⟨⟨hb.1,Nat.lt_of_lt_of_le hb.2.1 g.size,hb.2.2⟩,g.at_ b hb.2.1 (hne b hb.1)⟩⟩
/-- The state p lies as v: its cells in the heap hc of an earlier time, outcomes in rows of the call's own that came later. -/
structure PrO (l0 lo : Nat) (hc h : Heap) (v : PrV) (p : Prt) : Prop where
 s : v.s = p.s
 cn : v.cn = p.cells.length
 rn : v.rn = p.records.length
 dn : v.dn = p.done.length
 cells : OwnC lo hc v.ca v.cn v.cc p.cells
 le : l0 ≤ lo ∧ lo ≤ hc.size ∧ hc.size ≤ h.size
 kept : ∀ b,lo ≤ b → b < hc.size → h[b]? = hc[b]?
 records : Own l0 h 126 7 v.ra v.rn v.rc (p.records.flatMap eOut)
 done : Own l0 h 126 7 v.da v.dn v.dc (p.done.flatMap eOut)
 ra : ∀ k,ob v.ra = some k → k < lo ∨ hc.size ≤ k
 da : ∀ k,ob v.da = some k → k < lo ∨ hc.size ≤ k
 apart : ∀ k,ob v.ra = some k → ob v.da ≠ some k
theorem PrO.exts {l0 lo : Nat} {hc h h' : Heap} {v : PrV} {p : Prt} (O : PrO l0 lo hc h v p) (x : Ext h h') : PrO l0 lo hc h' v p := ⟨O.s,O.cn,O.rn,O.dn,O.cells,⟨O.le.1,O.le.2.1,Nat.le_trans O.le.2.2 x.size⟩,fun b h1 h2 => (x.at_ b (Nat.lt_of_lt_of_le h2 O.le.2.2)).trans (O.kept b h1 h2),O.records.ext x,O.done.ext x,O.ra,O.da,O.apart⟩
theorem PrO.upd {l0 lo : Nat} {hc h h' : Heap} {v : PrV} {p : Prt} (O : PrO l0 lo hc h v p) {b : Nat} (u : Upd b h h') (hb : b < lo ∨ hc.size ≤ b) (h1 : ob v.ra ≠ some b) (h2 : ob v.da ≠ some b) : PrO l0 lo hc h' v p :=
 ⟨O.s,O.cn,O.rn,O.dn,O.cells,⟨O.le.1,O.le.2.1,by rw [u.size]; exact O.le.2.2⟩,fun c h3 h4 => (u.ne c (by omega)).trans (O.kept c h3 h4),O.records.gr u.gr (fun k hk e => by cases e; exact h1 hk),O.done.gr u.gr (fun k hk e => by cases e; exact h2 hk),O.ra,O.da,O.apart⟩
/-- The state p lies as v, all of it in what came from lo on. -/
structure PrF (lo : Nat) (h : Heap) (v : PrV) (p : Prt) : Prop where
 s : v.s = p.s
 cn : v.cn = p.cells.length
 rn : v.rn = p.records.length
 dn : v.dn = p.done.length
 cells : OwnC lo h v.ca v.cn v.cc p.cells
 records : Own lo h 126 7 v.ra v.rn v.rc (p.records.flatMap eOut)
 done : Own lo h 126 7 v.da v.dn v.dc (p.done.flatMap eOut)
theorem OwnC.kept {lo : Nat} {h h' : Heap} {a : Option Addr} {n c : Nat} {cs : List Cell} (O : OwnC lo h a n c cs) (hs : h.size ≤ h'.size) (hk : ∀ b,lo ≤ b → b < h.size → h'[b]? = h[b]?) : OwnC lo h' a n c cs := by
 obtain ⟨vs,h1,h2,h3⟩ := O
 refine ⟨vs,?_,h2,h3.imp fun _ _ r => r.to fun b hb => ⟨⟨hb.1,Nat.lt_of_lt_of_le hb.2.1 hs,hb.2.2⟩,hk b hb.1 hb.2.1⟩⟩
 have hob := h1.ob
 refine ⟨h1.1,h1.2.imp id ?_⟩
 rintro ⟨b,cur,rfl,h4,h5,h6⟩
 exact ⟨b,cur,rfl,h4,by rw [hk b (hob b rfl).1 (hob b rfl).2]; exact h5,h6⟩
theorem PrO.fin {l0 lo : Nat} {hc h : Heap} {v : PrV} {p : Prt} (O : PrO l0 lo hc h v p) : PrF l0 h v p := ⟨O.s,O.cn,O.rn,O.dn,(O.cells.kept O.le.2.2 O.kept).mono O.le.1,O.records,O.done⟩
theorem PrF.prr {lo : Nat} {h : Heap} {v : PrV} {p : Prt} (O : PrF lo h v p) : PrR (fun b => lo ≤ b ∧ b < h.size) h v p :=
 ⟨O.s,O.cn,(by obtain ⟨_,h1,_⟩ := O.cells; exact h1.room.1),O.rn,O.dn,O.cells.slc,(SlF.of_own O.records O.rn).imp fun b hb => ⟨hb.1,hb.2.1⟩,(SlF.of_own O.done O.dn).imp fun b hb => ⟨hb.1,hb.2.1⟩⟩
theorem PrF.mono {lo lo' : Nat} {h : Heap} {v : PrV} {p : Prt} (O : PrF lo h v p) (hl : lo' ≤ lo) : PrF lo' h v p := ⟨O.s,O.cn,O.rn,O.dn,O.cells.mono hl,O.records.mono hl,O.done.mono hl⟩
end Go.AX
namespace Go.Proofs.Ytefghfgmkndikaa
open Go Go.AX
theorem slT114 : slT Try.prog 114 126 7 56 = true := by kernel_rfl
/-- Not too many. -/
structure SzP (n : Nat) (p : Prt) : Prop where
 cells : Gd n p.cells
 records : p.records.length ≤ n
 done : p.done.length ≤ n
theorem SzP.mono {n m : Nat} {p : Prt} (g : SzP n p) (h : n ≤ m) : SzP m p := ⟨g.cells.mono h,Nat.le_trans g.records h,Nat.le_trans g.done h⟩
theorem cloneO_ok {B : Nat → Prop} {a : Option Addr} {c : Nat} (vs : List Out) (h : Heap) (S : SlF B h eOut a vs) (hn : vs.length ≤ big) {R : Value → Heap → Prop}
  (hR : ∀ a' c' h',Own h.size h' 126 7 a' vs.length c' (vs.flatMap eOut) → Ext h h' → R (.slice a' vs.length c') h') : CallsH Try.prog 125 [.slice a vs.length c] h R := by
 unfold big at hn
 refine f125ok (by simp) ?_
 (try simp (maxSteps:=1000000) (disch:=first|exact Lb rfl|omega) only [AXS,AXB,J.dst,reduceIte,Z1,Z2,Z3,Z4,Z5]); rw [f125c0_eq]; (try simp (maxSteps:=1000000) (disch:=first|exact Lb rfl|omega) only [AXS,AXB,J.dst,reduceIte,Z1,Z2,Z3,Z4,Z5,f125r0]); rw [f125c1_eq]; (try simp (maxSteps:=1000000) (disch:=first|exact Lb rfl|omega) only [AXS,AXB,J.dst,reduceIte,Z1,Z2,Z3,Z4,Z5,f125r1])
 cases a with
 | none =>
  have hv : vs = [] := by
   cases vs with
   | nil => rfl
   | cons v vs => obtain ⟨b,o,h1,_⟩ := S (by simp); cases h1
  subst hv
  rw [show eqN true false (.slice none ([] : List Out).length c) (.slice none 0 0) = some (.bool true) from rfl]
  (try simp (maxSteps:=1000000) (disch:=first|exact Lb rfl|omega) only [AXS,AXB,J.dst,reduceIte,Z1,Z2,Z3,Z4,Z5]); rw [f125c2_eq]; (try simp (maxSteps:=1000000) (disch:=first|exact Lb rfl|omega) only [AXS,AXB,J.dst,reduceIte,Z1,Z2,Z3,Z4,Z5]); rw [f125c3_eq]; (try simp (maxSteps:=1000000) (disch:=first|exact Lb rfl|omega) only [AXS,AXB,J.dst,reduceIte,Z1,Z2,Z3,Z4,Z5,f125r2])
  exact hR none 0 h (Own.nil _ _ _ _) (Ext.refl h)
 | some ad =>
  rw [show eqN true false (.slice (some ad) vs.length c) (.slice none 0 0) = some (.bool false) from rfl]
  (try simp (maxSteps:=1000000) (disch:=first|exact Lb rfl|omega) only [AXS,AXB,J.dst,reduceIte,Z1,Z2,Z3,Z4,Z5]); rw [f125c2_eq]; (try simp (maxSteps:=1000000) (disch:=first|exact Lb rfl|omega) only [AXS,AXB,J.dst,reduceIte,Z1,Z2,Z3,Z4,Z5]); rw [f125c4_eq]; (try simp (maxSteps:=1000000) (disch:=first|exact Lb rfl|omega) only [AXS,AXB,J.dst,reduceIte,Z1,Z2,Z3,Z4,Z5,f125r3])
  refine wL_bslN rfl ?_; intro b1 h1 e1 s1 hb1 B1
  try simp (maxSteps:=1000000) (disch:=first|exact Lb rfl|omega) only [AXS,AXB,J.dst,reduceIte,Z1,Z2,Z3,Z4,Z5]
  rw [wL_raw]
  have O1 : Own h.size h1 126 7 (some ⟨b1,0,none⟩) 0 0 [] := Own.of_blk (by omega) B1 (by simp) (Nat.le_refl _) (Nat.zero_le _) (by simp)
  have hfl := flatMap_length eOut_len vs
  refine raw_append slT114 rfl rfl rfl O1 hfl ?_ (one_flatMap eOut_one vs) (by unfold maxLen; omega) (by omega) e1.size ?_
  ·by_cases hv : vs = []
   ·left; rw [hv]; rfl
   ·obtain ⟨b,o,h1',_,h3⟩ := (S.ext e1) hv
    cases h1'
    exact .inr ⟨b,o,rfl,h3⟩
  ·intro a' c' h' O' G A
   refine ⟨trivial,?_⟩
   try simp (maxSteps:=1000000) (disch:=first|exact Lb rfl|omega) only [AXS,AXB,J.dst,reduceIte,Z1,Z2,Z3,Z4,Z5]
   simp only [Nat.zero_add,List.nil_append] at O' ⊢
   exact hR _ _ _ O' (G.ext e1 (fun k hk => by cases hk; show h.size ≤ b1; omega))
theorem ownP_ok {B : Nat → Prop} (x : CV) (c : Cell) (h : Heap) (S : CR B h x c) (hn : c.vers.length ≤ big) {R : Value → Heap → Prop}
  (hR : ∀ x' h',OC h.size h' x' c → Ext h h' → R (.agg (eCV x').toArray) h') : CallsH Try.prog 124 [.agg (eCV x).toArray] h R := by
 refine f124ok (by simp) ?_
 (try simp (maxSteps:=1000000) (disch:=first|exact Lb rfl|omega) only [AXS,AXB,J.dst,reduceIte,Z1,Z2,Z3,Z4,Z5]); rw [f124c0_eq]; (try simp (maxSteps:=1000000) (disch:=first|exact Lb rfl|omega) only [AXS,AXB,J.dst,reduceIte,Z1,Z2,Z3,Z4,Z5,f124r0])
 refine wL_boxN rfl ?_; rintro b1 h1 e1 s1 hb1 (B1 : Blk _ _ _ (eCV x))
 refine wL_newN ?_; rintro b2 h2 e2 s2 hb2 B2
 have B1 := B1.ext e2
 (try simp (maxSteps:=1000000) (disch:=first|exact Lb rfl|omega) only [AXS,AXB,J.dst,reduceIte,Z1,Z2,Z3,Z4,Z5]); rw [f124c1_eq]; (try simp (maxSteps:=1000000) (disch:=first|exact Lb rfl|omega) only [AXS,AXB,J.dst,reduceIte,Z1,Z2,Z3,Z4,Z5,f124r1,B1.cel,eCV,S.vn])
 refine clone_ok c.vers _ (S.vers.ext (e1.trans e2)) hn ?_
 intro a' c' h3 O3 e3
 refine ⟨trivial,?_⟩
 try simp (maxSteps:=1000000) (disch:=first|exact Lb rfl|omega) only [AXS,AXB,J.dst,reduceIte,Z1,Z2,Z3,Z4,Z5]
 replace B1 := B1.ext e3
 replace B2 := B2.ext e3
 have hl3 := O3.ob
 have e12 := e1.trans e2
 refine wL_stN rfl rfl rfl B1 (by rw [eCV_len]; exact Nat.le_of_ble_eq_true rfl) (fun v hv => by simp only [cells_slice,List.mem_toArray,List.mem_cons,List.not_mem_nil,or_false] at hv; subst hv; rfl) ?_
 rintro h4 u4 (B4 : Blk _ _ _ (eCV { x with va := a',vn := c.vers.length,vc := c' }))
 have B2 := u4.blk B2 (by omega)
 (try simp (maxSteps:=1000000) (disch:=first|exact Lb rfl|omega) only [AXS,AXB,J.dst,reduceIte,Z1,Z2,Z3,Z4,Z5]); rw [f124c2_eq]; (try simp (maxSteps:=1000000) (disch:=first|exact Lb rfl|omega) only [AXS,AXB,J.dst,reduceIte,Z1,Z2,Z3,Z4,Z5,f124r2,B4.rd,eCV])
 refine wL_stN rfl rfl rfl B2 (by decide) (eCV_one { x with va := a',vn := c.vers.length,vc := c' }) ?_
 rintro h5 u5 (B5 : Blk _ _ _ (eCV { x with va := a',vn := c.vers.length,vc := c' }))
 simp (maxSteps:=1000000) (disch:=first|exact Lb rfl|omega) only [AXS,AXB,J.dst,reduceIte,Z1,Z2,Z3,Z4,Z5,B5.rd,eCV]
 have hne : ∀ k,ob a' = some k → k ≠ b1 ∧ k ≠ b2 := fun k hk => by have := hl3 k hk; omega
 have e34 : Ext h h3 := e12.trans e3
 refine hR { x with va := a',vn := c.vers.length,vc := c' } h5 ⟨S.key,S.locked,S.lock,rfl,?_⟩ (u5.ext (u4.ext e34 (by omega)) (by omega))
 exact ((O3.mono e12.size).gr u4.gr (fun k hk => by have := (hne k hk).1; intro e; cases e; exact this rfl)).gr u5.gr (fun k hk => by have := (hne k hk).2; intro e; cases e; exact this rfl)
theorem each_ok {B : Nat → Prop} {a : Option Addr} {c : Nat} (cs : List Cell) (h : Heap) (S : SlC B h a cs) (hn : cs.length ≤ big) (F : ∀ c ∈ cs,c.vers.length ≤ big) {R : Value → Heap → Prop}
  (hR : ∀ a' c' h',OwnC h.size h' a' cs.length c' cs → Ext h h' → R (.slice a' cs.length c') h') : CallsH Try.prog 123 [.slice a cs.length c,.func (.func 124) #[] #[]] h R := by
 have hbig : big = 1000000 := rfl
 refine f123ok (by simp) ?_
 (try simp (maxSteps:=1000000) (disch:=first|exact Lb rfl|omega) only [AXS,AXB,J.dst,reduceIte,Z1,Z2,Z3,Z4,Z5]); rw [f123c0_eq]; (try simp (maxSteps:=1000000) (disch:=first|exact Lb rfl|omega) only [AXS,AXB,J.dst,reduceIte,Z1,Z2,Z3,Z4,Z5,f123r0]); rw [f123c1_eq]; (try simp (maxSteps:=1000000) (disch:=first|exact Lb rfl|omega) only [AXS,AXB,J.dst,reduceIte,Z1,Z2,Z3,Z4,Z5,f123r1]); rw [f123c2_eq]; (try simp (maxSteps:=1000000) (disch:=first|exact Lb rfl|omega) only [AXS,AXB,J.dst,reduceIte,Z1,Z2,Z3,Z4,Z5,f123r2])
 rw [f123c3_eq]
 refine loop_in (fun n σ h' => Ext h h' ∧ ∃ (k c' : Nat) (a' : Option Addr),k + n = cs.length ∧ OwnC h.size h' a' k c' (cs.take k) ∧ σ = [(1,.func (.func 124) #[] #[]),(5,.slice a' k c'),(8,.slice a cs.length c),(9,vi cs.length),(10,vi k)])
  cs.length ⟨Ext.refl _,0,0,none,by omega,OwnC.nil _ _,rfl⟩ ?_
 rintro n σ h' ⟨e1,k,c',a',hk,O,rfl⟩ Q' hnx hex hrt _
 (try simp (maxSteps:=1000000) (disch:=first|exact Lb rfl|omega) only [AXS,AXB,J.dst,reduceIte,Z1,Z2,Z3,Z4,Z5]); rw [f123c4_eq]; (try simp (maxSteps:=1000000) (disch:=first|exact Lb rfl|omega) only [AXS,AXB,J.dst,reduceIte,Z1,Z2,Z3,Z4,Z5,f123r3]); rw [f123c5_eq]; (try simp (maxSteps:=1000000) (disch:=first|exact Lb rfl|omega) only [AXS,AXB,J.dst,reduceIte,Z1,Z2,Z3,Z4,Z5])
 refine ⟨fun h2 => ?_,fun h2 => ?_⟩
 ·have hkl : k < cs.length := by have := of_decide_eq_true h2; omega
  obtain ⟨x,hx⟩ := get_ex hkl
  obtain ⟨b,o,v,rfl,_,hrow,hcr⟩ := (S.ext e1).elem hx
  (try simp (maxSteps:=1000000) (disch:=first|exact Lb rfl|omega) only [AXS,AXB,J.dst,reduceIte,Z1,Z2,Z3,Z4,Z5]); rw [f123c6_eq]; (try simp (maxSteps:=1000000) (disch:=first|exact Lb rfl|omega) only [AXS,AXB,J.dst,reduceIte,Z1,Z2,Z3,Z4,Z5,row_cv hrow]); rw [f123c7_eq]; (try simp (maxSteps:=1000000) (disch:=first|exact Lb rfl|omega) only [AXS,AXB,J.dst,reduceIte,Z1,Z2,Z3,Z4,Z5,f123r4,row_cv hrow])
  refine ⟨by omega,by omega,?_⟩
  refine wL_newN ?_; rintro b4 h4 e4 s4 hb4 B4
  try simp (maxSteps:=1000000) (disch:=first|exact Lb rfl|omega) only [AXS,AXB,J.dst,reduceIte,Z1,Z2,Z3,Z4,Z5]
  refine wL_stN rfl rfl rfl B4 (by decide) (eCV_one v) ?_; rintro h5 u5 (B5 : Blk _ _ _ (eCV v))
  have e5 := u5.ext e4 (by omega)
  (try simp (maxSteps:=1000000) (disch:=first|exact Lb rfl|omega) only [AXS,AXB,J.dst,reduceIte,Z1,Z2,Z3,Z4,Z5]); rw [f123c8_eq]; (try simp (maxSteps:=1000000) (disch:=first|exact Lb rfl|omega) only [AXS,AXB,J.dst,reduceIte,Z1,Z2,Z3,Z4,Z5,f123r5,B5.rd,eCV])
  refine wL_cav _ _ _ _ _ _ _ rfl rfl f124cal ?_
  refine ownP_ok v x _ (hcr.ext e5) (F x (List.mem_of_getElem? hx)) ?_
  intro x' h6 O6 e6
  refine ⟨trivial,?_⟩
  try simp (maxSteps:=1000000) (disch:=first|exact Lb rfl|omega) only [AXS,AXB,J.dst,reduceIte,Z1,Z2,Z3,Z4,Z5]
  refine wL_bslN rfl ?_; rintro b7 h7 e7 s7 hb7 (B7 : Blk _ _ _ (eCV x'))
  have e57 := e6.trans e7
  have ea := e5.trans e57
  have O7 := O.ext ea
  have hO := O.row
  try simp (maxSteps:=1000000) (disch:=first|exact Lb rfl|omega) only [AXS,AXB,J.dst,reduceIte,Z1,Z2,Z3,Z4,Z5]
  rw [wL_raw]
  refine raw_push rfl rfl rfl O7 B7 ((O6.ext e7).cr.to fun b hb => ⟨⟨?_,hb.2.1,?_⟩,rfl⟩) (by omega) (Nat.le_trans e1.size ea.size) ?_
  ·have := e1.size; have := e5.size; omega
  ·intro e; have := hO b e.symm; have := e5.size; omega
  intro a8 c8 h8 O8 G8 A8
  refine ⟨trivial,?_⟩
  (try simp (maxSteps:=1000000) (disch:=first|exact Lb rfl|omega) only [AXS,AXB,J.dst,reduceIte,Z1,Z2,Z3,Z4,Z5]); rw [f123c9_eq]; (try simp (maxSteps:=1000000) (disch:=first|exact Lb rfl|omega) only [AXS,AXB,J.dst,reduceIte,Z1,Z2,Z3,Z4,Z5,f123r6])
  rw [i64_wrap (by omega) (by omega)]
  refine hnx (n - 1) _ _ (by omega) ⟨G8.ext (e1.trans ea) (fun j hj => (hO j hj).1),k + 1,c8,a8,by omega,?_,rfl⟩
  rw [List.take_add_one,hx]
  exact O8
 ·have hkl : k = cs.length := by have := of_decide_eq_false h2; omega
  subst hkl
  refine hex _ _ ?_
  (try simp (maxSteps:=1000000) (disch:=first|exact Lb rfl|omega) only [AXS,AXB,J.dst,reduceIte,Z1,Z2,Z3,Z4,Z5]); rw [f123c10_eq]; (try simp (maxSteps:=1000000) (disch:=first|exact Lb rfl|omega) only [AXS,AXB,J.dst,reduceIte,Z1,Z2,Z3,Z4,Z5,f123r7])
  rw [List.take_length] at O
  exact hR _ _ _ O e1
theorem found1_ok (x : Out) (by_ : Try4) (b : Nat) (h : Heap) (B : Blk h b 37 (eTry by_)) {R : Value → Heap → Prop} (hR : ∀ h',Ext h h' → R (.bool (decide (x.by_ = by_))) h') :
  CallsH Try.prog 105 [.agg (eOut x).toArray,ptr b 0] h R := by
 refine f105ok (by simp) ?_
 (try simp (maxSteps:=1000000) (disch:=first|exact Lb rfl|omega) only [AXS,AXB,J.dst,reduceIte,Z1,Z2,Z3,Z4,Z5]); rw [f105c0_eq]; (try simp (maxSteps:=1000000) (disch:=first|exact Lb rfl|omega) only [AXS,AXB,J.dst,reduceIte,Z1,Z2,Z3,Z4,Z5,f105r0])
 refine wL_boxN rfl ?_; rintro b1 h1 e1 s1 hb1 (B1 : Blk _ _ _ (eOut x))
 (try simp (maxSteps:=1000000) (disch:=first|exact Lb rfl|omega) only [AXS,AXB,J.dst,reduceIte,Z1,Z2,Z3,Z4,Z5]); rw [f105c1_eq]; (try simp (maxSteps:=1000000) (disch:=first|exact Lb rfl|omega) only [AXS,AXB,J.dst,reduceIte,Z1,Z2,Z3,Z4,Z5,f105r1,B1.cel,B1.rd,(B.ext e1).rd,eOut,eTry,eqA_try])
 exact hR _ e1
theorem findIdx_none {α : Type} {f : α → Bool} {l : List α} (h : ∀ j x,j < l.length → l[j]? = some x → f x = false) : l.find? f = none := by
 rw [List.find?_eq_none]
 intro x hx
 obtain ⟨j,hj,rfl⟩ := List.mem_iff_getElem.1 hx
 simpa using h j _ hj (List.getElem?_eq_getElem hj)
theorem findIdx_some {α : Type} {f : α → Bool} : ∀ {l : List α} {k : Nat} {x : α},l[k]? = some x → f x = true → (∀ j y,j < k → l[j]? = some y → f y = false) → l.find? f = some x
 | [],k,x,h,_,_ => by simp at h
 | a :: l,0,x,h,hx,_ => by simp at h; subst h; simp [hx]
 | a :: l,k + 1,x,h,hx,hj => by
  have h0 := hj 0 a (by omega) rfl
  rw [List.find?_cons_of_neg (by simp [h0])]
  exact findIdx_some (by simpa using h) hx fun j y hlt hy => hj (j + 1) y (by omega) (by simpa using hy)
theorem indexO_ok {B : Nat → Prop} {a : Option Addr} {c : Nat} (cs : List Out) (by_ : Try4) (b : Nat) (h : Heap) (S : SlF B h eOut a cs) (hn : cs.length ≤ maxLen) (B0 : Blk h b 37 (eTry by_)) {R : Value → Heap → Prop}
  (hR : ∀ i : Int,(i < 0 ∧ findO cs by_ = none ∨ ∃ (k : Nat) (x : Out),i = k ∧ cs[k]? = some x ∧ findO cs by_ = some x) → ∀ h',Ext h h' → R (vi i) h') : CallsH Try.prog 104 [.slice a cs.length c,.func (.func 105) #[] #[ptr b 0]] h R := by
 refine f104ok (by simp) ?_
 (try simp (maxSteps:=1000000) (disch:=first|exact Lb rfl|omega) only [AXS,AXB,J.dst,reduceIte,Z1,Z2,Z3,Z4,Z5]); rw [f104c0_eq]; (try simp (maxSteps:=1000000) (disch:=first|exact Lb rfl|omega) only [AXS,AXB,J.dst,reduceIte,Z1,Z2,Z3,Z4,Z5,f104r0]); rw [f104c1_eq]; (try simp (maxSteps:=1000000) (disch:=first|exact Lb rfl|omega) only [AXS,AXB,J.dst,reduceIte,Z1,Z2,Z3,Z4,Z5,f104r1])
 unfold maxLen at hn
 rw [f104c2_eq]
 refine loop_in (fun n σ h' => Ext h h' ∧ ∃ k : Nat,k + n = cs.length ∧ σ = [(0,.slice a cs.length c),(1,.func (.func 105) #[] #[ptr b 0]),(7,vi cs.length),(8,vi k)] ∧ ∀ j x,j < k → cs[j]? = some x → decide (x.by_ = by_) = false)
  cs.length ⟨Ext.refl _,0,by omega,rfl,by intros; omega⟩ ?_
 rintro n σ h' ⟨e1,k,hk,rfl,hnk⟩ Q' hnx hex hrt _
 (try simp (maxSteps:=1000000) (disch:=first|exact Lb rfl|omega) only [AXS,AXB,J.dst,reduceIte,Z1,Z2,Z3,Z4,Z5]); rw [f104c3_eq]; (try simp (maxSteps:=1000000) (disch:=first|exact Lb rfl|omega) only [AXS,AXB,J.dst,reduceIte,Z1,Z2,Z3,Z4,Z5,f104r2]); rw [f104c4_eq]; (try simp (maxSteps:=1000000) (disch:=first|exact Lb rfl|omega) only [AXS,AXB,J.dst,reduceIte,Z1,Z2,Z3,Z4,Z5])
 refine ⟨fun h2 => ?_,fun h2 => ?_⟩
 ·have hkl : k < cs.length := by have := of_decide_eq_true h2; omega
  obtain ⟨x,hx⟩ := get_ex hkl
  obtain ⟨b',o,rfl,_,hrow⟩ := (S.ext e1).elem eOut_len hx
  rw [f104c5_eq]
  (try simp (maxSteps:=1000000) (disch:=first|exact Lb rfl|omega) only [AXS,AXB,J.dst,reduceIte,Z1,Z2,Z3,Z4,Z5]); rw [f104c6_eq]; (try simp (maxSteps:=1000000) (disch:=first|exact Lb rfl|omega) only [AXS,AXB,J.dst,reduceIte,Z1,Z2,Z3,Z4,Z5,f104r3,row_out hrow]); rw [f104c7_eq]; (try simp (maxSteps:=1000000) (disch:=first|exact Lb rfl|omega) only [AXS,AXB,J.dst,reduceIte,Z1,Z2,Z3,Z4,Z5,f104r4,row_out hrow])
  refine ⟨by omega,by omega,?_⟩
  refine wL_cav _ _ _ _ _ _ _ rfl rfl f105cal ?_
  refine found1_ok x by_ b _ (B0.ext e1) ?_
  intro h3 e3
  refine ⟨trivial,?_⟩
  try simp (maxSteps:=1000000) (disch:=first|exact Lb rfl|omega) only [AXS,AXB,J.dst,reduceIte,Z1,Z2,Z3,Z4,Z5]
  (try simp (maxSteps:=1000000) (disch:=first|exact Lb rfl|omega) only [AXS,AXB,J.dst,reduceIte,Z1,Z2,Z3,Z4,Z5]); rw [f104c8_eq]; (try simp (maxSteps:=1000000) (disch:=first|exact Lb rfl|omega) only [AXS,AXB,J.dst,reduceIte,Z1,Z2,Z3,Z4,Z5])
  refine ⟨fun h4 => ?_,fun h4 => ?_⟩
  ·(try simp (maxSteps:=1000000) (disch:=first|exact Lb rfl|omega) only [AXS,AXB,J.dst,reduceIte,Z1,Z2,Z3,Z4,Z5]); rw [f104c9_eq]; (try simp (maxSteps:=1000000) (disch:=first|exact Lb rfl|omega) only [AXS,AXB,J.dst,reduceIte,Z1,Z2,Z3,Z4,Z5,f104r5])
   refine hrt _ _ ?_
   try simp (maxSteps:=1000000) (disch:=first|exact Lb rfl|omega) only [AXS,AXB,J.dst,reduceIte,Z1,Z2,Z3,Z4,Z5]
   exact hR k (.inr ⟨k,x,rfl,hx,findIdx_some hx h4 hnk⟩) _ (e1.trans e3)
  ·(try simp (maxSteps:=1000000) (disch:=first|exact Lb rfl|omega) only [AXS,AXB,J.dst,reduceIte,Z1,Z2,Z3,Z4,Z5]); rw [f104c10_eq]; (try simp (maxSteps:=1000000) (disch:=first|exact Lb rfl|omega) only [AXS,AXB,J.dst,reduceIte,Z1,Z2,Z3,Z4,Z5,f104r6])
   rw [i64_wrap (by omega) (by omega)]
   refine hnx (n - 1) _ _ (by omega) ⟨e1.trans e3,k + 1,by omega,rfl,?_⟩
   intro j c' hj hc'
   rcases Nat.lt_or_ge j k with hlt | hge
   ·exact hnk j c' hlt hc'
   ·have : j = k := by omega
    subst this
    rw [hx] at hc'; cases hc'; exact h4
 ·have hkl : k = cs.length := by have := of_decide_eq_false h2; omega
  refine hex _ _ ?_
  (try simp (maxSteps:=1000000) (disch:=first|exact Lb rfl|omega) only [AXS,AXB,J.dst,reduceIte,Z1,Z2,Z3,Z4,Z5]); rw [f104c11_eq]; (try simp (maxSteps:=1000000) (disch:=first|exact Lb rfl|omega) only [AXS,AXB,J.dst,reduceIte,Z1,Z2,Z3,Z4,Z5,f104r7])
  exact hR (-1) (.inl ⟨by omega,findIdx_none fun j x hj hx => hnk j x (by omega) hx⟩) _ e1
/-- How an attempt ended, and whether. -/
theorem findO_ok {B : Nat → Prop} {a : Option Addr} {c : Nat} (cs : List Out) (by_ : Try4) (h : Heap) (S : SlF B h eOut a cs) (hn : cs.length ≤ maxLen) {R : Value → Heap → Prop}
  (hR : ∀ h',Ext h h' → R (.tuple #[.agg (eOut ((findO cs by_).getD noOut)).toArray,.bool (findO cs by_).isSome]) h') : CallsH Try.prog 63 [.slice a cs.length c,.agg (eTry by_).toArray] h R := by
 refine f63ok (by simp) ?_
 (try simp (maxSteps:=1000000) (disch:=first|exact Lb rfl|omega) only [AXS,AXB,J.dst,reduceIte,Z1,Z2,Z3,Z4,Z5]); rw [f63c0_eq]; (try simp (maxSteps:=1000000) (disch:=first|exact Lb rfl|omega) only [AXS,AXB,J.dst,reduceIte,Z1,Z2,Z3,Z4,Z5,f63r0])
 refine wL_boxN rfl ?_; rintro b1 h1 e1 s1 hb1 (B1 : Blk _ _ _ (eTry by_))
 refine wL_newN ?_; rintro b2 h2 e2 s2 hb2 B2
 replace B1 := B1.ext e2
 have e02 := e1.trans e2
 (try simp (maxSteps:=1000000) (disch:=first|exact Lb rfl|omega) only [AXS,AXB,J.dst,reduceIte,Z1,Z2,Z3,Z4,Z5]); rw [f63c1_eq]; (try simp (maxSteps:=1000000) (disch:=first|exact Lb rfl|omega) only [AXS,AXB,J.dst,reduceIte,Z1,Z2,Z3,Z4,Z5,f63r1])
 refine indexO_ok cs by_ b1 _ (S.ext e02) hn B1 ?_
 intro i hi h3 e3
 refine ⟨trivial,?_⟩
 replace B2 := B2.ext e3
 have e03 := e02.trans e3
 (try simp (maxSteps:=1000000) (disch:=first|exact Lb rfl|omega) only [AXS,AXB,J.dst,reduceIte,Z1,Z2,Z3,Z4,Z5]); rw [f63c2_eq]; (try simp (maxSteps:=1000000) (disch:=first|exact Lb rfl|omega) only [AXS,AXB,J.dst,reduceIte,Z1,Z2,Z3,Z4,Z5,f63r2]); rw [f63c3_eq]; (try simp (maxSteps:=1000000) (disch:=first|exact Lb rfl|omega) only [AXS,AXB,J.dst,reduceIte,Z1,Z2,Z3,Z4,Z5])
 refine ⟨fun hh => ?_,fun hh => ?_⟩
 ·have hlt : i < 0 := of_decide_eq_true hh
  rcases hi with ⟨_,hf⟩ | ⟨k,x,hk,_,_⟩
  ·(try simp (maxSteps:=1000000) (disch:=first|exact Lb rfl|omega) only [AXS,AXB,J.dst,reduceIte,Z1,Z2,Z3,Z4,Z5]); rw [f63c4_eq]; (try simp (maxSteps:=1000000) (disch:=first|exact Lb rfl|omega) only [AXS,AXB,J.dst,reduceIte,Z1,Z2,Z3,Z4,Z5,f63r3])
   refine wL_stN rfl rfl rfl B2 (by decide) (eOut_one noOut) ?_; rintro h4 u4 (B4 : Blk _ _ _ (eOut noOut))
   try simp (maxSteps:=1000000) (disch:=first|exact Lb rfl|omega) only [AXS,AXB,J.dst,reduceIte,Z1,Z2,Z3,Z4,Z5,B4.rd,eOut]
   have := hR h4 (u4.ext e03 (by omega))
   rw [hf] at this
   exact this
  ·omega
 ·have hge : ¬ i < 0 := of_decide_eq_false hh
  rcases hi with ⟨hlt,_⟩ | ⟨k,x,rfl,hx,hf⟩
  ·exact absurd hlt hge
  ·have hkl : k < cs.length := by
    rcases Nat.lt_or_ge k cs.length with h | h
    ·exact h
    ·rw [List.getElem?_eq_none h] at hx; cases hx
   obtain ⟨b',o,rfl,_,hrow⟩ := (S.ext e03).elem eOut_len hx
   (try simp (maxSteps:=1000000) (disch:=first|exact Lb rfl|omega) only [AXS,AXB,J.dst,reduceIte,Z1,Z2,Z3,Z4,Z5]); rw [f63c5_eq]; (try simp (maxSteps:=1000000) (disch:=first|exact Lb rfl|omega) only [AXS,AXB,J.dst,reduceIte,Z1,Z2,Z3,Z4,Z5,f63r4,row_out hrow])
   refine ⟨by omega,by omega,?_⟩
   refine wL_stN rfl rfl rfl B2 (by decide) (eOut_one x) ?_; rintro h4 u4 (B4 : Blk _ _ _ (eOut x))
   try simp (maxSteps:=1000000) (disch:=first|exact Lb rfl|omega) only [AXS,AXB,J.dst,reduceIte,Z1,Z2,Z3,Z4,Z5,B4.rd,eOut]
   have := hR h4 (u4.ext e03 (by omega))
   rw [hf] at this
   exact this
end Go.Proofs.Ytefghfgmkndikaa
namespace Go.Proofs.Ytefghfgmkndikaa
open Go Go.AX
theorem slice_one {a : Option Addr} {n c : Nat} : ∀ v ∈ (Value.slice a n c).cells.toList,v.oneCell' = true := fun v hv => by simp only [cells_slice,List.mem_cons,List.not_mem_nil,or_false] at hv; subst hv; rfl
theorem int_one {k : IntKind} {n : Int} : ∀ v ∈ (Value.int k n).cells.toList,v.oneCell' = true := fun v hv => by simp only [cells_int,List.mem_cons,List.not_mem_nil,or_false] at hv; subst hv; rfl
theorem partC_ok {B : Nat → Prop} {n : Nat} (pv : PrV) (p : Prt) (h : Heap) (S : PrR B h pv p) (g : SzP n p) (hn : n ≤ 900000) {R : Value → Heap → Prop}
  (hR : ∀ pv' lo hc h',PrO h.size lo hc h' pv' p → Ext h h' → R (.agg (ePr pv').toArray) h') : CallsH Try.prog 95 [.agg (ePr pv).toArray] h R := by
 obtain ⟨z1,z2,z3,z4,z5,z6⟩ := szAll g.cells.sz hn
 have gr := g.records
 have gd := g.done
 have hbig : big = 1000000 := rfl
 refine f95ok (by simp) ?_
 (try simp (maxSteps:=1000000) (disch:=first|exact Lb rfl|omega) only [AXS,AXB,J.dst,reduceIte,Z1,Z2,Z3,Z4,Z5]); rw [f95c0_eq]; (try simp (maxSteps:=1000000) (disch:=first|exact Lb rfl|omega) only [AXS,AXB,J.dst,reduceIte,Z1,Z2,Z3,Z4,Z5,f95r0])
 refine wL_boxN rfl ?_; rintro b1 h1 e1 s1 hb1 (B1 : Blk _ _ _ (ePr pv))
 refine wL_newN ?_; rintro b2 h2 e2 s2 hb2 B2
 replace B1 := B1.ext e2
 have e02 := e1.trans e2
 (try simp (maxSteps:=1000000) (disch:=first|exact Lb rfl|omega) only [AXS,AXB,J.dst,reduceIte,Z1,Z2,Z3,Z4,Z5]); rw [f95c1_eq]; (try simp (maxSteps:=1000000) (disch:=first|exact Lb rfl|omega) only [AXS,AXB,J.dst,reduceIte,Z1,Z2,Z3,Z4,Z5,f95r1,B1.cel,ePr,S.cn])
 refine each_ok p.cells _ (S.cells.ext e02) (by omega) (fun c hc => by have := z2 c hc; omega) ?_
 intro ca cc h3 O3 e3
 refine ⟨trivial,?_⟩
 replace B1 := B1.ext e3; replace B2 := B2.ext e3
 try simp (maxSteps:=1000000) (disch:=first|exact Lb rfl|omega) only [AXS,AXB,J.dst,reduceIte,Z1,Z2,Z3,Z4,Z5]
 have hl3 := O3.row
 refine wL_stN rfl rfl rfl B1 (by rw [ePr_len]; exact Nat.le_of_ble_eq_true rfl) slice_one ?_
 rintro h4 u4 (B4 : Blk _ _ _ (ePr { pv with ca := ca,cn := p.cells.length,cc := cc }))
 replace B2 := u4.blk B2 (by omega)
 have e03 := e02.trans e3
 have e04 := u4.ext e03 (by omega)
 have O4 : OwnC h2.size h4 ca p.cells.length cc p.cells := O3.gr u4.gr (fun k hk => by cases hk; omega)
 try simp (maxSteps:=1000000) (disch:=first|exact Lb rfl|omega) only [AXS,AXB,J.dst,reduceIte,Z1,Z2,Z3,Z4,Z5]
 rw [f95c2_eq]
 refine ⟨fun b => b < h4.size ∧ b ≠ b1,fun b hb => hb.1,?_⟩
 simp only [f95r2,wT_one,wT_alt,wT_nil]
 try simp (maxSteps:=1000000) (disch:=first|exact Lb rfl|omega) only [AXS,AXB,J.dst,reduceIte,Z1,Z2,Z3,Z4,Z5,B4.cel,ePr,S.rn,S.dn]
 refine ⟨⟨?_,?_⟩,?_⟩
 all_goals
  refine cloneO_ok p.records _ (S.records.ext e04) (by omega) ?_
  intro ra rc h5 R5 e5
  refine ⟨fun b hb => e5.at_ b hb.1,?_⟩
  have B5 := B4.ext e5
  try simp (maxSteps:=1000000) (disch:=first|exact Lb rfl|omega) only [AXS,AXB,J.dst,reduceIte,Z1,Z2,Z3,Z4,Z5,B5.cel,ePr,S.dn]
  refine cloneO_ok p.done _ (S.done.ext (e04.trans e5)) (by omega) ?_
  intro da dc h6 D6 e6
  refine ⟨fun b hb => e6.at_ b (Nat.lt_of_lt_of_le hb.1 e5.size),?_⟩
  have B6 := B5.ext e6
  have R6 := R5.ext e6
  have s04 := e04.size
  have s3 := e3.size
  have s4 := u4.size
  have s5 := e5.size
  have s6 := e6.size
  have hr5 := R5.ob
  have hd6 := D6.ob
  try simp (maxSteps:=1000000) (disch:=first|exact Lb rfl|omega) only [AXS,AXB,J.dst,reduceIte,Z1,Z2,Z3,Z4,Z5]
  refine wL_stD rfl rfl (fun hb => hb.2 rfl) rfl B6 (by rw [ePr_len]; exact Nat.le_of_ble_eq_true rfl) slice_one ?_
  rintro h7 u7 (B7 : Blk _ _ _ (ePr { pv with ca := ca,cn := p.cells.length,cc := cc,ra := ra,rn := p.records.length,rc := rc }))
  try simp (maxSteps:=1000000) (disch:=first|exact Lb rfl|omega) only [AXS,AXB,J.dst,reduceIte,Z1,Z2,Z3,Z4,Z5]
  refine wL_stD rfl rfl (fun hb => hb.2 rfl) rfl B7 (by rw [ePr_len]; exact Nat.le_of_ble_eq_true rfl) slice_one ?_
  rintro h8 u8 (B8 : Blk _ _ _ (ePr ⟨pv.s,ca,p.cells.length,cc,ra,p.records.length,rc,da,p.done.length,dc⟩))
  try simp (maxSteps:=1000000) (disch:=first|exact Lb rfl|omega) only [AXS,AXB,J.dst,reduceIte,Z1,Z2,Z3,Z4,Z5]
  (try simp (maxSteps:=1000000) (disch:=first|exact Lb rfl|omega) only [AXS,AXB,J.dst,reduceIte,Z1,Z2,Z3,Z4,Z5]); rw [f95c3_eq]; (try simp (maxSteps:=1000000) (disch:=first|exact Lb rfl|omega) only [AXS,AXB,J.dst,reduceIte,Z1,Z2,Z3,Z4,Z5,f95r3,B8.rd,ePr])
  have C2 := u8.blk (u7.blk ((B2.ext e5).ext e6) (by omega)) (by omega)
  refine wL_stN rfl rfl rfl C2 (by decide) (ePr_one ⟨pv.s,ca,p.cells.length,cc,ra,p.records.length,rc,da,p.done.length,dc⟩) ?_
  rintro h9 u9 (B9 : Blk _ _ _ (ePr ⟨pv.s,ca,p.cells.length,cc,ra,p.records.length,rc,da,p.done.length,dc⟩))
  simp (maxSteps:=1000000) (disch:=first|exact Lb rfl|omega) only [AXS,AXB,J.dst,reduceIte,Z1,Z2,Z3,Z4,Z5,B9.rd,ePr]
  have O6 : PrO h.size h2.size h4 h6 ⟨pv.s,ca,p.cells.length,cc,ra,p.records.length,rc,da,p.done.length,dc⟩ p :=
   ⟨S.s,rfl,rfl,rfl,O4,⟨by omega,by omega,by omega⟩,fun b _ hb => (e5.trans e6).at_ b hb,R6.mono (by omega),D6.mono (by omega),fun k hk => by have := hr5 k hk; omega,fun k hk => by have := hd6 k hk; omega,fun k hk hk' => by have := hr5 k hk; have := hd6 k hk'; omega⟩
  have nr : ∀ b,b < h4.size → ob ra ≠ some b := fun b hb e => by have := hr5 b e; omega
  have nd : ∀ b,b < h4.size → ob da ≠ some b := fun b hb e => by have := hd6 b e; omega
  have O9 := ((O6.upd u7 (.inl (by omega)) (nr b1 (by omega)) (nd b1 (by omega))).upd u8 (.inl (by omega)) (nr b1 (by omega)) (nd b1 (by omega))).upd u9 (.inl (by omega)) (nr b2 (by omega)) (nd b2 (by omega))
  exact hR ⟨pv.s,ca,p.cells.length,cc,ra,p.records.length,rc,da,p.done.length,dc⟩ _ _ h9 O9 (u9.ext (u8.ext (u7.ext ((e04.trans e5).trans e6) (by omega)) (by omega)) (by omega))
theorem eStamp_one (x : Stamp) : ∀ v ∈ eStamp x,v.oneCell' = true := by
 intro v hv; simp only [eStamp,List.mem_cons,List.not_mem_nil,or_false] at hv
 rcases hv with rfl | rfl <;> rfl
theorem eLck_one (x : Lck) : ∀ v ∈ eLck x,v.oneCell' = true := by
 intro v hv; simp only [eLck,List.mem_cons,List.not_mem_nil,or_false] at hv
 rcases hv with rfl | rfl | rfl | rfl | rfl | rfl | rfl | rfl | rfl <;> rfl
theorem locked_ok (l : Lck) (h : Heap) {R : Value → Heap → Prop} (hR : ∀ h',Ext h h' → R (.agg (eRp ⟨(lockedR l).s,none,0,0⟩).toArray) h') : CallsH Try.prog 142 [.agg (eLck l).toArray] h R := by
 refine f142ok (by simp) ?_
 (try simp (maxSteps:=1000000) (disch:=first|exact Lb rfl|omega) only [AXS,AXB,J.dst,reduceIte,Z1,Z2,Z3,Z4,Z5]); rw [f142c0_eq]; (try simp (maxSteps:=1000000) (disch:=first|exact Lb rfl|omega) only [AXS,AXB,J.dst,reduceIte,Z1,Z2,Z3,Z4,Z5,f142r0])
 refine wL_boxN rfl ?_; rintro b1 h1 e1 s1 hb1 (B1 : Blk _ _ _ (eLck l))
 refine wL_newN ?_; rintro b2 h2 e2 s2 hb2 B2
 replace B1 := B1.ext e2
 (try simp (maxSteps:=1000000) (disch:=first|exact Lb rfl|omega) only [AXS,AXB,J.dst,reduceIte,Z1,Z2,Z3,Z4,Z5]); rw [f142c1_eq]; (try simp (maxSteps:=1000000) (disch:=first|exact Lb rfl|omega) only [AXS,AXB,J.dst,reduceIte,Z1,Z2,Z3,Z4,Z5,f142r1,B1.cel,B1.rd,eLck])
 refine wL_stN rfl rfl rfl B2 (by decide) (eRp_one ⟨(lockedR l).s,none,0,0⟩) ?_
 rintro h3 u3 (B3 : Blk _ _ _ (eRp ⟨(lockedR l).s,none,0,0⟩))
 simp (maxSteps:=1000000) (disch:=first|exact Lb rfl|omega) only [AXS,AXB,J.dst,reduceIte,Z1,Z2,Z3,Z4,Z5,B3.rd,eRp]
 exact hR h3 (u3.ext (e1.trans e2) (by omega))
theorem max_ok (s t : Stamp) (h : Heap) {R : Value → Heap → Prop} (hR : ∀ h',Ext h h' → R (.agg (eStamp (maxS s t)).toArray) h') : CallsH Try.prog 143 [.agg (eStamp s).toArray,.agg (eStamp t).toArray] h R := by
 refine f143ok (by simp) ?_
 (try simp (maxSteps:=1000000) (disch:=first|exact Lb rfl|omega) only [AXS,AXB,J.dst,reduceIte,Z1,Z2,Z3,Z4,Z5]); rw [f143c0_eq]; (try simp (maxSteps:=1000000) (disch:=first|exact Lb rfl|omega) only [AXS,AXB,J.dst,reduceIte,Z1,Z2,Z3,Z4,Z5,f143r0])
 refine wL_boxN rfl ?_; rintro b1 h1 e1 s1 hb1 (B1 : Blk _ _ _ (eStamp s))
 refine wL_boxN rfl ?_; rintro b2 h2 e2 s2 hb2 (B2 : Blk _ _ _ (eStamp t))
 replace B1 := B1.ext e2
 refine wL_newN ?_; rintro b3 h3 e3 s3 hb3 B3
 replace B1 := B1.ext e3; replace B2 := B2.ext e3
 have e03 := (e1.trans e2).trans e3
 (try simp (maxSteps:=1000000) (disch:=first|exact Lb rfl|omega) only [AXS,AXB,J.dst,reduceIte,Z1,Z2,Z3,Z4,Z5]); rw [f143c1_eq]; (try simp (maxSteps:=1000000) (disch:=first|exact Lb rfl|omega) only [AXS,AXB,J.dst,reduceIte,Z1,Z2,Z3,Z4,Z5,f143r1,B1.rd,B2.rd,eStamp])
 refine less_ok s t _ ?_
 intro h4 e4
 refine ⟨trivial,?_⟩
 replace B1 := B1.ext e4; replace B2 := B2.ext e4; replace B3 := B3.ext e4
 have s4 := e4.size
 try simp (maxSteps:=1000000) (disch:=first|exact Lb rfl|omega) only [AXS,AXB,J.dst,reduceIte,Z1,Z2,Z3,Z4,Z5]
 (try simp (maxSteps:=1000000) (disch:=first|exact Lb rfl|omega) only [AXS,AXB,J.dst,reduceIte,Z1,Z2,Z3,Z4,Z5]); rw [f143c2_eq]; (try simp (maxSteps:=1000000) (disch:=first|exact Lb rfl|omega) only [AXS,AXB,J.dst,reduceIte,Z1,Z2,Z3,Z4,Z5])
 refine ⟨fun hh => ?_,fun hh => ?_⟩
 ·(try simp (maxSteps:=1000000) (disch:=first|exact Lb rfl|omega) only [AXS,AXB,J.dst,reduceIte,Z1,Z2,Z3,Z4,Z5]); rw [f143c3_eq]; (try simp (maxSteps:=1000000) (disch:=first|exact Lb rfl|omega) only [AXS,AXB,J.dst,reduceIte,Z1,Z2,Z3,Z4,Z5,f143r2,B2.rd,eStamp])
  refine wL_stN rfl rfl rfl B3 (by decide) (eStamp_one t) ?_
  rintro h5 u5 (B5 : Blk _ _ _ (eStamp t))
  simp (maxSteps:=1000000) (disch:=first|exact Lb rfl|omega) only [AXS,AXB,J.dst,reduceIte,Z1,Z2,Z3,Z4,Z5,B5.rd,eStamp]
  have := hR h5 (u5.ext (e03.trans e4) (by omega))
  unfold maxS at this
  rw [hh] at this
  exact this
 ·(try simp (maxSteps:=1000000) (disch:=first|exact Lb rfl|omega) only [AXS,AXB,J.dst,reduceIte,Z1,Z2,Z3,Z4,Z5]); rw [f143c4_eq]; (try simp (maxSteps:=1000000) (disch:=first|exact Lb rfl|omega) only [AXS,AXB,J.dst,reduceIte,Z1,Z2,Z3,Z4,Z5,f143r3,B1.rd,eStamp])
  refine wL_stN rfl rfl rfl B3 (by decide) (eStamp_one s) ?_
  rintro h5 u5 (B5 : Blk _ _ _ (eStamp s))
  simp (maxSteps:=1000000) (disch:=first|exact Lb rfl|omega) only [AXS,AXB,J.dst,reduceIte,Z1,Z2,Z3,Z4,Z5,B5.rd,eStamp]
  have := hR h5 (u5.ext (e03.trans e4) (by omega))
  unfold maxS at this
  rw [hh] at this
  exact this
end Go.Proofs.Ytefghfgmkndikaa
namespace Go.AX
open Go
/-- Within a command: the state p lies as v behind the pointer bp; all of it came behind h0. -/
structure InP (h0 h : Heap) (bp : Nat) (v : PrV) (p : Prt) (lo : Nat) (hc : Heap) : Prop where
 ext : Ext h0 h
 o : PrO h0.size lo hc h v p
 b : Blk h bp 116 (ePr v)
 at_ : h0.size ≤ bp ∧ (bp < lo ∨ hc.size ≤ bp)
 ra : ob v.ra ≠ some bp
 da : ob v.da ≠ some bp
theorem InP.exts {h0 h h' hc : Heap} {bp lo : Nat} {v : PrV} {p : Prt} (I : InP h0 h bp v p lo hc) (x : Ext h h') : InP h0 h' bp v p lo hc := ⟨I.ext.trans x,I.o.exts x,I.b.ext x,I.at_,I.ra,I.da⟩
theorem InP.sizes {h0 h hc : Heap} {bp lo : Nat} {v : PrV} {p : Prt} (I : InP h0 h bp v p lo hc) : h0.size ≤ lo ∧ lo ≤ hc.size ∧ hc.size ≤ h.size ∧ bp < h.size ∧ h0.size ≤ bp := ⟨I.o.le.1,I.o.le.2.1,I.o.le.2.2,I.b.lt,I.at_.1⟩
theorem InP.cells {h0 h hc : Heap} {bp lo : Nat} {v : PrV} {p : Prt} (I : InP h0 h bp v p lo hc) : SlC (fun b => lo ≤ b ∧ b < h.size) h v.ca p.cells := (I.o.cells.kept I.o.le.2.2 I.o.kept).slc
theorem InP.cap {h0 h hc : Heap} {bp lo : Nat} {v : PrV} {p : Prt} (I : InP h0 h bp v p lo hc) : p.cells.length ≤ v.cc := by
 obtain ⟨_,h1,h2,_⟩ := I.o.cells
 have := h1.room.1
 omega
theorem InP.dones {h0 h hc : Heap} {bp lo : Nat} {v : PrV} {p : Prt} (I : InP h0 h bp v p lo hc) : SlF (fun b => b < h.size) h eOut v.da p.done := (SlF.of_own I.o.done I.o.dn).imp fun _ hb => hb.2.1
theorem InP.recs {h0 h hc : Heap} {bp lo : Nat} {v : PrV} {p : Prt} (I : InP h0 h bp v p lo hc) : SlF (fun b => b < h.size) h eOut v.ra p.records := (SlF.of_own I.o.records I.o.rn).imp fun _ hb => hb.2.1
/-- The state's cells are written: new ones. -/
theorem InP.putC {h0 h h1 h' hc : Heap} {bp lo : Nat} {v : PrV} {p : Prt} (I : InP h0 h bp v p lo hc) {a : Option Addr} {c : Nat} {cs : List Cell} (O : OwnC h.size h1 a cs.length c cs) (x : Ext h h1) (u : Upd bp h1 h') (B : Blk h' bp 116 (ePr { v with ca := a,cn := cs.length,cc := c })) :
  InP h0 h' bp { v with ca := a,cn := cs.length,cc := c } { p with cells := cs } h.size h1 :=
 have z := I.sizes
 have hr := I.o.records.ob
 have hd := I.o.done.ob
 have o := (I.o.exts x).upd u I.at_.2 I.ra I.da
 ⟨u.ext (I.ext.trans x) z.2.2.2.2,⟨o.s,rfl,o.rn,o.dn,O,⟨by omega,x.size,by rw [u.size]; exact Nat.le_refl _⟩,fun b h1 _ => u.ne b (by omega),o.records,o.done,fun k hk => .inl (hr k hk).2,fun k hk => .inl (hd k hk).2,o.apart⟩,
  B,⟨z.2.2.2.2,.inl z.2.2.2.1⟩,I.ra,I.da⟩
/-- Another block is written. -/
theorem InP.upd {h0 h h1 h' hc : Heap} {bp lo b : Nat} {v : PrV} {p : Prt} (I : InP h0 h bp v p lo hc) (x : Ext h h1) (hb : h.size ≤ b) (u : Upd b h1 h') : InP h0 h' bp v p lo hc := I.exts (u.ext x hb)
theorem InP.box {h0 h h' hc : Heap} {bp lo b : Nat} {v : PrV} {p : Prt} (I : InP h0 h bp v p lo hc) (h1 : h0.size ≤ b ∧ (b < lo ∨ hc.size ≤ b)) (h2 : b ≠ bp) (h3 : ob v.ra ≠ some b) (h4 : ob v.da ≠ some b) (u : Upd b h h') : InP h0 h' bp v p lo hc :=
 ⟨u.ext I.ext h1.1,I.o.upd u h1.2 h3 h4,u.blk I.b (Ne.symm h2),I.at_,I.ra,I.da⟩
theorem InP.apart {h0 h hc : Heap} {bp lo b : Nat} {v : PrV} {p : Prt} (I : InP h0 h bp v p lo hc) (hb : h.size ≤ b) : ob v.ra ≠ some b ∧ ob v.da ≠ some b :=
 ⟨fun e => by have := (I.o.records.ob b e).2; omega,fun e => by have := (I.o.done.ob b e).2; omega⟩
/-- The state's numbers are written. -/
theorem InP.put {h0 h h' hc : Heap} {bp lo : Nat} {v : PrV} {p : Prt} (I : InP h0 h bp v p lo hc) (s : PrS) (u : Upd bp h h') (B : Blk h' bp 116 (ePr { v with s := s })) : InP h0 h' bp { v with s := s } { p with s := s } lo hc :=
 have z := I.sizes
 have o := I.o.upd u I.at_.2 I.ra I.da
 ⟨u.ext I.ext z.2.2.2.2,⟨rfl,o.cn,o.rn,o.dn,o.cells,o.le,o.kept,o.records,o.done,o.ra,o.da,o.apart⟩,B,I.at_,I.ra,I.da⟩
/-- The answer r lies as v, its pairs in a row of the call's own. -/
structure RpO (lo : Nat) (h : Heap) (v : RpV) (r : Rep) : Prop where
 s : v.s = r.s
 pn : v.pn = r.pairs.length
 pairs : Own lo h 99 2 v.pa v.pn v.pc (r.pairs.flatMap ePai)
theorem RpO.none (lo : Nat) (h : Heap) (s : RpS) : RpO lo h ⟨s,.none,0,0⟩ ⟨s,[]⟩ := ⟨rfl,rfl,Own.nil _ _ _ _⟩
/-- A block that is none of the state's. -/
def ApP (b lo : Nat) (hc : Heap) (v : PrV) : Prop := (b < lo ∨ hc.size ≤ b) ∧ ob v.ra ≠ some b ∧ ob v.da ≠ some b
theorem InP.ap {h0 h hc : Heap} {bp lo b : Nat} {v : PrV} {p : Prt} (I : InP h0 h bp v p lo hc) (hb : h.size ≤ b) : ApP b lo hc v := ⟨.inr (Nat.le_trans I.o.le.2.2 hb),I.apart hb⟩
theorem InP.boxA {h0 h h' hc : Heap} {bp lo b : Nat} {v : PrV} {p : Prt} (I : InP h0 h bp v p lo hc) (h1 : h0.size ≤ b) (h2 : b ≠ bp) (h3 : ApP b lo hc v) (u : Upd b h h') : InP h0 h' bp v p lo hc := I.box ⟨h1,h3.1⟩ h2 h3.2.1 h3.2.2 u
/-- What a command leaves (h as it began, h' as it ended). -/
def OutP (h0 h h' : Heap) (bp : Nat) (v0 : PrV) (lo0 : Nat) (hc0 : Heap) (v : PrV) (p : Prt) (rv : RpV) (r : Rep) : Prop :=
 h.size ≤ h'.size ∧ ∃ lo hc,InP h0 h' bp v p lo hc ∧ RpO h.size h' rv r ∧ (∀ b,b < h.size → ApP b lo0 hc0 v0 → ApP b lo hc v) ∧ (∀ b,b < h.size → b ≠ bp → ApP b lo0 hc0 v0 → h'[b]? = h[b]?) ∧ ∀ k,ob rv.pa = some k → ApP k lo hc v
theorem OutP.same {h0 h h1 h2 hc : Heap} {bp lo b : Nat} {v : PrV} {p : Prt} (I : InP h0 h bp v p lo hc) (x : Ext h h1) (hb : h.size ≤ b) (u : Upd b h1 h2) (s : RpS) : OutP h0 h h2 bp v lo hc v p ⟨s,none,0,0⟩ ⟨s,[]⟩ :=
 ⟨(u.ext x hb).size,lo,hc,I.upd x hb u,RpO.none _ _ _,fun _ _ h => h,fun b h1 _ _ => (u.ext x hb).at_ b h1,fun k hk => by cases hk⟩
theorem OutP.ret {h0 hI h h' h'' hc0 : Heap} {bp lo0 b : Nat} {v0 v : PrV} {p : Prt} {rv : RpV} {r : Rep} (x : Ext hI h) (O : OutP h0 h h' bp v0 lo0 hc0 v p rv r) (h1 : hI.size ≤ b) (h2 : b < h.size) (h3 : b ≠ bp) (h4 : h0.size ≤ b) (h5 : ApP b lo0 hc0 v0) (u : Upd b h' h'') :
  OutP h0 hI h'' bp v0 lo0 hc0 v p rv r := by
 obtain ⟨z,lo,hc,I,k,f,kp,ap⟩ := O
 have hk := k.pairs.ob
 have zx := x.size
 refine ⟨by rw [u.size]; omega,lo,hc,I.boxA h4 h3 (f b h2 h5) u,⟨k.s,k.pn,(k.pairs.mono zx).gr u.gr fun j hj e => by cases e; have := hk b hj; omega⟩,fun c hc h6 => f c (by omega) h6,fun c hc h6 h7 => ?_,ap⟩
 rw [u.ne c (by omega),kp c (by omega) h6 h7,x.at_ c hc]
theorem Gr.exts {row : Option Nat} {h h1 h2 : Heap} (g : Gr row h h1) (e : Ext h1 h2) : Gr row h h2 := g.trans (e.gr row)
theorem Gr.upd {row : Option Nat} {h h1 h2 : Heap} {b : Nat} (g : Gr row h h1) (u : Upd b h1 h2) (hb : some b = row ∨ h.size ≤ b) : Gr row h h2 :=
 ⟨by rw [u.size]; exact g.size,fun k hk hne => (u.ne k (fun e => by subst e; rcases hb with hb | hb; exact hne hb; omega)).trans (g.at_ k hk hne)⟩
theorem InP.out {h0 h h' hc hc0 : Heap} {bp lo lo0 : Nat} {v v0 : PrV} {p : Prt} (I : InP h0 h' bp v p lo hc) {rv : RpV} {r : Rep} (k : RpO h.size h' rv r) (G : Gr (some bp) h h') (F : ∀ b,b < h.size → ApP b lo0 hc0 v0 → ApP b lo hc v) (A : ∀ k,ob rv.pa = some k → ApP k lo hc v) : OutP h0 h h' bp v0 lo0 hc0 v p rv r :=
 ⟨G.size,lo,hc,I,k,F,fun b h1 h2 _ => G.at_ b h1 (fun e => h2 (by cases e; rfl)),A⟩
end Go.AX
namespace Go.Proofs.Ytefghfgmkndikaa
open Go Go.AX
theorem lease_ok {h0 h hc : Heap} {bp lo : Nat} {pv : PrV} {p : Prt} {cv : CmV} {c : Cmd} {B : Nat → Prop} (I : InP h0 h bp pv p lo hc) (C : CmR B h cv c) (he : 0 ≤ p.s.epoch) {R : Value → Heap → Prop}
  (hR : ∀ pv' rv h',OutP h0 h h' bp pv lo hc pv' (leaseP p c).1 rv (leaseP p c).2 → R (.agg (eRp rv).toArray) h') : CallsH Try.prog 96 [ptr bp 0,.agg (eCm cv).toArray] h R := by
 have hm : mostEpoch = 1099511627776 := rfl
 have hps := I.o.s
 have hcs := C.s
 refine f96ok (by simp) ?_
 (try simp (maxSteps:=1000000) (disch:=first|exact Lb rfl|omega) only [AXS,AXB,J.dst,reduceIte,Z1,Z2,Z3,Z4,Z5]); rw [f96c0_eq]; (try simp (maxSteps:=1000000) (disch:=first|exact Lb rfl|omega) only [AXS,AXB,J.dst,reduceIte,Z1,Z2,Z3,Z4,Z5,f96r0])
 refine wL_boxN rfl ?_; rintro b1 h1 e1 s1 hb1 (B1 : Blk _ _ _ (eCm cv))
 refine wL_newN ?_; rintro b2 h2 e2 s2 hb2 B2
 replace B1 := B1.ext e2
 have e02 := e1.trans e2
 have I2 := I.exts e02
 have Bp := I2.b
 try simp (maxSteps:=1000000) (disch:=first|exact Lb rfl|omega) only [AXS,AXB,J.dst,reduceIte,Z1,Z2,Z3,Z4,Z5]
 rw [f96c1_eq]
 refine drw_lt ?_
 simp (maxSteps:=1000000) (disch:=first|exact Lb rfl|omega) only [AXJ,AXS,AXB,J.dst,reduceIte,Z1,Z2,Z3,Z4,Z5,f96r1,Bp.cel,ePr,B1.cel,eCm,hps,hcs]
 have hz := I.sizes
 have z1 := e1.size
 have z2 := e2.size
 refine ⟨by omega,fun _ => by omega,fun _ => by omega,?_⟩
 simp (maxSteps:=1000000) (disch:=first|exact Lb rfl|omega) only [AXJ,AXS,AXB,J.dst,reduceIte,Z1,Z2,Z3,Z4,Z5,f96r1a,B1.cel,eCm,hcs]
 refine ⟨fun _ => by omega,?_⟩
 (try simp (maxSteps:=1000000) (disch:=first|exact Lb rfl|omega) only [AXS,AXB,J.dst,reduceIte,Z1,Z2,Z3,Z4,Z5]); rw [f96c2_eq]; (try simp (maxSteps:=1000000) (disch:=first|exact Lb rfl|omega) only [AXS,AXB,J.dst,reduceIte,Z1,Z2,Z3,Z4,Z5])
 generalize hcd : (decide (p.s.epoch ≥ 1099511627776) || c.s.epoch != IntKind.i64.wrap (p.s.epoch + 1) || decide (c.s.epoch > 1099511627776)) = cd
 have hcd' : cd = true ↔ (p.s.epoch ≥ mostEpoch ∨ c.s.epoch ≠ p.s.epoch + 1 ∨ c.s.epoch > mostEpoch) := by
  rw [← hcd,hm]
  by_cases hp : p.s.epoch ≥ 1099511627776
  ·simp [hp]
  ·rw [i64_wrap (by omega) (by omega)]; simp [hp]
 refine ⟨fun hh => ?_,fun hh => ?_⟩
 ·have hl : leaseP p c = (p,errR 25) := by unfold leaseP; rw [if_pos (hcd'.1 hh)]
  (try simp (maxSteps:=1000000) (disch:=first|exact Lb rfl|omega) only [AXS,AXB,J.dst,reduceIte,Z1,Z2,Z3,Z4,Z5]); rw [f96c3_eq]; (try simp (maxSteps:=1000000) (disch:=first|exact Lb rfl|omega) only [AXS,AXB,J.dst,reduceIte,Z1,Z2,Z3,Z4,Z5,f96r2])
  refine wL_stN rfl rfl rfl B2 (by decide) (eRp_one ⟨(errR 25).s,none,0,0⟩) ?_
  rintro h3 u3 (B3 : Blk _ _ _ (eRp ⟨(errR 25).s,none,0,0⟩))
  simp (maxSteps:=1000000) (disch:=first|exact Lb rfl|omega) only [AXS,AXB,J.dst,reduceIte,Z1,Z2,Z3,Z4,Z5,B3.rd,eRp]
  have := hR pv ⟨(errR 25).s,none,0,0⟩ h3 (by rw [hl]; exact OutP.same I e02 (by omega) u3 _)
  exact this
 ·have hl : leaseP p c = ({ p with s := { p.s with epoch := c.s.epoch,holder := c.s.node } },⟨okS,[]⟩) := by
   unfold leaseP; rw [if_neg (fun hx => by rw [hcd'.2 hx] at hh; cases hh)]
  try simp (maxSteps:=1000000) (disch:=first|exact Lb rfl|omega) only [AXS,AXB,J.dst,reduceIte,Z1,Z2,Z3,Z4,Z5]
  rw [f96c4_eq]
  refine ⟨fun b => b < h2.size ∧ b ≠ bp,fun b hb => hb.1,?_⟩
  have hb1p : b1 ≠ bp := by omega
  simp (maxSteps:=1000000) (disch:=first|exact Lb rfl|omega) only [AXS,AXB,J.dst,reduceIte,Z1,Z2,Z3,Z4,Z5,f96r3,B1.cel,eCm,hcs,hb1p]
  refine ⟨⟨by omega,hb1p⟩,⟨by omega,hb1p⟩,?_⟩
  have I2b := I2.b
  refine wL_stD rfl rfl (fun hb => hb.2 rfl) rfl I2.b (by rw [ePr_len]; exact Nat.le_of_ble_eq_true rfl) int_one ?_
  rintro h3 u3 (B3 : Blk _ _ _ (ePr { pv with s := { pv.s with epoch := c.s.epoch } }))
  simp (maxSteps:=1000000) (disch:=first|exact Lb rfl|omega) only [AXS,AXB,J.dst,reduceIte,Z1,Z2,Z3,Z4,Z5]
  refine wL_stD rfl rfl (fun hb => hb.2 rfl) rfl B3 (by rw [ePr_len]; exact Nat.le_of_ble_eq_true rfl) int_one ?_
  rintro h4 u4 (B4 : Blk _ _ _ (ePr { pv with s := { pv.s with epoch := c.s.epoch,holder := c.s.node } }))
  simp (maxSteps:=1000000) (disch:=first|exact Lb rfl|omega) only [AXS,AXB,J.dst,reduceIte,Z1,Z2,Z3,Z4,Z5]
  (try simp (maxSteps:=1000000) (disch:=first|exact Lb rfl|omega) only [AXS,AXB,J.dst,reduceIte,Z1,Z2,Z3,Z4,Z5]); rw [f96c5_eq]; (try simp (maxSteps:=1000000) (disch:=first|exact Lb rfl|omega) only [AXS,AXB,J.dst,reduceIte,Z1,Z2,Z3,Z4,Z5,f96r4])
  have C2 := u4.blk (u3.blk B2 (by omega)) (by omega)
  have u34 : Upd bp h2 h4 := ⟨u4.size.trans u3.size,fun b hb => (u4.ne b hb).trans (u3.ne b hb)⟩
  have I4 := I2.put { pv.s with epoch := c.s.epoch,holder := c.s.node } u34 B4
  have s34 := u34.size
  refine wL_stN rfl rfl rfl C2 (by decide) (eRp_one ⟨okS,none,0,0⟩) ?_
  rintro h5 u5 (B5 : Blk _ _ _ (eRp ⟨okS,none,0,0⟩))
  simp (maxSteps:=1000000) (disch:=first|exact Lb rfl|omega) only [AXS,AXB,J.dst,reduceIte,Z1,Z2,Z3,Z4,Z5,B5.rd,eRp]
  have := hR _ ⟨okS,none,0,0⟩ h5 (by
   rw [hl,← hps]
   have hap := I.apart (b := b2) (by omega)
   exact (I4.box ⟨by omega,.inr (by omega)⟩ (by omega) hap.1 hap.2 u5).out (RpO.none _ _ _) ((Gr.upd (e02.gr _) u34 (.inl rfl)).upd u5 (.inr (by omega))) (fun _ _ h => h) (fun k hk => by cases hk))
  exact this
end Go.Proofs.Ytefghfgmkndikaa
namespace Go.Proofs.Ytefghfgmkndikaa
open Go.AX
set_option maxRecDepth 100000
def f97r0 : List I := [.op (.box 3 43 (.tmp 1)),
 .op (.new 4 47 [.int .i64 0,.slice none 0 0,.int .i64 0,.int .i64 0,.int .i64 0,.int .i64 0,.int .i64 0,.int .i64 0,.int .i64 0,.int .i64 0,.bool false]),
 .kp [0,3,4]]
def f97r1 : List I := [.op (.fad 9 0 (.tmp 3)),
 .op (.ld 10 none (.tmp 9)),
 .kp [0,3,4,10]]
def f97r2 : List I := [.op (.bin 12 .eql (.tmp 10) (.const (.int .i64 2))),
 .op (.mov 11 (.tmp 12)),
 .kp [0,3,4,10,11]]
def f97r3 : List I := [.op (.mov 13 (.tmp 0)),
 .op (.ld 14 (some 14) (.tmp 3)),
 .op (.call (some 15) 126 [(.tmp 13),(.tmp 14)]),
 .op (.st 11 (.tmp 4) (.tmp 15)),
 .kp [4]]
def f97r4 : List I := [.op (.bin 17 .eql (.tmp 10) (.const (.int .i64 3))),
 .op (.mov 16 (.tmp 17)),
 .kp [0,3,4,10,16]]
def f97r5 : List I := [.op (.mov 18 (.tmp 0)),
 .op (.ld 19 (some 14) (.tmp 3)),
 .op (.call (some 20) 127 [(.tmp 18),(.tmp 19)]),
 .op (.st 11 (.tmp 4) (.tmp 20)),
 .kp [4]]
def f97r6 : List I := [.op (.bin 22 .eql (.tmp 10) (.const (.int .i64 4))),
 .op (.mov 21 (.tmp 22)),
 .kp [0,3,4,10,21]]
def f97r7 : L := (.one [.op (.mov 24 (.tmp 0)),
 .op (.nch (some 25) (.tmp 24)),
 .op (.fad 26 7 (.tmp 25)),
 .op (.ld 27 none (.tmp 26)),
 .op (.fad 28 4 (.tmp 3)),
 .op (.ld 29 (some 4) (.tmp 28))] (.alt (.one [.op (.call (some 30) 63 [(.tmp 27),(.tmp 29)]),
 .op (.mov 23 (.tmp 30)),
 .op (.ext 31 (.tmp 23) 0),
 .op (.ext 32 (.tmp 23) 1),
 .op (.new 5 126 [.int .i64 0,.int .i64 0,.int .i64 0,.int .i64 0,.int .i64 0,.int .i64 0,.bool false]),
 .op (.st 7 (.tmp 5) (.tmp 31)),
 .op (.mov 6 (.tmp 32)),
 .kp [0,3,4,5,6]] .nil) (.one [.op (.new 5 126 [.int .i64 0,.int .i64 0,.int .i64 0,.int .i64 0,.int .i64 0,.int .i64 0,.bool false]),
 .op (.call (some 30) 63 [(.tmp 27),(.tmp 29)]),
 .op (.mov 23 (.tmp 30)),
 .op (.ext 31 (.tmp 23) 0),
 .op (.ext 32 (.tmp 23) 1),
 .op (.st 7 (.tmp 5) (.tmp 31)),
 .op (.mov 6 (.tmp 32)),
 .kp [0,3,4,5,6]] .nil)))
def f97r8 : List I := [.op (.mov 33 (.tmp 6)),
 .kp [0,3,4,5,33]]
def f97r9 : List I := [.op (.fad 34 6 (.tmp 5)),
 .op (.ld 35 none (.tmp 34)),
 .op (.fad 36 4 (.tmp 5)),
 .op (.ld 37 (some 2) (.tmp 36)),
 .op (.bld 38 [.int .i64 0,.slice none 0 0,.int .i64 0,.int .i64 0,.int .i64 0,.int .i64 0,.int .i64 0,.int .i64 0,.int .i64 0,.int .i64 0,.bool false] [(10,1,(.tmp 35)),(7,2,(.tmp 37))]),
 .op (.st 11 (.tmp 4) (.tmp 38)),
 .kp [4]]
def f97r10 : L := (.one [.op (.mov 39 (.tmp 0)),
 .op (.mov 40 (.tmp 0)),
 .op (.nch (some 41) (.tmp 40)),
 .op (.fad 42 7 (.tmp 41)),
 .op (.fad 44 4 (.tmp 3)),
 .op (.ld 45 (some 4) (.tmp 44)),
 .op (.fad 46 8 (.tmp 3)),
 .op (.ld 47 (some 2) (.tmp 46)),
 .op (.fad 48 11 (.tmp 3)),
 .op (.ld 49 none (.tmp 48)),
 .kp [3,4,39,42,45,47,49],
 .op (.bld 50 [.int .i64 0,.int .i64 0,.int .i64 0,.int .i64 0,.int .i64 0,.int .i64 0,.bool false] [(0,4,(.tmp 45)),(4,2,(.tmp 47)),(6,1,(.tmp 49))])] (.alt (.one [.opn (.ld 43 none (.tmp 42)),
 .op (.bsl 51 126 1 [.int .i64 0,.int .i64 0,.int .i64 0,.int .i64 0,.int .i64 0,.int .i64 0,.bool false] [(0,7,(.tmp 50))]),
 .op (.raw (some 52) ⟨(some 52), (.call ⟨(.builtin .append), #[(.tmp 43), (.tmp 51)], #[114, 114]⟩), 114, "part.go:79", #[⟨4, .data⟩, ⟨12, .data⟩], none⟩),
 .op (.nch (some 53) (.tmp 39)),
 .op (.fad 54 7 (.tmp 53)),
 .op (.st 1 (.tmp 54) (.tmp 52)),
 .kp [3,4]] .nil) (.one [.op (.bsl 51 126 1 [.int .i64 0,.int .i64 0,.int .i64 0,.int .i64 0,.int .i64 0,.int .i64 0,.bool false] [(0,7,(.tmp 50))]),
 .opn (.ld 43 none (.tmp 42)),
 .op (.raw (some 52) ⟨(some 52), (.call ⟨(.builtin .append), #[(.tmp 43), (.tmp 51)], #[114, 114]⟩), 114, "part.go:79", #[⟨4, .data⟩, ⟨12, .data⟩], none⟩),
 .op (.nch (some 53) (.tmp 39)),
 .op (.fad 54 7 (.tmp 53)),
 .op (.st 1 (.tmp 54) (.tmp 52)),
 .kp [3,4]] .nil)))
def f97r11 : List I := [.op (.fad 55 11 (.tmp 3)),
 .op (.ld 56 none (.tmp 55)),
 .op (.fad 57 8 (.tmp 3)),
 .op (.ld 58 (some 2) (.tmp 57)),
 .op (.bld 59 [.int .i64 0,.slice none 0 0,.int .i64 0,.int .i64 0,.int .i64 0,.int .i64 0,.int .i64 0,.int .i64 0,.int .i64 0,.int .i64 0,.bool false] [(10,1,(.tmp 56)),(7,2,(.tmp 58))]),
 .op (.st 11 (.tmp 4) (.tmp 59)),
 .kp [4]]
def f97r12 : List I := [.op (.bin 61 .eql (.tmp 10) (.const (.int .i64 5))),
 .op (.mov 60 (.tmp 61)),
 .kp [0,3,4,10,60]]
def f97r13 : List I := [.op (.mov 62 (.tmp 0)),
 .op (.mov 63 (.tmp 0)),
 .op (.nch (some 64) (.tmp 63)),
 .op (.fad 65 6 (.tmp 64)),
 .op (.fad 67 4 (.tmp 3)),
 .op (.ld 68 (some 4) (.tmp 67)),
 .op (.fad 69 11 (.tmp 3)),
 .op (.ld 70 none (.tmp 69)),
 .opn (.ld 66 none (.tmp 65)),
 .op (.call (some 71) 39 [(.tmp 66),(.tmp 68),(.tmp 70)]),
 .kp [0,3,4,62,71],
 .op (.nch (some 72) (.tmp 62)),
 .op (.fad 73 6 (.tmp 72)),
 .op (.st 1 (.tmp 73) (.tmp 71)),
 .kp [0,3,4]]
def f97r14 : L := (.one [.op (.mov 75 (.tmp 0)),
 .op (.nch (some 76) (.tmp 75)),
 .op (.fad 77 8 (.tmp 76)),
 .op (.ld 78 none (.tmp 77)),
 .op (.fad 79 4 (.tmp 3)),
 .op (.ld 80 (some 4) (.tmp 79))] (.alt (.one [.op (.call (some 81) 63 [(.tmp 78),(.tmp 80)]),
 .op (.mov 74 (.tmp 81)),
 .op (.ext 82 (.tmp 74) 0),
 .op (.ext 83 (.tmp 74) 1),
 .op (.new 7 126 [.int .i64 0,.int .i64 0,.int .i64 0,.int .i64 0,.int .i64 0,.int .i64 0,.bool false]),
 .op (.st 7 (.tmp 7) (.tmp 82)),
 .op (.mov 8 (.tmp 83)),
 .kp [0,3,4,8]] .nil) (.one [.op (.new 7 126 [.int .i64 0,.int .i64 0,.int .i64 0,.int .i64 0,.int .i64 0,.int .i64 0,.bool false]),
 .op (.call (some 81) 63 [(.tmp 78),(.tmp 80)]),
 .op (.mov 74 (.tmp 81)),
 .op (.ext 82 (.tmp 74) 0),
 .op (.ext 83 (.tmp 74) 1),
 .op (.st 7 (.tmp 7) (.tmp 82)),
 .op (.mov 8 (.tmp 83)),
 .kp [0,3,4,8]] .nil)))
def f97r15 : List I := [.op (.mov 84 (.tmp 8)),
 .op (.un 85 .not (.tmp 84)),
 .kp [0,3,4,85]]
def f97r16 : L := (.one [.op (.mov 86 (.tmp 0)),
 .op (.mov 87 (.tmp 0)),
 .op (.nch (some 88) (.tmp 87)),
 .op (.fad 89 8 (.tmp 88)),
 .op (.fad 91 4 (.tmp 3)),
 .op (.ld 92 (some 4) (.tmp 91)),
 .op (.fad 93 8 (.tmp 3)),
 .op (.ld 94 (some 2) (.tmp 93)),
 .op (.fad 95 11 (.tmp 3)),
 .op (.ld 96 none (.tmp 95)),
 .kp [4,86,89,92,94,96],
 .op (.bld 97 [.int .i64 0,.int .i64 0,.int .i64 0,.int .i64 0,.int .i64 0,.int .i64 0,.bool false] [(0,4,(.tmp 92)),(4,2,(.tmp 94)),(6,1,(.tmp 96))])] (.alt (.one [.opn (.ld 90 none (.tmp 89)),
 .op (.bsl 98 126 1 [.int .i64 0,.int .i64 0,.int .i64 0,.int .i64 0,.int .i64 0,.int .i64 0,.bool false] [(0,7,(.tmp 97))]),
 .op (.raw (some 99) ⟨(some 99), (.call ⟨(.builtin .append), #[(.tmp 90), (.tmp 98)], #[114, 114]⟩), 114, "part.go:84", #[⟨4, .data⟩, ⟨12, .data⟩], none⟩),
 .op (.nch (some 100) (.tmp 86)),
 .op (.fad 101 8 (.tmp 100)),
 .op (.st 1 (.tmp 101) (.tmp 99)),
 .kp [4]] .nil) (.one [.op (.bsl 98 126 1 [.int .i64 0,.int .i64 0,.int .i64 0,.int .i64 0,.int .i64 0,.int .i64 0,.bool false] [(0,7,(.tmp 97))]),
 .opn (.ld 90 none (.tmp 89)),
 .op (.raw (some 99) ⟨(some 99), (.call ⟨(.builtin .append), #[(.tmp 90), (.tmp 98)], #[114, 114]⟩), 114, "part.go:84", #[⟨4, .data⟩, ⟨12, .data⟩], none⟩),
 .op (.nch (some 100) (.tmp 86)),
 .op (.fad 101 8 (.tmp 100)),
 .op (.st 1 (.tmp 101) (.tmp 99)),
 .kp [4]] .nil)))
def f97r17 : List I := [.op (.bld 102 [.int .i64 0,.slice none 0 0,.int .i64 0,.int .i64 0,.int .i64 0,.int .i64 0,.int .i64 0,.int .i64 0,.int .i64 0,.int .i64 0,.bool false] []),
 .op (.st 11 (.tmp 4) (.tmp 102)),
 .kp [4]]
def f97r18 : List I := [.op (.bin 104 .eql (.tmp 10) (.const (.int .i64 6))),
 .op (.mov 103 (.tmp 104)),
 .kp [0,3,4,10,103]]
def f97r19 : List I := [.op (.mov 105 (.tmp 0)),
 .op (.mov 106 (.tmp 0)),
 .op (.nch (some 107) (.tmp 106)),
 .op (.fad 108 4 (.tmp 107)),
 .op (.fad 110 10 (.tmp 3)),
 .op (.ld 111 none (.tmp 110)),
 .op (.mm 112 false (.tmp 111) (.const (.int .i64 4611686018427387904))),
 .opn (.ld 109 none (.tmp 108)),
 .op (.mm 113 true (.tmp 109) (.tmp 112)),
 .op (.nch (some 114) (.tmp 105)),
 .kp [0,4,113,114],
 .op (.fad 115 4 (.tmp 114)),
 .op (.st 1 (.tmp 115) (.tmp 113)),
 .kp [0,4]]
def f97r20 : List I := [.op (.mov 116 (.tmp 0)),
 .op (.nch (some 117) (.tmp 116)),
 .op (.fad 118 4 (.tmp 117)),
 .op (.ld 119 none (.tmp 118)),
 .op (.bld 120 [.int .i64 0,.slice none 0 0,.int .i64 0,.int .i64 0,.int .i64 0,.int .i64 0,.int .i64 0,.int .i64 0,.int .i64 0,.int .i64 0,.bool false] [(9,1,(.tmp 119))]),
 .op (.st 11 (.tmp 4) (.tmp 120)),
 .kp [4]]
def f97r21 : List I := [.op (.bin 122 .eql (.tmp 10) (.const (.int .i64 7))),
 .op (.mov 121 (.tmp 122)),
 .kp [0,3,4,121]]
def f97r22 : L := (.one [.op (.mov 123 (.tmp 0)),
 .op (.mov 124 (.tmp 0)),
 .op (.nch (some 125) (.tmp 124)),
 .op (.fad 126 5 (.tmp 125)),
 .op (.fad 128 10 (.tmp 3)),
 .op (.ld 129 none (.tmp 128)),
 .op (.mov 130 (.tmp 0)),
 .op (.nch (some 131) (.tmp 130)),
 .op (.fad 132 4 (.tmp 131))] (.alt (.one [.opn (.ld 127 none (.tmp 126)),
 .opn (.ld 133 none (.tmp 132)),
 .op (.mm 134 false (.tmp 129) (.tmp 133)),
 .op (.mm 135 true (.tmp 127) (.tmp 134)),
 .op (.nch (some 136) (.tmp 123)),
 .op (.fad 137 5 (.tmp 136)),
 .op (.st 1 (.tmp 137) (.tmp 135)),
 .kp [0,4]] .nil) (.one [.opn (.ld 133 none (.tmp 132)),
 .op (.mm 134 false (.tmp 129) (.tmp 133)),
 .opn (.ld 127 none (.tmp 126)),
 .op (.mm 135 true (.tmp 127) (.tmp 134)),
 .op (.nch (some 136) (.tmp 123)),
 .op (.fad 137 5 (.tmp 136)),
 .op (.st 1 (.tmp 137) (.tmp 135)),
 .kp [0,4]] .nil)))
def f97r23 : L := (.one [.op (.mov 138 (.tmp 0)),
 .op (.mov 139 (.tmp 0)),
 .op (.nch (some 140) (.tmp 139)),
 .op (.fad 141 6 (.tmp 140)),
 .op (.mov 143 (.tmp 0)),
 .op (.nch (some 144) (.tmp 143)),
 .op (.fad 145 5 (.tmp 144))] (.alt (.one [.opn (.ld 142 none (.tmp 141)),
 .opn (.ld 146 none (.tmp 145)),
 .op (.bld 147 [.int .i64 0,.int .i64 0] [(0,1,(.tmp 146))]),
 .op (.call (some 148) 46 [(.tmp 142),(.tmp 147)]),
 .op (.nch (some 149) (.tmp 138)),
 .op (.fad 150 6 (.tmp 149)),
 .op (.st 1 (.tmp 150) (.tmp 148)),
 .kp [0,4]] .nil) (.one [.opn (.ld 146 none (.tmp 145)),
 .op (.bld 147 [.int .i64 0,.int .i64 0] [(0,1,(.tmp 146))]),
 .opn (.ld 142 none (.tmp 141)),
 .op (.call (some 148) 46 [(.tmp 142),(.tmp 147)]),
 .op (.nch (some 149) (.tmp 138)),
 .op (.fad 150 6 (.tmp 149)),
 .op (.st 1 (.tmp 150) (.tmp 148)),
 .kp [0,4]] .nil)))
def f97r24 : List I := [.op (.mov 151 (.tmp 0)),
 .op (.nch (some 152) (.tmp 151)),
 .op (.fad 153 5 (.tmp 152)),
 .op (.ld 154 none (.tmp 153)),
 .op (.bld 155 [.int .i64 0,.slice none 0 0,.int .i64 0,.int .i64 0,.int .i64 0,.int .i64 0,.int .i64 0,.int .i64 0,.int .i64 0,.int .i64 0,.bool false] [(9,1,(.tmp 154))]),
 .op (.st 11 (.tmp 4) (.tmp 155)),
 .kp [4]]
def f97r25 : List I := [.op (.bld 156 [.int .i64 0,.slice none 0 0,.int .i64 0,.int .i64 0,.int .i64 0,.int .i64 0,.int .i64 0,.int .i64 0,.int .i64 0,.int .i64 0,.bool false] [(0,1,(.const (.int .i64 9)))]),
 .op (.st 11 (.tmp 4) (.tmp 156)),
 .kp [4]]
def f97c5 : C := (.seq (.reg f97r3) .ret)
def f97c8 : C := (.seq (.reg f97r5) .ret)
def f97c14 : C := (.seq (.reg f97r9) .ret)
def f97c16 : C := (.seq (.reg f97r11) .ret)
def f97c15 : C := (.seq (.drt f97r10) f97c16)
def f97c13 : C := (.seq (.cond (.tmp 33) f97c14 .skip) f97c15)
def f97c12 : C := (.seq (.reg f97r8) f97c13)
def f97c11 : C := (.seq (.drt f97r7) f97c12)
def f97c23 : C := (.drt f97r16)
def f97c24 : C := (.seq (.reg f97r17) .ret)
def f97c22 : C := (.seq (.cond (.tmp 85) f97c23 .skip) f97c24)
def f97c21 : C := (.seq (.reg f97r15) f97c22)
def f97c20 : C := (.seq (.drt f97r14) f97c21)
def f97c19 : C := (.seq (.drw f97r13) f97c20)
def f97c28 : C := (.seq (.reg f97r20) .ret)
def f97c27 : C := (.seq (.drw f97r19) f97c28)
def f97c33 : C := (.seq (.reg f97r24) .ret)
def f97c32 : C := (.seq (.drt f97r23) f97c33)
def f97c31 : C := (.seq (.drt f97r22) f97c32)
def f97c30 : C := (.cond (.tmp 121) f97c31 .skip)
def f97c29 : C := (.seq (.reg f97r21) f97c30)
def f97c26 : C := (.cond (.tmp 103) f97c27 f97c29)
def f97c25 : C := (.seq (.reg f97r18) f97c26)
def f97c18 : C := (.cond (.tmp 60) f97c19 f97c25)
def f97c17 : C := (.seq (.reg f97r12) f97c18)
def f97c10 : C := (.cond (.tmp 21) f97c11 f97c17)
def f97c9 : C := (.seq (.reg f97r6) f97c10)
def f97c7 : C := (.cond (.tmp 16) f97c8 f97c9)
def f97c6 : C := (.seq (.reg f97r4) f97c7)
def f97c4 : C := (.cond (.tmp 11) f97c5 f97c6)
def f97c3 : C := (.seq (.reg f97r2) f97c4)
def f97c34 : C := (.seq (.reg f97r25) .ret)
def f97c2 : C := (.seq (.block 0 f97c3) f97c34)
def f97c1 : C := (.seq (.reg f97r1) f97c2)
def f97c0 : C := (.seq (.reg f97r0) f97c1)
theorem f97cmp : cmpF Try.prog Try.f97 [.l [.o 0,.o 1,.kp [0,3,4]],
 .l [.o 0,.o 1,.kp [0,3,4,10]],
 .l [.o 0,.o 1,.kp [0,3,4,10,11]],
 .l [.o 0,.o 1,.o 2,.o 3,.kp [4]],
 .l [.o 0,.o 1,.kp [0,3,4,10,16]],
 .l [.o 0,.o 1,.o 2,.o 3,.kp [4]],
 .l [.o 0,.o 1,.kp [0,3,4,10,21]],
 .t (.one [.o 0,.o 1,.o 2,.o 3,.o 4,.o 5] (.alt (.one [.o 6,.o 7,.o 8,.o 9,.o 10,.o 11,.o 12,.kp [0,3,4,5,6]] .nil) (.one [.o 10,.o 6,.o 7,.o 8,.o 9,.o 11,.o 12,.kp [0,3,4,5,6]] .nil))),
 .l [.o 0,.kp [0,3,4,5,33]],
 .l [.o 0,.o 1,.o 2,.o 3,.o 4,.o 5,.kp [4]],
 .t (.one [.o 0,.o 1,.o 2,.o 3,.o 5,.o 6,.o 7,.o 8,.o 9,.o 10,.kp [3,4,39,42,45,47,49],.o 11] (.alt (.one [.x 4,.o 12,.o 13,.o 14,.o 15,.o 16,.kp [3,4]] .nil) (.one [.o 12,.x 4,.o 13,.o 14,.o 15,.o 16,.kp [3,4]] .nil))),
 .l [.o 0,.o 1,.o 2,.o 3,.o 4,.o 5,.kp [4]],
 .l [.o 0,.o 1,.kp [0,3,4,10,60]],
 .l [.o 0,.o 1,.o 2,.o 3,.o 5,.o 6,.o 7,.o 8,.x 4,.o 9,.kp [0,3,4,62,71],.o 10,.o 11,.o 12,.kp [0,3,4]],
 .t (.one [.o 0,.o 1,.o 2,.o 3,.o 4,.o 5] (.alt (.one [.o 6,.o 7,.o 8,.o 9,.o 10,.o 11,.o 12,.kp [0,3,4,8]] .nil) (.one [.o 10,.o 6,.o 7,.o 8,.o 9,.o 11,.o 12,.kp [0,3,4,8]] .nil))),
 .l [.o 0,.o 1,.kp [0,3,4,85]],
 .t (.one [.o 0,.o 1,.o 2,.o 3,.o 5,.o 6,.o 7,.o 8,.o 9,.o 10,.kp [4,86,89,92,94,96],.o 11] (.alt (.one [.x 4,.o 12,.o 13,.o 14,.o 15,.o 16,.kp [4]] .nil) (.one [.o 12,.x 4,.o 13,.o 14,.o 15,.o 16,.kp [4]] .nil))),
 .l [.o 0,.o 1,.kp [4]],
 .l [.o 0,.o 1,.kp [0,3,4,10,103]],
 .l [.o 0,.o 1,.o 2,.o 3,.o 5,.o 6,.o 7,.x 4,.o 8,.o 9,.kp [0,4,113,114],.o 10,.o 11,.kp [0,4]],
 .l [.o 0,.o 1,.o 2,.o 3,.o 4,.o 5,.kp [4]],
 .l [.o 0,.o 1,.kp [0,3,4,121]],
 .t (.one [.o 0,.o 1,.o 2,.o 3,.o 5,.o 6,.o 7,.o 8,.o 9] (.alt (.one [.x 4,.x 10,.o 11,.o 12,.o 13,.o 14,.o 15,.kp [0,4]] .nil) (.one [.x 10,.o 11,.x 4,.o 12,.o 13,.o 14,.o 15,.kp [0,4]] .nil))),
 .t (.one [.o 0,.o 1,.o 2,.o 3,.o 5,.o 6,.o 7] (.alt (.one [.x 4,.x 8,.o 9,.o 10,.o 11,.o 12,.o 13,.kp [0,4]] .nil) (.one [.x 8,.o 9,.x 4,.o 10,.o 11,.o 12,.o 13,.kp [0,4]] .nil))),
 .l [.o 0,.o 1,.o 2,.o 3,.o 4,.o 5,.kp [4]],
 .l [.o 0,.o 1,.kp [4]]] = some (f97c0,[.cell 4 11]) := by kernel_rfl
theorem f97ok {args : List Value} {h : Heap} {R : Value → Heap → Prop} (hn : args.length ≤ 157) (H : wC Try.prog f97c0 (endW [.cell 4 11] R) (envOf 0 args) h) : CallsH Try.prog 97 args h R :=
 fn_ok2 Try.func97 f97cmp hn H
section
variable {P : Program} {Q : X → Env → Heap → Prop} {σ : Env} {h : Heap}
theorem f97c5_eq : wC P f97c5 Q σ h = (wL P none f97r3 0 (fun σ h => Q .ret σ h) σ h) := rfl
theorem f97c8_eq : wC P f97c8 Q σ h = (wL P none f97r5 0 (fun σ h => Q .ret σ h) σ h) := rfl
theorem f97c14_eq : wC P f97c14 Q σ h = (wL P none f97r9 0 (fun σ h => Q .ret σ h) σ h) := rfl
theorem f97c16_eq : wC P f97c16 Q σ h = (wL P none f97r11 0 (fun σ h => Q .ret σ h) σ h) := rfl
theorem f97c15_eq : wC P f97c15 Q σ h = (drtW P f97r10 (fun σ h => wC P f97c16 Q σ h) σ h) := rfl
theorem f97c13_eq : wC P f97c13 Q σ h = (bd (evO σ (.tmp 33)) fun v => bd (asB v) fun t => br t (wC P f97c14 (X.then (fun σ h => wC P f97c15 Q σ h) Q) σ h) (wC P f97c15 Q σ h)) := rfl
theorem f97c12_eq : wC P f97c12 Q σ h = (wL P none f97r8 0 (fun σ h => wC P f97c13 Q σ h) σ h) := rfl
theorem f97c11_eq : wC P f97c11 Q σ h = (drtW P f97r7 (fun σ h => wC P f97c12 Q σ h) σ h) := rfl
theorem f97c23_eq : wC P f97c23 Q σ h = (drtW P f97r16 (fun σ h => Q .normal σ h) σ h) := rfl
theorem f97c24_eq : wC P f97c24 Q σ h = (wL P none f97r17 0 (fun σ h => Q .ret σ h) σ h) := rfl
theorem f97c22_eq : wC P f97c22 Q σ h = (bd (evO σ (.tmp 85)) fun v => bd (asB v) fun t => br t (wC P f97c23 (X.then (fun σ h => wC P f97c24 Q σ h) Q) σ h) (wC P f97c24 Q σ h)) := rfl
theorem f97c21_eq : wC P f97c21 Q σ h = (wL P none f97r15 0 (fun σ h => wC P f97c22 Q σ h) σ h) := rfl
theorem f97c20_eq : wC P f97c20 Q σ h = (drtW P f97r14 (fun σ h => wC P f97c21 Q σ h) σ h) := rfl
theorem f97c19_eq : wC P f97c19 Q σ h = (drwW P f97r13 (fun σ h => wC P f97c20 Q σ h) σ h) := rfl
theorem f97c28_eq : wC P f97c28 Q σ h = (wL P none f97r20 0 (fun σ h => Q .ret σ h) σ h) := rfl
theorem f97c27_eq : wC P f97c27 Q σ h = (drwW P f97r19 (fun σ h => wC P f97c28 Q σ h) σ h) := rfl
theorem f97c33_eq : wC P f97c33 Q σ h = (wL P none f97r24 0 (fun σ h => Q .ret σ h) σ h) := rfl
theorem f97c32_eq : wC P f97c32 Q σ h = (drtW P f97r23 (fun σ h => wC P f97c33 Q σ h) σ h) := rfl
theorem f97c31_eq : wC P f97c31 Q σ h = (drtW P f97r22 (fun σ h => wC P f97c32 Q σ h) σ h) := rfl
theorem f97c30_eq : wC P f97c30 Q σ h = (bd (evO σ (.tmp 121)) fun v => bd (asB v) fun t => br t (wC P f97c31 Q σ h) (Q .normal σ h)) := rfl
theorem f97c29_eq : wC P f97c29 Q σ h = (wL P none f97r21 0 (fun σ h => wC P f97c30 Q σ h) σ h) := rfl
theorem f97c26_eq : wC P f97c26 Q σ h = (bd (evO σ (.tmp 103)) fun v => bd (asB v) fun t => br t (wC P f97c27 Q σ h) (wC P f97c29 Q σ h)) := rfl
theorem f97c25_eq : wC P f97c25 Q σ h = (wL P none f97r18 0 (fun σ h => wC P f97c26 Q σ h) σ h) := rfl
theorem f97c18_eq : wC P f97c18 Q σ h = (bd (evO σ (.tmp 60)) fun v => bd (asB v) fun t => br t (wC P f97c19 Q σ h) (wC P f97c25 Q σ h)) := rfl
theorem f97c17_eq : wC P f97c17 Q σ h = (wL P none f97r12 0 (fun σ h => wC P f97c18 Q σ h) σ h) := rfl
theorem f97c10_eq : wC P f97c10 Q σ h = (bd (evO σ (.tmp 21)) fun v => bd (asB v) fun t => br t (wC P f97c11 Q σ h) (wC P f97c17 Q σ h)) := rfl
theorem f97c9_eq : wC P f97c9 Q σ h = (wL P none f97r6 0 (fun σ h => wC P f97c10 Q σ h) σ h) := rfl
theorem f97c7_eq : wC P f97c7 Q σ h = (bd (evO σ (.tmp 16)) fun v => bd (asB v) fun t => br t (wC P f97c8 Q σ h) (wC P f97c9 Q σ h)) := rfl
theorem f97c6_eq : wC P f97c6 Q σ h = (wL P none f97r4 0 (fun σ h => wC P f97c7 Q σ h) σ h) := rfl
theorem f97c4_eq : wC P f97c4 Q σ h = (bd (evO σ (.tmp 11)) fun v => bd (asB v) fun t => br t (wC P f97c5 Q σ h) (wC P f97c6 Q σ h)) := rfl
theorem f97c3_eq : wC P f97c3 Q σ h = (wL P none f97r2 0 (fun σ h => wC P f97c4 Q σ h) σ h) := rfl
theorem f97c34_eq : wC P f97c34 Q σ h = (wL P none f97r25 0 (fun σ h => Q .ret σ h) σ h) := rfl
theorem f97c2_eq : wC P f97c2 Q σ h = (wC P f97c3 (X.inBlock 0 (X.then (fun σ h => wC P f97c34 Q σ h) Q)) σ h) := rfl
theorem f97c1_eq : wC P f97c1 Q σ h = (wL P none f97r1 0 (fun σ h => wC P f97c2 Q σ h) σ h) := rfl
theorem f97c0_eq : wC P f97c0 Q σ h = (wL P none f97r0 0 (fun σ h => wC P f97c1 Q σ h) σ h) := rfl
end
def f126r0 : List I := [.op (.box 3 43 (.tmp 1)),
 .op (.new 4 47 [.int .i64 0,.slice none 0 0,.int .i64 0,.int .i64 0,.int .i64 0,.int .i64 0,.int .i64 0,.int .i64 0,.int .i64 0,.int .i64 0,.bool false]),
 .kp [0,3,4]]
def f126r1 : List I := [.op (.fad 14 8 (.tmp 3)),
 .op (.fad 15 0 (.tmp 14)),
 .op (.ld 16 none (.tmp 15)),
 .op (.mov 17 (.tmp 0)),
 .op (.nch (some 18) (.tmp 17)),
 .op (.fad 19 5 (.tmp 18)),
 .op (.ld 20 none (.tmp 19)),
 .op (.bin 21 .lss (.tmp 16) (.tmp 20)),
 .kp [0,3,4,21]]
def f126r2 : List I := [.op (.mov 22 (.tmp 0)),
 .op (.nch (some 23) (.tmp 22)),
 .op (.fad 24 5 (.tmp 23)),
 .op (.ld 25 none (.tmp 24)),
 .op (.bld 26 [.int .i64 0,.slice none 0 0,.int .i64 0,.int .i64 0,.int .i64 0,.int .i64 0,.int .i64 0,.int .i64 0,.int .i64 0,.int .i64 0,.bool false] [(0,1,(.const (.int .i64 24))),(9,1,(.tmp 25))]),
 .op (.st 11 (.tmp 4) (.tmp 26)),
 .kp [4]]
def f126r3 : List I := [.op (.fad 27 12 (.tmp 3)),
 .op (.ld 28 none (.tmp 27)),
 .op (.len 29 true (.tmp 28)),
 .op (.mov 30 (.const (.int .i64 0))),
 .kp [0,3,4,28,29,30]]
def f126r4 : List I := [.op (.bin 31 .lss (.tmp 30) (.tmp 29)),
 .kp [0,3,4,28,29,30,31]]
def f126r5 : List I := [.op (.iad 32 2 (.tmp 28) (.tmp 30)),
 .op (.ld 33 (some 2) (.tmp 32)),
 .op (.new 6 94 [.string ⟨#[]⟩,.string ⟨#[]⟩]),
 .op (.st 2 (.tmp 6) (.tmp 33)),
 .kp [0,3,4,6,28,29,30]]
def f126r6 : L := (.one [.op (.mov 35 (.tmp 0)),
 .op (.nch (some 36) (.tmp 35)),
 .op (.fad 37 6 (.tmp 36)),
 .op (.ld 38 none (.tmp 37)),
 .op (.ld 39 (some 2) (.tmp 6)),
 .op (.fad 40 8 (.tmp 3)),
 .op (.ld 41 (some 2) (.tmp 40))] (.alt (.one [.op (.call (some 42) 93 [(.tmp 38),(.tmp 39),(.tmp 41)]),
 .op (.mov 34 (.tmp 42)),
 .op (.ext 43 (.tmp 34) 0),
 .op (.ext 44 (.tmp 34) 1),
 .op (.new 7 72 [.int .i64 0,.int .i64 0,.int .i64 0,.int .i64 0,.int .i64 0,.int .i64 0,.int .i64 0,.bool false,.string ⟨#[]⟩]),
 .op (.st 9 (.tmp 7) (.tmp 43)),
 .op (.mov 8 (.tmp 44)),
 .kp [0,3,4,7,8,28,29,30]] .nil) (.one [.op (.new 7 72 [.int .i64 0,.int .i64 0,.int .i64 0,.int .i64 0,.int .i64 0,.int .i64 0,.int .i64 0,.bool false,.string ⟨#[]⟩]),
 .op (.call (some 42) 93 [(.tmp 38),(.tmp 39),(.tmp 41)]),
 .op (.mov 34 (.tmp 42)),
 .op (.ext 43 (.tmp 34) 0),
 .op (.ext 44 (.tmp 34) 1),
 .op (.st 9 (.tmp 7) (.tmp 43)),
 .op (.mov 8 (.tmp 44)),
 .kp [0,3,4,7,8,28,29,30]] .nil)))
def f126r7 : List I := [.op (.mov 45 (.tmp 8)),
 .kp [0,3,4,7,28,29,30,45]]
def f126r8 : List I := [.op (.ld 46 (some 9) (.tmp 7)),
 .op (.call (some 47) 142 [(.tmp 46)]),
 .op (.st 11 (.tmp 4) (.tmp 47)),
 .kp [4]]
def f126r9 : List I := [.op (.bin 48 .add (.tmp 30) (.const (.int .i64 1))),
 .op (.mov 30 (.tmp 48)),
 .kp [0,3,4,28,29,30]]
def f126r10 : List I := [.op (.bld 49 [.int .i64 0,.slice none 0 0,.int .i64 0,.int .i64 0,.int .i64 0,.int .i64 0,.int .i64 0,.int .i64 0,.int .i64 0,.int .i64 0,.bool false] []),
 .op (.new 9 47 [.int .i64 0,.slice none 0 0,.int .i64 0,.int .i64 0,.int .i64 0,.int .i64 0,.int .i64 0,.int .i64 0,.int .i64 0,.int .i64 0,.bool false]),
 .op (.st 11 (.tmp 9) (.tmp 49)),
 .kp [0,3,4,9]]
def f126r11 : List I := [.op (.fad 50 12 (.tmp 3)),
 .op (.ld 51 none (.tmp 50)),
 .op (.len 52 true (.tmp 51)),
 .op (.mov 53 (.const (.int .i64 0))),
 .kp [0,3,4,9,51,52,53]]
def f126r12 : List I := [.op (.bin 54 .lss (.tmp 53) (.tmp 52)),
 .kp [0,3,4,9,51,52,53,54]]
def f126r13 : List I := [.op (.iad 55 2 (.tmp 51) (.tmp 53)),
 .op (.ld 56 (some 2) (.tmp 55)),
 .op (.new 11 94 [.string ⟨#[]⟩,.string ⟨#[]⟩]),
 .op (.st 2 (.tmp 11) (.tmp 56)),
 .kp [0,3,4,9,11,51,52,53]]
def f126r14 : List I := [.op (.mov 58 (.tmp 0)),
 .op (.nch (some 59) (.tmp 58)),
 .op (.fad 60 6 (.tmp 59)),
 .op (.ld 61 none (.tmp 60)),
 .op (.ld 62 (some 2) (.tmp 11)),
 .op (.fad 63 8 (.tmp 3)),
 .op (.ld 64 (some 2) (.tmp 63)),
 .op (.fad 65 1 (.tmp 9)),
 .op (.ld 66 none (.tmp 65)),
 .op (.len 67 true (.tmp 66)),
 .kp [0,3,4,9,51,52,53,61,62,64,67],
 .op (.bin 68 .sub (.const (.int .i64 512)) (.tmp 67)),
 .op (.call (some 69) 47 [(.tmp 61),(.tmp 62),(.tmp 64),(.tmp 68)]),
 .op (.mov 57 (.tmp 69)),
 .op (.ext 70 (.tmp 57) 0),
 .op (.ext 71 (.tmp 57) 1),
 .op (.mov 12 (.tmp 70)),
 .op (.mov 13 (.tmp 71)),
 .kp [0,3,4,9,12,13,51,52,53]]
def f126r15 : List I := [.op (.mov 72 (.tmp 13)),
 .op (.bin 73 .neq (.tmp 72) (.const (.int .i64 0))),
 .kp [0,3,4,9,12,13,51,52,53,73]]
def f126r16 : List I := [.op (.mov 74 (.tmp 13)),
 .op (.bld 75 [.int .i64 0,.slice none 0 0,.int .i64 0,.int .i64 0,.int .i64 0,.int .i64 0,.int .i64 0,.int .i64 0,.int .i64 0,.int .i64 0,.bool false] [(0,1,(.tmp 74))]),
 .op (.st 11 (.tmp 4) (.tmp 75)),
 .kp [4]]
def f126r17 : List I := [.op (.fad 76 1 (.tmp 9)),
 .op (.ld 77 none (.tmp 76)),
 .op (.mov 78 (.tmp 12)),
 .op (.raw (some 79) ⟨(some 79), (.call ⟨(.builtin .append), #[(.tmp 77), (.tmp 78)], #[45, 45]⟩), 45, "part.go:118", #[⟨1, .data⟩, ⟨2, .data⟩], none⟩),
 .op (.fad 80 1 (.tmp 9)),
 .op (.st 1 (.tmp 80) (.tmp 79)),
 .kp [0,3,4,9,51,52,53]]
def f126r18 : List I := [.op (.bin 81 .add (.tmp 53) (.const (.int .i64 1))),
 .op (.mov 53 (.tmp 81)),
 .kp [0,3,4,9,51,52,53]]
def f126r19 : List I := [.op (.mov 82 (.tmp 0)),
 .op (.mov 83 (.tmp 0)),
 .op (.nch (some 84) (.tmp 83)),
 .op (.fad 85 2 (.tmp 84)),
 .op (.fad 87 8 (.tmp 3)),
 .op (.ld 88 (some 2) (.tmp 87)),
 .opn (.ld 86 (some 2) (.tmp 85)),
 .op (.call (some 89) 143 [(.tmp 86),(.tmp 88)]),
 .op (.nch (some 90) (.tmp 82)),
 .op (.fad 91 2 (.tmp 90)),
 .kp [4,9,89,91],
 .op (.st 2 (.tmp 91) (.tmp 89)),
 .kp [4,9]]
def f126r20 : List I := [.op (.ld 92 (some 11) (.tmp 9)),
 .op (.st 11 (.tmp 4) (.tmp 92)),
 .kp [4]]
def f126c3 : C := (.seq (.reg f126r2) .ret)
def f126c13 : C := (.seq (.reg f126r8) .ret)
def f126c12 : C := (.cond (.tmp 45) f126c13 .skip)
def f126c11 : C := (.seq (.reg f126r7) f126c12)
def f126c10 : C := (.seq (.drt f126r6) f126c11)
def f126c9 : C := (.seq (.reg f126r5) f126c10)
def f126c14 : C := (.reg f126r9)
def f126c8 : C := (.seq (.block 1 f126c9) f126c14)
def f126c7 : C := (.seq (.cond (.tmp 31) .skip (.exit 0)) f126c8)
def f126c6 : C := (.seq (.reg f126r4) f126c7)
def f126c25 : C := (.seq (.reg f126r16) .ret)
def f126c26 : C := (.reg f126r17)
def f126c24 : C := (.seq (.cond (.tmp 73) f126c25 .skip) f126c26)
def f126c23 : C := (.seq (.reg f126r15) f126c24)
def f126c22 : C := (.seq (.drw f126r14) f126c23)
def f126c21 : C := (.seq (.reg f126r13) f126c22)
def f126c27 : C := (.reg f126r18)
def f126c20 : C := (.seq (.block 3 f126c21) f126c27)
def f126c19 : C := (.seq (.cond (.tmp 54) .skip (.exit 2)) f126c20)
def f126c18 : C := (.seq (.reg f126r12) f126c19)
def f126c29 : C := (.seq (.reg f126r20) .ret)
def f126c28 : C := (.seq (.drw f126r19) f126c29)
def f126c17 : C := (.seq (.block 2 (.loop f126c18)) f126c28)
def f126c16 : C := (.seq (.reg f126r11) f126c17)
def f126c15 : C := (.seq (.reg f126r10) f126c16)
def f126c5 : C := (.seq (.block 0 (.loop f126c6)) f126c15)
def f126c4 : C := (.seq (.reg f126r3) f126c5)
def f126c2 : C := (.seq (.cond (.tmp 21) f126c3 .skip) f126c4)
def f126c1 : C := (.seq (.drw f126r1) f126c2)
def f126c0 : C := (.seq (.reg f126r0) f126c1)
theorem f126cmp : cmpF Try.prog Try.f126 [.l [.o 0,.o 1,.kp [0,3,4]],
 .l [.o 0,.o 1,.o 2,.o 3,.o 4,.o 5,.o 6,.o 7,.kp [0,3,4,21]],
 .l [.o 0,.o 1,.o 2,.o 3,.o 4,.o 5,.kp [4]],
 .l [.o 0,.o 1,.o 2,.o 3,.kp [0,3,4,28,29,30]],
 .l [.o 0,.kp [0,3,4,28,29,30,31]],
 .l [.o 0,.o 1,.o 2,.o 3,.kp [0,3,4,6,28,29,30]],
 .t (.one [.o 0,.o 1,.o 2,.o 3,.o 4,.o 5,.o 6] (.alt (.one [.o 7,.o 8,.o 9,.o 10,.o 11,.o 12,.o 13,.kp [0,3,4,7,8,28,29,30]] .nil) (.one [.o 11,.o 7,.o 8,.o 9,.o 10,.o 12,.o 13,.kp [0,3,4,7,8,28,29,30]] .nil))),
 .l [.o 0,.kp [0,3,4,7,28,29,30,45]],
 .l [.o 0,.o 1,.o 2,.kp [4]],
 .l [.o 0,.o 1,.kp [0,3,4,28,29,30]],
 .l [.o 0,.o 1,.o 2,.kp [0,3,4,9]],
 .l [.o 0,.o 1,.o 2,.o 3,.kp [0,3,4,9,51,52,53]],
 .l [.o 0,.kp [0,3,4,9,51,52,53,54]],
 .l [.o 0,.o 1,.o 2,.o 3,.kp [0,3,4,9,11,51,52,53]],
 .l [.o 0,.o 1,.o 2,.o 3,.o 4,.o 5,.o 6,.o 7,.o 8,.o 9,.kp [0,3,4,9,51,52,53,61,62,64,67],.o 10,.o 11,.o 12,.o 13,.o 14,.o 15,.o 16,.kp [0,3,4,9,12,13,51,52,53]],
 .l [.o 0,.o 1,.kp [0,3,4,9,12,13,51,52,53,73]],
 .l [.o 0,.o 1,.o 2,.kp [4]],
 .l [.o 0,.o 1,.o 2,.o 3,.o 4,.o 5,.kp [0,3,4,9,51,52,53]],
 .l [.o 0,.o 1,.kp [0,3,4,9,51,52,53]],
 .l [.o 0,.o 1,.o 2,.o 3,.o 5,.o 6,.x 4,.o 7,.o 8,.o 9,.kp [4,9,89,91],.o 10,.kp [4,9]],
 .l [.o 0,.o 1,.kp [4]]] = some (f126c0,[.cell 4 11]) := by kernel_rfl
theorem f126ok {args : List Value} {h : Heap} {R : Value → Heap → Prop} (hn : args.length ≤ 93) (H : wC Try.prog f126c0 (endW [.cell 4 11] R) (envOf 0 args) h) : CallsH Try.prog 126 args h R :=
 fn_ok2 Try.func126 f126cmp hn H
section
variable {P : Program} {Q : X → Env → Heap → Prop} {σ : Env} {h : Heap}
theorem f126c3_eq : wC P f126c3 Q σ h = (wL P none f126r2 0 (fun σ h => Q .ret σ h) σ h) := rfl
theorem f126c13_eq : wC P f126c13 Q σ h = (wL P none f126r8 0 (fun σ h => Q .ret σ h) σ h) := rfl
theorem f126c12_eq : wC P f126c12 Q σ h = (bd (evO σ (.tmp 45)) fun v => bd (asB v) fun t => br t (wC P f126c13 Q σ h) (Q .normal σ h)) := rfl
theorem f126c11_eq : wC P f126c11 Q σ h = (wL P none f126r7 0 (fun σ h => wC P f126c12 Q σ h) σ h) := rfl
theorem f126c10_eq : wC P f126c10 Q σ h = (drtW P f126r6 (fun σ h => wC P f126c11 Q σ h) σ h) := rfl
theorem f126c9_eq : wC P f126c9 Q σ h = (wL P none f126r5 0 (fun σ h => wC P f126c10 Q σ h) σ h) := rfl
theorem f126c14_eq : wC P f126c14 Q σ h = (wL P none f126r9 0 (fun σ h => Q .normal σ h) σ h) := rfl
theorem f126c8_eq : wC P f126c8 Q σ h = (wC P f126c9 (X.inBlock 1 (X.then (fun σ h => wC P f126c14 Q σ h) Q)) σ h) := rfl
theorem f126c7_eq : wC P f126c7 Q σ h = (bd (evO σ (.tmp 31)) fun v => bd (asB v) fun t => br t (wC P f126c8 Q σ h) (Q (.exit 0) σ h)) := rfl
theorem f126c6_eq : wC P f126c6 Q σ h = (wL P none f126r4 0 (fun σ h => wC P f126c7 Q σ h) σ h) := rfl
theorem f126c25_eq : wC P f126c25 Q σ h = (wL P none f126r16 0 (fun σ h => Q .ret σ h) σ h) := rfl
theorem f126c26_eq : wC P f126c26 Q σ h = (wL P none f126r17 0 (fun σ h => Q .normal σ h) σ h) := rfl
theorem f126c24_eq : wC P f126c24 Q σ h = (bd (evO σ (.tmp 73)) fun v => bd (asB v) fun t => br t (wC P f126c25 (X.then (fun σ h => wC P f126c26 Q σ h) Q) σ h) (wC P f126c26 Q σ h)) := rfl
theorem f126c23_eq : wC P f126c23 Q σ h = (wL P none f126r15 0 (fun σ h => wC P f126c24 Q σ h) σ h) := rfl
theorem f126c22_eq : wC P f126c22 Q σ h = (drwW P f126r14 (fun σ h => wC P f126c23 Q σ h) σ h) := rfl
theorem f126c21_eq : wC P f126c21 Q σ h = (wL P none f126r13 0 (fun σ h => wC P f126c22 Q σ h) σ h) := rfl
theorem f126c27_eq : wC P f126c27 Q σ h = (wL P none f126r18 0 (fun σ h => Q .normal σ h) σ h) := rfl
theorem f126c20_eq : wC P f126c20 Q σ h = (wC P f126c21 (X.inBlock 3 (X.then (fun σ h => wC P f126c27 Q σ h) Q)) σ h) := rfl
theorem f126c19_eq : wC P f126c19 Q σ h = (bd (evO σ (.tmp 54)) fun v => bd (asB v) fun t => br t (wC P f126c20 Q σ h) (Q (.exit 2) σ h)) := rfl
theorem f126c18_eq : wC P f126c18 Q σ h = (wL P none f126r12 0 (fun σ h => wC P f126c19 Q σ h) σ h) := rfl
theorem f126c29_eq : wC P f126c29 Q σ h = (wL P none f126r20 0 (fun σ h => Q .ret σ h) σ h) := rfl
theorem f126c28_eq : wC P f126c28 Q σ h = (drwW P f126r19 (fun σ h => wC P f126c29 Q σ h) σ h) := rfl
theorem f126c17_eq : wC P f126c17 Q σ h = (loopW (wC P f126c18) (X.inBlock 2 (X.then (fun σ h => wC P f126c28 Q σ h) Q)) σ h) := rfl
theorem f126c16_eq : wC P f126c16 Q σ h = (wL P none f126r11 0 (fun σ h => wC P f126c17 Q σ h) σ h) := rfl
theorem f126c15_eq : wC P f126c15 Q σ h = (wL P none f126r10 0 (fun σ h => wC P f126c16 Q σ h) σ h) := rfl
theorem f126c5_eq : wC P f126c5 Q σ h = (loopW (wC P f126c6) (X.inBlock 0 (X.then (fun σ h => wC P f126c15 Q σ h) Q)) σ h) := rfl
theorem f126c4_eq : wC P f126c4 Q σ h = (wL P none f126r3 0 (fun σ h => wC P f126c5 Q σ h) σ h) := rfl
theorem f126c2_eq : wC P f126c2 Q σ h = (bd (evO σ (.tmp 21)) fun v => bd (asB v) fun t => br t (wC P f126c3 (X.then (fun σ h => wC P f126c4 Q σ h) Q) σ h) (wC P f126c4 Q σ h)) := rfl
theorem f126c1_eq : wC P f126c1 Q σ h = (drwW P f126r1 (fun σ h => wC P f126c2 Q σ h) σ h) := rfl
theorem f126c0_eq : wC P f126c0 Q σ h = (wL P none f126r0 0 (fun σ h => wC P f126c1 Q σ h) σ h) := rfl
end
def f127r0 : List I := [.op (.box 3 43 (.tmp 1)),
 .op (.new 4 47 [.int .i64 0,.slice none 0 0,.int .i64 0,.int .i64 0,.int .i64 0,.int .i64 0,.int .i64 0,.int .i64 0,.int .i64 0,.int .i64 0,.bool false]),
 .kp [0,3,4]]
def f127r1 : L := (.one [.op (.mov 14 (.tmp 0)),
 .op (.nch (some 15) (.tmp 14)),
 .op (.fad 16 8 (.tmp 15)),
 .op (.ld 17 none (.tmp 16)),
 .op (.fad 18 4 (.tmp 3)),
 .op (.ld 19 (some 4) (.tmp 18))] (.alt (.one [.op (.call (some 20) 63 [(.tmp 17),(.tmp 19)]),
 .op (.mov 13 (.tmp 20)),
 .op (.ext 21 (.tmp 13) 0),
 .op (.ext 22 (.tmp 13) 1),
 .op (.new 5 126 [.int .i64 0,.int .i64 0,.int .i64 0,.int .i64 0,.int .i64 0,.int .i64 0,.bool false]),
 .op (.st 7 (.tmp 5) (.tmp 21)),
 .op (.mov 6 (.tmp 22)),
 .kp [0,3,4,5,6]] .nil) (.one [.op (.new 5 126 [.int .i64 0,.int .i64 0,.int .i64 0,.int .i64 0,.int .i64 0,.int .i64 0,.bool false]),
 .op (.call (some 20) 63 [(.tmp 17),(.tmp 19)]),
 .op (.mov 13 (.tmp 20)),
 .op (.ext 21 (.tmp 13) 0),
 .op (.ext 22 (.tmp 13) 1),
 .op (.st 7 (.tmp 5) (.tmp 21)),
 .op (.mov 6 (.tmp 22)),
 .kp [0,3,4,5,6]] .nil)))
def f127r2 : List I := [.op (.mov 23 (.tmp 6)),
 .kp [0,3,4,5,23]]
def f127r3 : List I := [.op (.fad 24 6 (.tmp 5)),
 .op (.ld 25 none (.tmp 24)),
 .op (.bld 26 [.int .i64 0,.slice none 0 0,.int .i64 0,.int .i64 0,.int .i64 0,.int .i64 0,.int .i64 0,.int .i64 0,.int .i64 0,.int .i64 0,.bool false] [(0,1,(.const (.int .i64 26))),(10,1,(.tmp 25))]),
 .op (.st 11 (.tmp 4) (.tmp 26)),
 .kp [4]]
def f127r4 : List I := [.op (.mov 28 (.tmp 0)),
 .op (.nch (some 29) (.tmp 28)),
 .op (.fad 30 6 (.tmp 29)),
 .op (.ld 31 none (.tmp 30)),
 .op (.fad 32 4 (.tmp 3)),
 .op (.ld 33 (some 4) (.tmp 32)),
 .op (.call (some 34) 38 [(.tmp 31),(.tmp 33)]),
 .op (.mov 27 (.tmp 34)),
 .kp [0,3,4,27]]
def f127r5 : List I := [.op (.bld 35 [.int .i64 0,.slice none 0 0,.int .i64 0,.int .i64 0,.int .i64 0,.int .i64 0,.int .i64 0,.int .i64 0,.int .i64 0,.int .i64 0,.bool false] []),
 .op (.st 11 (.tmp 4) (.tmp 35)),
 .kp [4]]
def f127r6 : List I := [.op (.fad 37 8 (.tmp 3)),
 .op (.fad 38 0 (.tmp 37)),
 .op (.ld 39 none (.tmp 38)),
 .op (.mov 40 (.tmp 0)),
 .op (.nch (some 41) (.tmp 40)),
 .op (.fad 42 4 (.tmp 41)),
 .op (.ld 43 none (.tmp 42)),
 .op (.bin 44 .leq (.tmp 39) (.tmp 43)),
 .op (.mov 36 (.tmp 44)),
 .kp [0,3,4,36]]
def f127r7 : List I := [.op (.mov 45 (.tmp 0)),
 .op (.nch (some 46) (.tmp 45)),
 .op (.fad 47 4 (.tmp 46)),
 .op (.ld 48 none (.tmp 47)),
 .op (.bld 49 [.int .i64 0,.slice none 0 0,.int .i64 0,.int .i64 0,.int .i64 0,.int .i64 0,.int .i64 0,.int .i64 0,.int .i64 0,.int .i64 0,.bool false] [(0,1,(.const (.int .i64 21))),(9,1,(.tmp 48))]),
 .op (.st 11 (.tmp 4) (.tmp 49)),
 .kp [4]]
def f127r8 : List I := [.op (.fad 51 8 (.tmp 3)),
 .op (.ld 52 (some 2) (.tmp 51)),
 .op (.mov 53 (.tmp 0)),
 .op (.nch (some 54) (.tmp 53)),
 .op (.fad 55 2 (.tmp 54)),
 .op (.ld 56 (some 2) (.tmp 55)),
 .op (.call (some 57) 90 [(.tmp 52),(.tmp 56)]),
 .op (.mov 50 (.tmp 57)),
 .kp [0,3,4,50]]
def f127r9 : List I := [.op (.mov 58 (.tmp 0)),
 .op (.nch (some 59) (.tmp 58)),
 .op (.fad 60 2 (.tmp 59)),
 .op (.ld 61 (some 2) (.tmp 60)),
 .op (.bld 62 [.int .i64 0,.slice none 0 0,.int .i64 0,.int .i64 0,.int .i64 0,.int .i64 0,.int .i64 0,.int .i64 0,.int .i64 0,.int .i64 0,.bool false] [(0,1,(.const (.int .i64 22))),(7,2,(.tmp 61))]),
 .op (.st 11 (.tmp 4) (.tmp 62)),
 .kp [4]]
def f127r10 : List I := [.op (.fad 63 13 (.tmp 3)),
 .op (.ld 64 none (.tmp 63)),
 .op (.len 65 true (.tmp 64)),
 .op (.mov 66 (.const (.int .i64 0))),
 .kp [0,3,4,64,65,66]]
def f127r11 : List I := [.op (.bin 67 .lss (.tmp 66) (.tmp 65)),
 .kp [0,3,4,64,65,66,67]]
def f127r12 : List I := [.op (.iad 68 3 (.tmp 64) (.tmp 66)),
 .op (.ld 69 (some 3) (.tmp 68)),
 .op (.new 8 70 [.string ⟨#[]⟩,.bool false,.string ⟨#[]⟩]),
 .op (.st 3 (.tmp 8) (.tmp 69)),
 .kp [0,3,4,8,64,65,66]]
def f127r13 : L := (.one [.op (.mov 71 (.tmp 0)),
 .op (.nch (some 72) (.tmp 71)),
 .op (.fad 73 6 (.tmp 72)),
 .op (.ld 74 none (.tmp 73)),
 .op (.fad 75 0 (.tmp 8)),
 .op (.ld 76 none (.tmp 75))] (.alt (.one [.op (.call (some 77) 44 [(.tmp 74),(.tmp 76)]),
 .op (.mov 70 (.tmp 77)),
 .op (.ext 78 (.tmp 70) 0),
 .op (.ext 79 (.tmp 70) 1),
 .op (.new 9 72 [.int .i64 0,.int .i64 0,.int .i64 0,.int .i64 0,.int .i64 0,.int .i64 0,.int .i64 0,.bool false,.string ⟨#[]⟩]),
 .op (.st 9 (.tmp 9) (.tmp 78)),
 .op (.mov 10 (.tmp 79)),
 .kp [0,3,4,9,10,64,65,66]] .nil) (.one [.op (.new 9 72 [.int .i64 0,.int .i64 0,.int .i64 0,.int .i64 0,.int .i64 0,.int .i64 0,.int .i64 0,.bool false,.string ⟨#[]⟩]),
 .op (.call (some 77) 44 [(.tmp 74),(.tmp 76)]),
 .op (.mov 70 (.tmp 77)),
 .op (.ext 78 (.tmp 70) 0),
 .op (.ext 79 (.tmp 70) 1),
 .op (.st 9 (.tmp 9) (.tmp 78)),
 .op (.mov 10 (.tmp 79)),
 .kp [0,3,4,9,10,64,65,66]] .nil)))
def f127r14 : List I := [.op (.mov 80 (.tmp 10)),
 .kp [0,3,4,9,64,65,66,80]]
def f127r15 : List I := [.op (.ld 81 (some 9) (.tmp 9)),
 .op (.call (some 82) 142 [(.tmp 81)]),
 .op (.st 11 (.tmp 4) (.tmp 82)),
 .kp [4]]
def f127r16 : List I := [.op (.bin 83 .add (.tmp 66) (.const (.int .i64 1))),
 .op (.mov 66 (.tmp 83)),
 .kp [0,3,4,64,65,66]]
def f127r17 : List I := [.op (.fad 84 13 (.tmp 3)),
 .op (.ld 85 none (.tmp 84)),
 .op (.len 86 true (.tmp 85)),
 .op (.mov 87 (.const (.int .i64 0))),
 .kp [0,3,4,85,86,87]]
def f127r18 : List I := [.op (.bin 88 .lss (.tmp 87) (.tmp 86)),
 .kp [0,3,4,85,86,87,88]]
def f127r19 : List I := [.op (.iad 89 3 (.tmp 85) (.tmp 87)),
 .op (.ld 90 (some 3) (.tmp 89)),
 .op (.new 12 70 [.string ⟨#[]⟩,.bool false,.string ⟨#[]⟩]),
 .op (.st 3 (.tmp 12) (.tmp 90)),
 .kp [0,3,4,12,85,86,87]]
def f127r20 : List I := [.op (.mov 91 (.tmp 0)),
 .op (.mov 92 (.tmp 0)),
 .op (.nch (some 93) (.tmp 92)),
 .op (.fad 94 6 (.tmp 93)),
 .op (.ld 96 (some 3) (.tmp 12)),
 .op (.fad 97 4 (.tmp 3)),
 .op (.ld 98 (some 4) (.tmp 97)),
 .op (.fad 99 3 (.tmp 3)),
 .op (.ld 100 none (.tmp 99)),
 .op (.fad 101 8 (.tmp 3)),
 .kp [0,3,4,85,86,87,91,94,96,98,100,101],
 .op (.ld 102 (some 2) (.tmp 101)),
 .op (.bld 103 [.int .i64 0,.int .i64 0,.int .i64 0,.int .i64 0,.int .i64 0,.int .i64 0,.int .i64 0,.bool false,.string ⟨#[]⟩] [(0,4,(.tmp 98)),(4,1,(.tmp 100)),(5,2,(.tmp 102))]),
 .opn (.ld 95 none (.tmp 94)),
 .op (.call (some 104) 40 [(.tmp 95),(.tmp 96),(.tmp 103)]),
 .op (.nch (some 105) (.tmp 91)),
 .op (.fad 106 6 (.tmp 105)),
 .op (.st 1 (.tmp 106) (.tmp 104)),
 .kp [0,3,4,85,86,87]]
def f127r21 : List I := [.op (.bin 107 .add (.tmp 87) (.const (.int .i64 1))),
 .op (.mov 87 (.tmp 107)),
 .kp [0,3,4,85,86,87]]
def f127r22 : List I := [.op (.bld 108 [.int .i64 0,.slice none 0 0,.int .i64 0,.int .i64 0,.int .i64 0,.int .i64 0,.int .i64 0,.int .i64 0,.int .i64 0,.int .i64 0,.bool false] []),
 .op (.st 11 (.tmp 4) (.tmp 108)),
 .kp [4]]
def f127c4 : C := (.seq (.reg f127r3) .ret)
def f127c8 : C := (.seq (.reg f127r5) .ret)
def f127c11 : C := (.seq (.reg f127r7) .ret)
def f127c14 : C := (.seq (.reg f127r9) .ret)
def f127c13 : C := (.cond (.tmp 50) f127c14 .skip)
def f127c12 : C := (.seq (.drw f127r8) f127c13)
def f127c10 : C := (.cond (.tmp 36) f127c11 f127c12)
def f127c9 : C := (.seq (.drw f127r6) f127c10)
def f127c7 : C := (.cond (.tmp 27) f127c8 f127c9)
def f127c6 : C := (.seq (.drw f127r4) f127c7)
def f127c24 : C := (.seq (.reg f127r15) .ret)
def f127c23 : C := (.cond (.tmp 80) f127c24 .skip)
def f127c22 : C := (.seq (.reg f127r14) f127c23)
def f127c21 : C := (.seq (.drt f127r13) f127c22)
def f127c20 : C := (.seq (.reg f127r12) f127c21)
def f127c25 : C := (.reg f127r16)
def f127c19 : C := (.seq (.block 2 f127c20) f127c25)
def f127c18 : C := (.seq (.cond (.tmp 67) .skip (.exit 1)) f127c19)
def f127c17 : C := (.seq (.reg f127r11) f127c18)
def f127c32 : C := (.drw f127r20)
def f127c31 : C := (.seq (.reg f127r19) f127c32)
def f127c33 : C := (.reg f127r21)
def f127c30 : C := (.seq (.block 4 f127c31) f127c33)
def f127c29 : C := (.seq (.cond (.tmp 88) .skip (.exit 3)) f127c30)
def f127c28 : C := (.seq (.reg f127r18) f127c29)
def f127c34 : C := (.seq (.reg f127r22) .ret)
def f127c27 : C := (.seq (.block 3 (.loop f127c28)) f127c34)
def f127c26 : C := (.seq (.reg f127r17) f127c27)
def f127c16 : C := (.seq (.block 1 (.loop f127c17)) f127c26)
def f127c15 : C := (.seq (.reg f127r10) f127c16)
def f127c5 : C := (.seq (.block 0 f127c6) f127c15)
def f127c3 : C := (.seq (.cond (.tmp 23) f127c4 .skip) f127c5)
def f127c2 : C := (.seq (.reg f127r2) f127c3)
def f127c1 : C := (.seq (.drt f127r1) f127c2)
def f127c0 : C := (.seq (.reg f127r0) f127c1)
theorem f127cmp : cmpF Try.prog Try.f127 [.l [.o 0,.o 1,.kp [0,3,4]],
 .t (.one [.o 0,.o 1,.o 2,.o 3,.o 4,.o 5] (.alt (.one [.o 6,.o 7,.o 8,.o 9,.o 10,.o 11,.o 12,.kp [0,3,4,5,6]] .nil) (.one [.o 10,.o 6,.o 7,.o 8,.o 9,.o 11,.o 12,.kp [0,3,4,5,6]] .nil))),
 .l [.o 0,.kp [0,3,4,5,23]],
 .l [.o 0,.o 1,.o 2,.o 3,.kp [4]],
 .l [.o 0,.o 1,.o 2,.o 3,.o 4,.o 5,.o 6,.o 7,.kp [0,3,4,27]],
 .l [.o 0,.o 1,.kp [4]],
 .l [.o 0,.o 1,.o 2,.o 3,.o 4,.o 5,.o 6,.o 7,.o 8,.kp [0,3,4,36]],
 .l [.o 0,.o 1,.o 2,.o 3,.o 4,.o 5,.kp [4]],
 .l [.o 0,.o 1,.o 2,.o 3,.o 4,.o 5,.o 6,.o 7,.kp [0,3,4,50]],
 .l [.o 0,.o 1,.o 2,.o 3,.o 4,.o 5,.kp [4]],
 .l [.o 0,.o 1,.o 2,.o 3,.kp [0,3,4,64,65,66]],
 .l [.o 0,.kp [0,3,4,64,65,66,67]],
 .l [.o 0,.o 1,.o 2,.o 3,.kp [0,3,4,8,64,65,66]],
 .t (.one [.o 0,.o 1,.o 2,.o 3,.o 4,.o 5] (.alt (.one [.o 6,.o 7,.o 8,.o 9,.o 10,.o 11,.o 12,.kp [0,3,4,9,10,64,65,66]] .nil) (.one [.o 10,.o 6,.o 7,.o 8,.o 9,.o 11,.o 12,.kp [0,3,4,9,10,64,65,66]] .nil))),
 .l [.o 0,.kp [0,3,4,9,64,65,66,80]],
 .l [.o 0,.o 1,.o 2,.kp [4]],
 .l [.o 0,.o 1,.kp [0,3,4,64,65,66]],
 .l [.o 0,.o 1,.o 2,.o 3,.kp [0,3,4,85,86,87]],
 .l [.o 0,.kp [0,3,4,85,86,87,88]],
 .l [.o 0,.o 1,.o 2,.o 3,.kp [0,3,4,12,85,86,87]],
 .l [.o 0,.o 1,.o 2,.o 3,.o 5,.o 6,.o 7,.o 8,.o 9,.o 10,.kp [0,3,4,85,86,87,91,94,96,98,100,101],.o 11,.o 12,.x 4,.o 13,.o 14,.o 15,.o 16,.kp [0,3,4,85,86,87]],
 .l [.o 0,.o 1,.kp [0,3,4,85,86,87]],
 .l [.o 0,.o 1,.kp [4]]] = some (f127c0,[.cell 4 11]) := by kernel_rfl
theorem f127ok {args : List Value} {h : Heap} {R : Value → Heap → Prop} (hn : args.length ≤ 109) (H : wC Try.prog f127c0 (endW [.cell 4 11] R) (envOf 0 args) h) : CallsH Try.prog 127 args h R :=
 fn_ok2 Try.func127 f127cmp hn H
section
variable {P : Program} {Q : X → Env → Heap → Prop} {σ : Env} {h : Heap}
theorem f127c4_eq : wC P f127c4 Q σ h = (wL P none f127r3 0 (fun σ h => Q .ret σ h) σ h) := rfl
theorem f127c8_eq : wC P f127c8 Q σ h = (wL P none f127r5 0 (fun σ h => Q .ret σ h) σ h) := rfl
theorem f127c11_eq : wC P f127c11 Q σ h = (wL P none f127r7 0 (fun σ h => Q .ret σ h) σ h) := rfl
theorem f127c14_eq : wC P f127c14 Q σ h = (wL P none f127r9 0 (fun σ h => Q .ret σ h) σ h) := rfl
theorem f127c13_eq : wC P f127c13 Q σ h = (bd (evO σ (.tmp 50)) fun v => bd (asB v) fun t => br t (wC P f127c14 Q σ h) (Q .normal σ h)) := rfl
theorem f127c12_eq : wC P f127c12 Q σ h = (drwW P f127r8 (fun σ h => wC P f127c13 Q σ h) σ h) := rfl
theorem f127c10_eq : wC P f127c10 Q σ h = (bd (evO σ (.tmp 36)) fun v => bd (asB v) fun t => br t (wC P f127c11 Q σ h) (wC P f127c12 Q σ h)) := rfl
theorem f127c9_eq : wC P f127c9 Q σ h = (drwW P f127r6 (fun σ h => wC P f127c10 Q σ h) σ h) := rfl
theorem f127c7_eq : wC P f127c7 Q σ h = (bd (evO σ (.tmp 27)) fun v => bd (asB v) fun t => br t (wC P f127c8 Q σ h) (wC P f127c9 Q σ h)) := rfl
theorem f127c6_eq : wC P f127c6 Q σ h = (drwW P f127r4 (fun σ h => wC P f127c7 Q σ h) σ h) := rfl
theorem f127c24_eq : wC P f127c24 Q σ h = (wL P none f127r15 0 (fun σ h => Q .ret σ h) σ h) := rfl
theorem f127c23_eq : wC P f127c23 Q σ h = (bd (evO σ (.tmp 80)) fun v => bd (asB v) fun t => br t (wC P f127c24 Q σ h) (Q .normal σ h)) := rfl
theorem f127c22_eq : wC P f127c22 Q σ h = (wL P none f127r14 0 (fun σ h => wC P f127c23 Q σ h) σ h) := rfl
theorem f127c21_eq : wC P f127c21 Q σ h = (drtW P f127r13 (fun σ h => wC P f127c22 Q σ h) σ h) := rfl
theorem f127c20_eq : wC P f127c20 Q σ h = (wL P none f127r12 0 (fun σ h => wC P f127c21 Q σ h) σ h) := rfl
theorem f127c25_eq : wC P f127c25 Q σ h = (wL P none f127r16 0 (fun σ h => Q .normal σ h) σ h) := rfl
theorem f127c19_eq : wC P f127c19 Q σ h = (wC P f127c20 (X.inBlock 2 (X.then (fun σ h => wC P f127c25 Q σ h) Q)) σ h) := rfl
theorem f127c18_eq : wC P f127c18 Q σ h = (bd (evO σ (.tmp 67)) fun v => bd (asB v) fun t => br t (wC P f127c19 Q σ h) (Q (.exit 1) σ h)) := rfl
theorem f127c17_eq : wC P f127c17 Q σ h = (wL P none f127r11 0 (fun σ h => wC P f127c18 Q σ h) σ h) := rfl
theorem f127c32_eq : wC P f127c32 Q σ h = (drwW P f127r20 (fun σ h => Q .normal σ h) σ h) := rfl
theorem f127c31_eq : wC P f127c31 Q σ h = (wL P none f127r19 0 (fun σ h => wC P f127c32 Q σ h) σ h) := rfl
theorem f127c33_eq : wC P f127c33 Q σ h = (wL P none f127r21 0 (fun σ h => Q .normal σ h) σ h) := rfl
theorem f127c30_eq : wC P f127c30 Q σ h = (wC P f127c31 (X.inBlock 4 (X.then (fun σ h => wC P f127c33 Q σ h) Q)) σ h) := rfl
theorem f127c29_eq : wC P f127c29 Q σ h = (bd (evO σ (.tmp 88)) fun v => bd (asB v) fun t => br t (wC P f127c30 Q σ h) (Q (.exit 3) σ h)) := rfl
theorem f127c28_eq : wC P f127c28 Q σ h = (wL P none f127r18 0 (fun σ h => wC P f127c29 Q σ h) σ h) := rfl
theorem f127c34_eq : wC P f127c34 Q σ h = (wL P none f127r22 0 (fun σ h => Q .ret σ h) σ h) := rfl
theorem f127c27_eq : wC P f127c27 Q σ h = (loopW (wC P f127c28) (X.inBlock 3 (X.then (fun σ h => wC P f127c34 Q σ h) Q)) σ h) := rfl
theorem f127c26_eq : wC P f127c26 Q σ h = (wL P none f127r17 0 (fun σ h => wC P f127c27 Q σ h) σ h) := rfl
theorem f127c16_eq : wC P f127c16 Q σ h = (loopW (wC P f127c17) (X.inBlock 1 (X.then (fun σ h => wC P f127c26 Q σ h) Q)) σ h) := rfl
theorem f127c15_eq : wC P f127c15 Q σ h = (wL P none f127r10 0 (fun σ h => wC P f127c16 Q σ h) σ h) := rfl
theorem f127c5_eq : wC P f127c5 Q σ h = (wC P f127c6 (X.inBlock 0 (X.then (fun σ h => wC P f127c15 Q σ h) Q)) σ h) := rfl
theorem f127c3_eq : wC P f127c3 Q σ h = (bd (evO σ (.tmp 23)) fun v => bd (asB v) fun t => br t (wC P f127c4 (X.then (fun σ h => wC P f127c5 Q σ h) Q) σ h) (wC P f127c5 Q σ h)) := rfl
theorem f127c2_eq : wC P f127c2 Q σ h = (wL P none f127r2 0 (fun σ h => wC P f127c3 Q σ h) σ h) := rfl
theorem f127c1_eq : wC P f127c1 Q σ h = (drtW P f127r1 (fun σ h => wC P f127c2 Q σ h) σ h) := rfl
theorem f127c0_eq : wC P f127c0 Q σ h = (wL P none f127r0 0 (fun σ h => wC P f127c1 Q σ h) σ h) := rfl
end
end Go.Proofs.Ytefghfgmkndikaa
namespace Go.Proofs.Ytefghfgmkndikaa
open Go Go.AX
theorem scanL_len (t : Stamp) (most : Int) (xs : List Cell) (h : (scanL t most xs []).2 = 0) : (scanL t most xs []).1 = [] ∨ ((scanL t most xs []).1.length : Int) ≤ most := by
 rw [scanL_eq] at h ⊢
 split
 ·rename_i h1
  rcases h1 with h1 | h1
  ·left; simp [h1]
  ·right; simpa using h1
 ·left; rfl
theorem flat_len (ps : List Pai) : (ps.flatMap ePai).length = ps.length * 2 := flatMap_length ePai_len ps
theorem own_news {lo : Nat} {h : Heap} {a : Option Addr} {n c : Nat} {xs : List Value} (O : Own lo h 99 2 a n c xs) : n = 0 ∨ ∃ b q,a = some ⟨b,q,none⟩ ∧ Row h b q xs := by
 rcases Nat.eq_zero_or_pos n with h0 | h0
 ·exact .inl h0
 ·obtain ⟨g,h1,_,h2⟩ := O.row h0
  exact .inr ⟨g,0,h1,h2⟩
theorem read_ok {h0 h hc : Heap} {bp lo n : Nat} {pv : PrV} {p : Prt} {cv : CmV} {c : Cmd} {B : Nat → Prop} (I : InP h0 h bp pv p lo hc) (C : CmR B h cv c) (g : SzP n p) (hn : n ≤ 900000) (hs : c.spans.length ≤ big) {R : Value → Heap → Prop}
  (hR : ∀ pv' rv h',OutP h0 h h' bp pv lo hc pv' (readP p c).1 rv (readP p c).2 → R (.agg (eRp rv).toArray) h') : CallsH Try.prog 126 [ptr bp 0,.agg (eCm cv).toArray] h R := by
 have hbig : big = 1000000 := rfl
 have hps := I.o.s
 have hcs := C.s
 have hz := I.sizes
 have hcn := I.o.cn
 refine f126ok (by simp) ?_
 (try simp (maxSteps:=1000000) (disch:=first|exact Lb rfl|omega) only [AXS,AXB,J.dst,reduceIte,Z1,Z2,Z3,Z4,Z5]); rw [f126c0_eq]; (try simp (maxSteps:=1000000) (disch:=first|exact Lb rfl|omega) only [AXS,AXB,J.dst,reduceIte,Z1,Z2,Z3,Z4,Z5,f126r0])
 refine wL_boxN rfl ?_; rintro b1 h1 e1 s1 hb1 (B1 : Blk _ _ _ (eCm cv))
 refine wL_newN ?_; rintro b2 h2 e2 s2 hb2 B2
 replace B1 := B1.ext e2
 have e02 := e1.trans e2
 have I2 := I.exts e02
 have Bp := I2.b
 try simp (maxSteps:=1000000) (disch:=first|exact Lb rfl|omega) only [AXS,AXB,J.dst,reduceIte,Z1,Z2,Z3,Z4,Z5]
 rw [f126c1_eq]
 refine drw_lt ?_
 simp (maxSteps:=1000000) (disch:=first|exact Lb rfl|omega) only [AXS,AXB,J.dst,reduceIte,Z1,Z2,Z3,Z4,Z5,f126r1,B1.cel,eCm,hcs,Bp.cel,ePr,hps]
 refine ⟨by omega,by omega,?_⟩
 (try simp (maxSteps:=1000000) (disch:=first|exact Lb rfl|omega) only [AXS,AXB,J.dst,reduceIte,Z1,Z2,Z3,Z4,Z5]); rw [f126c2_eq]; (try simp (maxSteps:=1000000) (disch:=first|exact Lb rfl|omega) only [AXS,AXB,J.dst,reduceIte,Z1,Z2,Z3,Z4,Z5])
 refine ⟨fun hh => ?_,fun hh => ?_⟩
 ·have hl : readP p c = (p,⟨{ okS with err := 24,wall := p.s.low },[]⟩) := by unfold readP; rw [if_pos (of_decide_eq_true hh)]
  (try simp (maxSteps:=1000000) (disch:=first|exact Lb rfl|omega) only [AXS,AXB,J.dst,reduceIte,Z1,Z2,Z3,Z4,Z5]); rw [f126c3_eq]; (try simp (maxSteps:=1000000) (disch:=first|exact Lb rfl|omega) only [AXS,AXB,J.dst,reduceIte,Z1,Z2,Z3,Z4,Z5,f126r2,Bp.cel,ePr,hps])
  refine wL_stN rfl rfl rfl B2 (by decide) (eRp_one ⟨{ okS with err := 24,wall := p.s.low },none,0,0⟩) ?_
  rintro h3 u3 (B3 : Blk _ _ _ (eRp ⟨{ okS with err := 24,wall := p.s.low },none,0,0⟩))
  simp (maxSteps:=1000000) (disch:=first|exact Lb rfl|omega) only [AXS,AXB,J.dst,reduceIte,Z1,Z2,Z3,Z4,Z5,B3.rd,eRp]
  have := hR pv ⟨{ okS with err := 24,wall := p.s.low },none,0,0⟩ h3 (by rw [hl]; exact OutP.same I e02 (by omega) u3 _)
  exact this
 ·have hlow : ¬ c.s.at_.wall < p.s.low := of_decide_eq_false hh
  (try simp (maxSteps:=1000000) (disch:=first|exact Lb rfl|omega) only [AXS,AXB,J.dst,reduceIte,Z1,Z2,Z3,Z4,Z5]); rw [f126c4_eq]; (try simp (maxSteps:=1000000) (disch:=first|exact Lb rfl|omega) only [AXS,AXB,J.dst,reduceIte,Z1,Z2,Z3,Z4,Z5,f126r3,B1.cel,eCm,C.sn])
  rw [f126c5_eq]
  refine loop_in (fun n σ h' => Ext h2 h' ∧ ∃ k : Nat,k + n = c.spans.length ∧ (∀ j s,j < k → c.spans[j]? = some s → (blocksL c.s.at_ (cellsIn p s)).2 = false) ∧
   σ = [(0,ptr bp 0),(3,ptr b1 0),(4,ptr b2 0),(28,.slice cv.sa c.spans.length cv.sc),(29,vi c.spans.length),(30,vi k)]) c.spans.length ⟨Ext.refl _,0,by omega,by intros; omega,rfl⟩ ?_
  rintro m σ h3 ⟨e3,k,hk,hnb,rfl⟩ Q' hnx hex hrt _
  (try simp (maxSteps:=1000000) (disch:=first|exact Lb rfl|omega) only [AXS,AXB,J.dst,reduceIte,Z1,Z2,Z3,Z4,Z5]); rw [f126c6_eq]; (try simp (maxSteps:=1000000) (disch:=first|exact Lb rfl|omega) only [AXS,AXB,J.dst,reduceIte,Z1,Z2,Z3,Z4,Z5,f126r4]); rw [f126c7_eq]; (try simp (maxSteps:=1000000) (disch:=first|exact Lb rfl|omega) only [AXS,AXB,J.dst,reduceIte,Z1,Z2,Z3,Z4,Z5])
  refine ⟨fun hh => ?_,fun hh => ?_⟩
  ·have hkl : k < c.spans.length := by have := of_decide_eq_true hh; omega
   obtain ⟨s,hx⟩ := get_ex hkl
   obtain ⟨b',o,hsa,_,hrow⟩ := (C.spans.ext (e02.trans e3)).elem eSpn_len hx
   (try simp (maxSteps:=1000000) (disch:=first|exact Lb rfl|omega) only [AXS,AXB,J.dst,reduceIte,Z1,Z2,Z3,Z4,Z5]); rw [f126c8_eq]; (try simp (maxSteps:=1000000) (disch:=first|exact Lb rfl|omega) only [AXS,AXB,J.dst,reduceIte,Z1,Z2,Z3,Z4,Z5,row_spn hrow,hsa]); rw [f126c9_eq]; (try simp (maxSteps:=1000000) (disch:=first|exact Lb rfl|omega) only [AXS,AXB,J.dst,reduceIte,Z1,Z2,Z3,Z4,Z5,f126r5,row_spn hrow,hsa])
   refine ⟨by omega,by omega,?_⟩
   refine wL_newN ?_; rintro b5 h5 e5 s5 hb5 B5
   try simp (maxSteps:=1000000) (disch:=first|exact Lb rfl|omega) only [AXS,AXB,J.dst,reduceIte,Z1,Z2,Z3,Z4,Z5]
   refine wL_stN rfl rfl rfl B5 (by decide) (fun v hv => by simp only [eSpn,cells_agg,List.mem_toArray,List.mem_cons,List.not_mem_nil,or_false] at hv; rcases hv with rfl | rfl <;> rfl) ?_
   rintro h6 u6 (B6 : Blk _ _ _ (eSpn s))
   try simp (maxSteps:=1000000) (disch:=first|exact Lb rfl|omega) only [AXS,AXB,J.dst,reduceIte,Z1,Z2,Z3,Z4,Z5]
   rw [f126c10_eq]
   refine drt_lt ?_
   simp only [f126r6,wT_one,wT_alt,wT_nil]
   have e36 := u6.ext e5 (by omega)
   have I6 := I2.exts (e3.trans e36)
   have Bp6 := I6.b
   have C6 := B1.ext (e3.trans e36)
   simp (maxSteps:=1000000) (disch:=first|exact Lb rfl|omega) only [AXS,AXB,J.dst,reduceIte,Z1,Z2,Z3,Z4,Z5,Bp6.cel,ePr,B6.rd,eSpn,C6.rd,eCm,hcn,hcs]
   have z3 := e3.size
   have z5 := e36.size
   have z6 := u6.size
   have z1 := e02.size
   refine ⟨by omega,by omega,by omega,?_⟩
   generalize hbl : blocksL c.s.at_ (cellsIn p s) = bl
   have app : ∀ h8 b7,Ext h6 h8 → Blk h8 b7 72 (eLck bl.1) → h6.size ≤ b7 → wC Try.prog f126c11 (X.inBlock 1 (X.then (fun σ h => wC Try.prog f126c14 Q' σ h) Q'))
     [(0,ptr bp 0),(3,ptr b1 0),(4,ptr b2 0),(7,ptr b7 0),(8,.bool bl.2),(28,.slice (some ⟨b',o,none⟩) c.spans.length cv.sc),(29,vi c.spans.length),(30,vi k)] h8 := by
    intro h8 b7 e68 B7 hb7
    have e28 := (e3.trans e36).trans e68
    (try simp (maxSteps:=1000000) (disch:=first|exact Lb rfl|omega) only [AXS,AXB,J.dst,reduceIte,Z1,Z2,Z3,Z4,Z5]); rw [f126c11_eq]; (try simp (maxSteps:=1000000) (disch:=first|exact Lb rfl|omega) only [AXS,AXB,J.dst,reduceIte,Z1,Z2,Z3,Z4,Z5,f126r7]); rw [f126c12_eq]; (try simp (maxSteps:=1000000) (disch:=first|exact Lb rfl|omega) only [AXS,AXB,J.dst,reduceIte,Z1,Z2,Z3,Z4,Z5])
    refine ⟨fun h11 => ?_,fun h11 => ?_⟩
    ·(try simp (maxSteps:=1000000) (disch:=first|exact Lb rfl|omega) only [AXS,AXB,J.dst,reduceIte,Z1,Z2,Z3,Z4,Z5]); rw [f126c13_eq]; (try simp (maxSteps:=1000000) (disch:=first|exact Lb rfl|omega) only [AXS,AXB,J.dst,reduceIte,Z1,Z2,Z3,Z4,Z5,f126r8,B7.rd,eLck])
     refine locked_ok bl.1 _ ?_
     intro h9 e9
     refine ⟨trivial,?_⟩
     try simp (maxSteps:=1000000) (disch:=first|exact Lb rfl|omega) only [AXS,AXB,J.dst,reduceIte,Z1,Z2,Z3,Z4,Z5]
     have C2 := (B2.ext e28).ext e9
     refine wL_stN rfl rfl rfl C2 (by decide) (eRp_one ⟨(lockedR bl.1).s,none,0,0⟩) ?_
     rintro h10 u10 (B10 : Blk _ _ _ (eRp ⟨(lockedR bl.1).s,none,0,0⟩))
     try simp (maxSteps:=1000000) (disch:=first|exact Lb rfl|omega) only [AXS,AXB,J.dst,reduceIte,Z1,Z2,Z3,Z4,Z5]
     refine hrt _ _ ?_
     simp (maxSteps:=1000000) (disch:=first|exact Lb rfl|omega) only [AXS,AXB,J.dst,reduceIte,Z1,Z2,Z3,Z4,Z5,B10.rd,eRp]
     have hl : readP p c = (p,lockedR bl.1) := by
      unfold readP
      rw [if_neg hlow,findIdx_some hx (by rw [hbl]; exact h11) hnb]
      simp only [hbl]
     have := hR pv ⟨(lockedR bl.1).s,none,0,0⟩ h10 (by rw [hl]; exact OutP.same I (e02.trans (e28.trans e9)) (by omega) u10 _)
     exact this
    ·(try simp (maxSteps:=1000000) (disch:=first|exact Lb rfl|omega) only [AXS,AXB,J.dst,reduceIte,Z1,Z2,Z3,Z4,Z5]); rw [f126c14_eq]; (try simp (maxSteps:=1000000) (disch:=first|exact Lb rfl|omega) only [AXS,AXB,J.dst,reduceIte,Z1,Z2,Z3,Z4,Z5,f126r9])
     rw [i64_wrap (by omega) (by omega)]
     refine hnx (m - 1) _ _ (by omega) ⟨e28,k + 1,by omega,?_,by rw [hsa]; rfl⟩
     intro j s' hj hs'
     rcases Nat.lt_or_ge j k with hlt | hge
     ·exact hnb j s' hlt hs'
     ·have : j = k := by omega
      subst this
      rw [hx] at hs'; cases hs'; rw [hbl]; exact h11
   refine ⟨?_,?_⟩
   ·refine blocksG g.cells hn I6.cells I6.cap s c.s.at_ ?_
    intro h7 e7
    refine ⟨kp_ext (Nat.le_refl _) e7,?_⟩
    try simp (maxSteps:=1000000) (disch:=first|exact Lb rfl|omega) only [AXS,AXB,J.dst,reduceIte,Z1,Z2,Z3,Z4,Z5]
    refine wL_newD e7.size ?_; rintro b7 h8 e8 s8 hb7 B7
    have z7 := e7.size
    try simp (maxSteps:=1000000) (disch:=first|exact Lb rfl|omega) only [AXS,AXB,J.dst,reduceIte,Z1,Z2,Z3,Z4,Z5]
    refine wL_stD rfl rfl (by omega) rfl B7 (by decide) (eLck_one (blocksL c.s.at_ (cellsIn p s)).1) ?_
    rintro h9 u9 (B9 : Blk _ _ _ (eLck (blocksL c.s.at_ (cellsIn p s)).1))
    try simp (maxSteps:=1000000) (disch:=first|exact Lb rfl|omega) only [AXS,AXB,J.dst,reduceIte,Z1,Z2,Z3,Z4,Z5]
    have := app h9 b7 (u9.ext (e7.trans e8) (by omega)) (by rw [← hbl]; exact B9) (by omega)
    rw [← hbl] at this
    exact this
   ·refine wL_newD (Nat.le_refl _) ?_; rintro b7 h7 e7 s7 hb7 B7
    try simp (maxSteps:=1000000) (disch:=first|exact Lb rfl|omega) only [AXS,AXB,J.dst,reduceIte,Z1,Z2,Z3,Z4,Z5]
    refine blocksG g.cells hn (I6.exts e7).cells I6.cap s c.s.at_ ?_
    intro h8 e8
    refine ⟨kp_ext e7.size e8,?_⟩
    try simp (maxSteps:=1000000) (disch:=first|exact Lb rfl|omega) only [AXS,AXB,J.dst,reduceIte,Z1,Z2,Z3,Z4,Z5]
    have z8 := e8.size
    refine wL_stD rfl rfl (by omega) rfl (B7.ext e8) (by decide) (eLck_one (blocksL c.s.at_ (cellsIn p s)).1) ?_
    rintro h9 u9 (B9 : Blk _ _ _ (eLck (blocksL c.s.at_ (cellsIn p s)).1))
    try simp (maxSteps:=1000000) (disch:=first|exact Lb rfl|omega) only [AXS,AXB,J.dst,reduceIte,Z1,Z2,Z3,Z4,Z5]
    have := app h9 b7 (u9.ext (e7.trans e8) (by omega)) (by rw [← hbl]; exact B9) (by omega)
    rw [← hbl] at this
    exact this
  ·have hkl : k = c.spans.length := by have := of_decide_eq_false hh; omega
   subst hkl
   have hnone : (c.spans.find? fun s => (blocksL c.s.at_ (cellsIn p s)).2) = none := findIdx_none hnb
   refine hex _ _ ?_
   have z1 := e02.size
   have z3 := e3.size
   have e03 := e02.trans e3
   (try simp (maxSteps:=1000000) (disch:=first|exact Lb rfl|omega) only [AXS,AXB,J.dst,reduceIte,Z1,Z2,Z3,Z4,Z5]); rw [f126c15_eq]; (try simp (maxSteps:=1000000) (disch:=first|exact Lb rfl|omega) only [AXS,AXB,J.dst,reduceIte,Z1,Z2,Z3,Z4,Z5,f126r10])
   refine wL_newN ?_; rintro b4 h4 e4 s4 hb4 B4
   try simp (maxSteps:=1000000) (disch:=first|exact Lb rfl|omega) only [AXS,AXB,J.dst,reduceIte,Z1,Z2,Z3,Z4,Z5]
   refine wL_stN rfl rfl rfl B4 (by decide) (eRp_one ⟨okS,none,0,0⟩) ?_
   rintro h5 u5 (B5 : Blk _ _ _ (eRp ⟨okS,none,0,0⟩))
   have e35 := u5.ext e4 (by omega)
   have e05 := e03.trans e35
   have z5 := u5.size
   have C1 := (B1.ext e3).ext e35
   (try simp (maxSteps:=1000000) (disch:=first|exact Lb rfl|omega) only [AXS,AXB,J.dst,reduceIte,Z1,Z2,Z3,Z4,Z5]); rw [f126c16_eq]; (try simp (maxSteps:=1000000) (disch:=first|exact Lb rfl|omega) only [AXS,AXB,J.dst,reduceIte,Z1,Z2,Z3,Z4,Z5,f126r11,C1.cel,eCm,C.sn])
   rw [f126c17_eq]
   refine loop_in (fun m σ h' => Gr (some b4) h5 h' ∧ ∃ (k : Nat) (acc : List Pai) (pa : Option Addr) (pc : Nat),k + m = c.spans.length ∧ readL p c.s.at_ c.spans [] = readL p c.s.at_ (c.spans.drop k) acc ∧ acc.length ≤ 512 ∧
    Blk h' b4 47 (eRp ⟨okS,pa,acc.length,pc⟩) ∧ Own h5.size h' 99 2 pa acc.length pc (acc.flatMap ePai) ∧
    σ = [(0,ptr bp 0),(3,ptr b1 0),(4,ptr b2 0),(9,ptr b4 0),(51,.slice cv.sa c.spans.length cv.sc),(52,vi c.spans.length),(53,vi k)]) c.spans.length
    ⟨(Ext.refl _).gr _,0,[],none,0,by omega,rfl,by simp,B5,Own.nil _ _ _ _,rfl⟩ ?_
   rintro m σ h6 ⟨G6,k,acc,pa,pc,hk,hrl,hal,B6,O6,rfl⟩ Q2 hnx2 hex2 hrt2 _
   have e36 : Ext h3 h6 := G6.ext e35 (fun j hj => by cases hj; omega)
   have e06 := e03.trans e36
   have I6 := I.exts e06
   have Bp6 := I6.b
   have C6 := (B1.ext e3).ext e36
   have z6 := G6.size
   (try simp (maxSteps:=1000000) (disch:=first|exact Lb rfl|omega) only [AXS,AXB,J.dst,reduceIte,Z1,Z2,Z3,Z4,Z5]); rw [f126c18_eq]; (try simp (maxSteps:=1000000) (disch:=first|exact Lb rfl|omega) only [AXS,AXB,J.dst,reduceIte,Z1,Z2,Z3,Z4,Z5,f126r12]); rw [f126c19_eq]; (try simp (maxSteps:=1000000) (disch:=first|exact Lb rfl|omega) only [AXS,AXB,J.dst,reduceIte,Z1,Z2,Z3,Z4,Z5])
   refine ⟨fun hh => ?_,fun hh => ?_⟩
   ·have hkl : k < c.spans.length := by have := of_decide_eq_true hh; omega
    obtain ⟨s,hx⟩ := get_ex hkl
    obtain ⟨b',o,hsa,_,hrow⟩ := (C.spans.ext e06).elem eSpn_len hx
    have hdrop : c.spans.drop k = s :: c.spans.drop (k + 1) := by
     rw [List.drop_eq_getElem_cons hkl]
     rw [List.getElem?_eq_getElem hkl] at hx; cases hx; rfl
    (try simp (maxSteps:=1000000) (disch:=first|exact Lb rfl|omega) only [AXS,AXB,J.dst,reduceIte,Z1,Z2,Z3,Z4,Z5]); rw [f126c20_eq]; (try simp (maxSteps:=1000000) (disch:=first|exact Lb rfl|omega) only [AXS,AXB,J.dst,reduceIte,Z1,Z2,Z3,Z4,Z5,row_spn hrow,hsa]); rw [f126c21_eq]; (try simp (maxSteps:=1000000) (disch:=first|exact Lb rfl|omega) only [AXS,AXB,J.dst,reduceIte,Z1,Z2,Z3,Z4,Z5,f126r13,row_spn hrow,hsa])
    refine ⟨by omega,by omega,?_⟩
    refine wL_newN ?_; rintro b7 h7 e7 s7 hb7 B7
    try simp (maxSteps:=1000000) (disch:=first|exact Lb rfl|omega) only [AXS,AXB,J.dst,reduceIte,Z1,Z2,Z3,Z4,Z5]
    refine wL_stN rfl rfl rfl B7 (by decide) (fun v hv => by simp only [eSpn,cells_agg,List.mem_toArray,List.mem_cons,List.not_mem_nil,or_false] at hv; rcases hv with rfl | rfl <;> rfl) ?_
    rintro h8 u8 (B8 : Blk _ _ _ (eSpn s))
    have e68 := u8.ext e7 (by omega)
    have I8 := I6.exts e68
    have Bp8 := I8.b
    have C8 := C6.ext e68
    have D8 := B6.ext e68
    have z8 := e68.size
    have z8' := u8.size
    try simp (maxSteps:=1000000) (disch:=first|exact Lb rfl|omega) only [AXS,AXB,J.dst,reduceIte,Z1,Z2,Z3,Z4,Z5]
    rw [f126c22_eq]
    refine drw_lt ?_
    simp (maxSteps:=1000000) (disch:=first|exact Lb rfl|omega) only [AXS,AXB,J.dst,reduceIte,Z1,Z2,Z3,Z4,Z5,f126r14,Bp8.cel,ePr,hcn,B8.rd,eSpn,C8.rd,eCm,hcs,D8.cel,eRp]
    refine ⟨by omega,by omega,by omega,by omega,?_⟩
    rw [i64_wrap (by omega) (by omega)]
    refine scanG g.cells hn I8.cells I8.cap s c.s.at_ (512 - acc.length) ?_
    intro sa sc h9 O9 e9
    refine ⟨kp_ext (Nat.le_refl _) e9,?_⟩
    try simp (maxSteps:=1000000) (disch:=first|exact Lb rfl|omega) only [AXS,AXB,J.dst,reduceIte,Z1,Z2,Z3,Z4,Z5]
    have hlen := scanL_len c.s.at_ (512 - acc.length) (withinL p.cells s)
    have hstep : readL p c.s.at_ (c.spans.drop k) acc = if (scanL c.s.at_ (512 - acc.length) (withinL p.cells s) []).2 = 0 then readL p c.s.at_ (c.spans.drop (k + 1)) (acc ++ (scanL c.s.at_ (512 - acc.length) (withinL p.cells s) []).1) else (acc,(scanL c.s.at_ (512 - acc.length) (withinL p.cells s) []).2) := by rw [hdrop]; rfl
    generalize scanL c.s.at_ (512 - acc.length) (withinL p.cells s) [] = sr at O9 hlen hstep ⊢
    have e69 := e68.trans e9
    have z9 := e69.size
    have z9' := e9.size
    (try simp (maxSteps:=1000000) (disch:=first|exact Lb rfl|omega) only [AXS,AXB,J.dst,reduceIte,Z1,Z2,Z3,Z4,Z5]); rw [f126c23_eq]; (try simp (maxSteps:=1000000) (disch:=first|exact Lb rfl|omega) only [AXS,AXB,J.dst,reduceIte,Z1,Z2,Z3,Z4,Z5,f126r15]); rw [f126c24_eq]; (try simp (maxSteps:=1000000) (disch:=first|exact Lb rfl|omega) only [AXS,AXB,J.dst,reduceIte,Z1,Z2,Z3,Z4,Z5])
    refine ⟨fun h10 => ?_,fun h10 => ?_⟩
    ·have hne : sr.2 ≠ 0 := by simpa using h10
     (try simp (maxSteps:=1000000) (disch:=first|exact Lb rfl|omega) only [AXS,AXB,J.dst,reduceIte,Z1,Z2,Z3,Z4,Z5]); rw [f126c25_eq]; (try simp (maxSteps:=1000000) (disch:=first|exact Lb rfl|omega) only [AXS,AXB,J.dst,reduceIte,Z1,Z2,Z3,Z4,Z5,f126r16])
     have C2 := (B2.ext e3).ext (e36.trans e69)
     refine wL_stN rfl rfl rfl C2 (by decide) (eRp_one ⟨(errR sr.2).s,none,0,0⟩) ?_
     rintro h11 u11 (B11 : Blk _ _ _ (eRp ⟨(errR sr.2).s,none,0,0⟩))
     try simp (maxSteps:=1000000) (disch:=first|exact Lb rfl|omega) only [AXS,AXB,J.dst,reduceIte,Z1,Z2,Z3,Z4,Z5]
     refine hrt2 _ _ ?_
     simp (maxSteps:=1000000) (disch:=first|exact Lb rfl|omega) only [AXS,AXB,J.dst,reduceIte,Z1,Z2,Z3,Z4,Z5,B11.rd,eRp]
     have hl : readP p c = (p,errR sr.2) := by
      unfold readP
      rw [if_neg hlow,hnone]
      simp only [hrl,hstep,if_neg hne]
     have := hR pv ⟨(errR sr.2).s,none,0,0⟩ h11 (by rw [hl]; exact OutP.same I (e06.trans e69) (by omega) u11 _)
     exact this
    ·have he0 : sr.2 = 0 := by simpa using h10
     rw [if_pos he0] at hstep
     have D9 := D8.ext e9
     have hO6 := O6.ob
     have hl9 : acc.length + sr.1.length ≤ 512 := by
      rcases hlen he0 with h | h
      ·rw [h]; simpa using hal
      ·omega
     (try simp (maxSteps:=1000000) (disch:=first|exact Lb rfl|omega) only [AXS,AXB,J.dst,reduceIte,Z1,Z2,Z3,Z4,Z5]); rw [f126c26_eq]; (try simp (maxSteps:=1000000) (disch:=first|exact Lb rfl|omega) only [AXS,AXB,J.dst,reduceIte,Z1,Z2,Z3,Z4,Z5,f126r17,D9.cel,eRp])
     rw [wL_raw]
     refine raw_append slT45 rfl rfl rfl (O6.ext e69) (flat_len sr.1) (own_news O9) (one_flatMap ePai_one sr.1) (by unfold maxLen; omega) (by omega) (by omega) ?_
     intro pa' pc' h11 O11 G11 A11
     refine ⟨trivial,?_⟩
     try simp (maxSteps:=1000000) (disch:=first|exact Lb rfl|omega) only [AXS,AXB,J.dst,reduceIte,Z1,Z2,Z3,Z4,Z5]
     have D11 := G11.blk D9 (by intro e; have := hO6 b4 e.symm; omega)
     have z11 := G11.size
     refine wL_stN rfl rfl rfl D11 (by rw [eRp_len]; exact Nat.le_of_ble_eq_true rfl) slice_one ?_
     rintro h12 u12 (B12 : Blk _ _ _ (eRp ⟨okS,pa',acc.length + sr.1.length,pc'⟩))
     have z12 := u12.size
     (try simp (maxSteps:=1000000) (disch:=first|exact Lb rfl|omega) only [AXS,AXB,J.dst,reduceIte,Z1,Z2,Z3,Z4,Z5]); rw [f126c27_eq]; (try simp (maxSteps:=1000000) (disch:=first|exact Lb rfl|omega) only [AXS,AXB,J.dst,reduceIte,Z1,Z2,Z3,Z4,Z5,f126r18])
     rw [i64_wrap (by omega) (by omega)]
     have hO11 := O11.ob
     refine hnx2 (m - 1) _ _ (by omega) ⟨⟨by omega,fun j hj hne => ?_⟩,k + 1,acc ++ sr.1,pa',pc',by omega,?_,by rw [List.length_append]; exact hl9,by rw [List.length_append]; exact B12,?_,by rw [hsa]; rfl⟩
     ·rw [u12.ne j (fun e => hne (by rw [e])),G11.at_ j (by omega) (fun e => by have := hO6 j e.symm; omega),e69.at_ j (by omega),G6.at_ j hj hne]
     ·rw [hrl,hstep]
     ·rw [List.length_append,List.flatMap_append]
      exact O11.gr u12.gr (fun j hj e => by cases e; have := hO11 b4 hj; omega)
   ·have hkl : k = c.spans.length := by have := of_decide_eq_false hh; omega
    have hfin : readL p c.s.at_ c.spans [] = (acc,0) := by rw [hrl,hkl,List.drop_length]; rfl
    have hl : readP p c = ({ p with s := { p.s with floor := maxS p.s.floor c.s.at_ } },⟨okS,acc⟩) := by
     unfold readP
     rw [if_neg hlow,hnone]
     simp only [hfin,if_true]
    refine hex2 _ _ ?_
    try simp (maxSteps:=1000000) (disch:=first|exact Lb rfl|omega) only [AXS,AXB,J.dst,reduceIte,Z1,Z2,Z3,Z4,Z5]
    rw [f126c28_eq]
    refine ⟨fun b => b < h6.size ∧ b ≠ bp,fun b hb => hb.1,?_⟩
    have hb1p : b1 ≠ bp := by omega
    simp (maxSteps:=1000000) (disch:=first|exact Lb rfl|omega) only [AXS,AXB,J.dst,reduceIte,Z1,Z2,Z3,Z4,Z5,f126r19,C6.rd,eCm,hcs,Bp6.rd,ePr,hps]
    refine ⟨⟨by omega,hb1p⟩,?_⟩
    refine max_ok p.s.floor c.s.at_ _ ?_
    intro h7 e7
    refine ⟨fun b hb => e7.at_ b hb.1,?_⟩
    try simp (maxSteps:=1000000) (disch:=first|exact Lb rfl|omega) only [AXS,AXB,J.dst,reduceIte,Z1,Z2,Z3,Z4,Z5]
    have I7 := I6.exts e7
    have z7 := e7.size
    refine wL_stD rfl rfl (fun hb => hb.2 rfl) rfl I7.b (by rw [ePr_len]; exact Nat.le_of_ble_eq_true rfl) (eStamp_one _) ?_
    rintro h8 u8 (B8 : Blk _ _ _ (ePr { pv with s := { pv.s with floor := maxS p.s.floor c.s.at_ } }))
    try simp (maxSteps:=1000000) (disch:=first|exact Lb rfl|omega) only [AXS,AXB,J.dst,reduceIte,Z1,Z2,Z3,Z4,Z5]
    have I8 := I7.put _ u8 B8
    rw [hps] at I8
    have D8 := u8.blk (B6.ext e7) (by omega)
    have C2 := u8.blk ((B2.ext (e3.trans e36)).ext e7) (by omega)
    (try simp (maxSteps:=1000000) (disch:=first|exact Lb rfl|omega) only [AXS,AXB,J.dst,reduceIte,Z1,Z2,Z3,Z4,Z5]); rw [f126c29_eq]; (try simp (maxSteps:=1000000) (disch:=first|exact Lb rfl|omega) only [AXS,AXB,J.dst,reduceIte,Z1,Z2,Z3,Z4,Z5,f126r20,D8.rd,eRp])
    refine wL_stN rfl rfl rfl C2 (by decide) (eRp_one ⟨okS,pa,acc.length,pc⟩) ?_
    rintro h9 u9 (B9 : Blk _ _ _ (eRp ⟨okS,pa,acc.length,pc⟩))
    simp (maxSteps:=1000000) (disch:=first|exact Lb rfl|omega) only [AXS,AXB,J.dst,reduceIte,Z1,Z2,Z3,Z4,Z5,B9.rd,eRp]
    have hap := I.apart (b := b2) (by omega)
    have hO6 := O6.ob
    have := hR _ ⟨okS,pa,acc.length,pc⟩ h9 (by
     rw [hl]
     refine (I8.box ⟨by omega,.inr (by omega)⟩ (by omega) hap.1 hap.2 u9).out (h := h) (rv := ⟨okS,pa,acc.length,pc⟩) (r := ⟨okS,acc⟩) ⟨rfl,rfl,?_⟩ ((Gr.upd ((e06.trans e7).gr _) u8 (.inl rfl)).upd u9 (.inr (by omega))) (fun _ _ h => h) (fun k hk => (I.exts e05).ap (hO6 k hk).1)
     refine (((O6.mono (by omega)).ext e7).gr u8.gr (fun j hj e => ?_)).gr u9.gr (fun j hj e => ?_)
     ·cases e; have := hO6 bp hj; omega
     ·cases e; have := hO6 b2 hj; omega)
    exact this
end Go.Proofs.Ytefghfgmkndikaa
namespace Go.Proofs.Ytefghfgmkndikaa
open Go Go.AX
theorem eWri_one (x : Wri) : ∀ v ∈ eWri x,v.oneCell' = true := by
 intro v hv; simp only [eWri,List.mem_cons,List.not_mem_nil,or_false] at hv
 rcases hv with rfl | rfl | rfl <;> rfl
theorem prep_ok {h0 h hc : Heap} {bp lo n : Nat} {pv : PrV} {p : Prt} {cv : CmV} {c : Cmd} {B : Nat → Prop} (I : InP h0 h bp pv p lo hc) (C0 : CmR B h0 cv c) (g : SzP n p) (hn : n + c.writes.length ≤ 900000) {R : Value → Heap → Prop}
  (hR : ∀ pv' rv h',OutP h0 h h' bp pv lo hc pv' (prepP p c).1 rv (prepP p c).2 → R (.agg (eRp rv).toArray) h') : CallsH Try.prog 127 [ptr bp 0,.agg (eCm cv).toArray] h R := by
 have hbig : big = 1000000 := rfl
 have hn' : n ≤ 900000 := by omega
 have C := C0.ext I.ext
 have hps := I.o.s
 have hcs := C.s
 have hz := I.sizes
 have hcn := I.o.cn
 have hdn := I.o.dn
 have gd := g.done
 have hap := fun b hb => I.apart (b := b) hb
 refine f127ok (by simp) ?_
 (try simp (maxSteps:=1000000) (disch:=first|exact Lb rfl|omega) only [AXS,AXB,J.dst,reduceIte,Z1,Z2,Z3,Z4,Z5]); rw [f127c0_eq]; (try simp (maxSteps:=1000000) (disch:=first|exact Lb rfl|omega) only [AXS,AXB,J.dst,reduceIte,Z1,Z2,Z3,Z4,Z5,f127r0])
 refine wL_boxN rfl ?_; rintro b1 h1 e1 s1 hb1 (B1 : Blk _ _ _ (eCm cv))
 refine wL_newN ?_; rintro b2 h2 e2 s2 hb2 B2
 replace B1 := B1.ext e2
 have e02 := e1.trans e2
 have I2 := I.exts e02
 have Bp := I2.b
 have app : ∀ h3 b5,Ext h2 h3 → Blk h3 b5 126 (eOut ((findO p.done c.s.by_).getD noOut)) →
   wC Try.prog f127c2 (endW [.cell 4 11] R) [(0,ptr bp 0),(3,ptr b1 0),(4,ptr b2 0),(5,ptr b5 0),(6,.bool (findO p.done c.s.by_).isSome)] h3 := by
  intro h3 b5 e3 B5
  have z1 := e02.size
  have z3 := e3.size
  have I3 := I2.exts e3
  have Bp3 := I3.b
  have C1 := B1.ext e3
  have C2 := B2.ext e3
  (try simp (maxSteps:=1000000) (disch:=first|exact Lb rfl|omega) only [AXS,AXB,J.dst,reduceIte,Z1,Z2,Z3,Z4,Z5]); rw [f127c2_eq]; (try simp (maxSteps:=1000000) (disch:=first|exact Lb rfl|omega) only [AXS,AXB,J.dst,reduceIte,Z1,Z2,Z3,Z4,Z5,f127r2]); rw [f127c3_eq]; (try simp (maxSteps:=1000000) (disch:=first|exact Lb rfl|omega) only [AXS,AXB,J.dst,reduceIte,Z1,Z2,Z3,Z4,Z5])
  refine ⟨fun hh => ?_,fun hh => ?_⟩
  ·obtain ⟨o,ho⟩ := Option.isSome_iff_exists.1 hh
   rw [ho,Option.getD_some] at B5
   have hl : prepP p c = (p,⟨{ okS with err := 26,yes := o.yes },[]⟩) := by unfold prepP; rw [ho]
   (try simp (maxSteps:=1000000) (disch:=first|exact Lb rfl|omega) only [AXS,AXB,J.dst,reduceIte,Z1,Z2,Z3,Z4,Z5]); rw [f127c4_eq]; (try simp (maxSteps:=1000000) (disch:=first|exact Lb rfl|omega) only [AXS,AXB,J.dst,reduceIte,Z1,Z2,Z3,Z4,Z5,f127r3,B5.cel,eOut])
   refine wL_stN rfl rfl rfl C2 (by decide) (eRp_one ⟨{ okS with err := 26,yes := o.yes },none,0,0⟩) ?_
   rintro h4 u4 (B4 : Blk _ _ _ (eRp ⟨{ okS with err := 26,yes := o.yes },none,0,0⟩))
   simp (maxSteps:=1000000) (disch:=first|exact Lb rfl|omega) only [AXS,AXB,J.dst,reduceIte,Z1,Z2,Z3,Z4,Z5,B4.rd,eRp]
   have := hR pv ⟨{ okS with err := 26,yes := o.yes },none,0,0⟩ h4 (by rw [hl]; exact OutP.same I (e02.trans e3) (by omega) u4 _)
   exact this
  ·have hno : findO p.done c.s.by_ = none := by simpa using hh
   clear B5
   (try simp (maxSteps:=1000000) (disch:=first|exact Lb rfl|omega) only [AXS,AXB,J.dst,reduceIte,Z1,Z2,Z3,Z4,Z5]); rw [f127c5_eq]; (try simp (maxSteps:=1000000) (disch:=first|exact Lb rfl|omega) only [AXS,AXB,J.dst,reduceIte,Z1,Z2,Z3,Z4,Z5])
   rw [f127c6_eq]
   refine drw_lt ?_
   simp (maxSteps:=1000000) (disch:=first|exact Lb rfl|omega) only [AXS,AXB,J.dst,reduceIte,Z1,Z2,Z3,Z4,Z5,f127r4,Bp3.cel,ePr,C1.rd,eCm,hcs,hcn]
   refine ⟨by omega,by omega,?_⟩
   refine mineG g.cells hn' I3.cells c.s.by_ ?_
   intro h4 e4
   refine ⟨kp_ext (Nat.le_refl _) e4,?_⟩
   have I4 := I3.exts e4
   have Bp4 := I4.b
   have D1 := C1.ext e4
   have D2 := C2.ext e4
   have z4 := e4.size
   have e34 := e3.trans e4
   (try simp (maxSteps:=1000000) (disch:=first|exact Lb rfl|omega) only [AXS,AXB,J.dst,reduceIte,Z1,Z2,Z3,Z4,Z5]); rw [f127c7_eq]; (try simp (maxSteps:=1000000) (disch:=first|exact Lb rfl|omega) only [AXS,AXB,J.dst,reduceIte,Z1,Z2,Z3,Z4,Z5])
   refine ⟨fun hm => ?_,fun hm => ?_⟩
   ·have hl : prepP p c = (p,⟨okS,[]⟩) := by unfold prepP; rw [hno]; simp only [if_pos hm]
    (try simp (maxSteps:=1000000) (disch:=first|exact Lb rfl|omega) only [AXS,AXB,J.dst,reduceIte,Z1,Z2,Z3,Z4,Z5]); rw [f127c8_eq]; (try simp (maxSteps:=1000000) (disch:=first|exact Lb rfl|omega) only [AXS,AXB,J.dst,reduceIte,Z1,Z2,Z3,Z4,Z5,f127r5])
    refine wL_stN rfl rfl rfl D2 (by decide) (eRp_one ⟨okS,none,0,0⟩) ?_
    rintro h5 u5 (B5 : Blk _ _ _ (eRp ⟨okS,none,0,0⟩))
    simp (maxSteps:=1000000) (disch:=first|exact Lb rfl|omega) only [AXS,AXB,J.dst,reduceIte,Z1,Z2,Z3,Z4,Z5,B5.rd,eRp]
    have := hR pv ⟨okS,none,0,0⟩ h5 (by rw [hl]; exact OutP.same I (e02.trans e34) (by omega) u5 _)
    exact this
   ·try simp (maxSteps:=1000000) (disch:=first|exact Lb rfl|omega) only [AXS,AXB,J.dst,reduceIte,Z1,Z2,Z3,Z4,Z5]
    rw [f127c9_eq]
    refine drw_lt ?_
    simp (maxSteps:=1000000) (disch:=first|exact Lb rfl|omega) only [AXS,AXB,J.dst,reduceIte,Z1,Z2,Z3,Z4,Z5,f127r6,Bp4.cel,ePr,D1.cel,eCm,hcs,hps]
    refine ⟨by omega,by omega,?_⟩
    (try simp (maxSteps:=1000000) (disch:=first|exact Lb rfl|omega) only [AXS,AXB,J.dst,reduceIte,Z1,Z2,Z3,Z4,Z5]); rw [f127c10_eq]; (try simp (maxSteps:=1000000) (disch:=first|exact Lb rfl|omega) only [AXS,AXB,J.dst,reduceIte,Z1,Z2,Z3,Z4,Z5])
    have hm' : ¬ mineL p.cells c.s.by_ = true := by rw [hm]; simp
    refine ⟨fun hc1 => ?_,fun hc1 => ?_⟩
    ·have hl : prepP p c = (p,⟨{ okS with err := 21,wall := p.s.closed },[]⟩) := by unfold prepP; rw [hno]; simp only [if_neg hm',if_pos (of_decide_eq_true hc1)]
     (try simp (maxSteps:=1000000) (disch:=first|exact Lb rfl|omega) only [AXS,AXB,J.dst,reduceIte,Z1,Z2,Z3,Z4,Z5]); rw [f127c11_eq]; (try simp (maxSteps:=1000000) (disch:=first|exact Lb rfl|omega) only [AXS,AXB,J.dst,reduceIte,Z1,Z2,Z3,Z4,Z5,f127r7,Bp4.cel,ePr,hps])
     refine wL_stN rfl rfl rfl D2 (by decide) (eRp_one ⟨{ okS with err := 21,wall := p.s.closed },none,0,0⟩) ?_
     rintro h5 u5 (B5 : Blk _ _ _ (eRp ⟨{ okS with err := 21,wall := p.s.closed },none,0,0⟩))
     simp (maxSteps:=1000000) (disch:=first|exact Lb rfl|omega) only [AXS,AXB,J.dst,reduceIte,Z1,Z2,Z3,Z4,Z5,B5.rd,eRp]
     have := hR pv ⟨{ okS with err := 21,wall := p.s.closed },none,0,0⟩ h5 (by rw [hl]; exact OutP.same I (e02.trans e34) (by omega) u5 _)
     exact this
    ·have hc1' := of_decide_eq_false hc1
     try simp (maxSteps:=1000000) (disch:=first|exact Lb rfl|omega) only [AXS,AXB,J.dst,reduceIte,Z1,Z2,Z3,Z4,Z5]
     rw [f127c12_eq]
     refine drw_lt ?_
     simp (maxSteps:=1000000) (disch:=first|exact Lb rfl|omega) only [AXS,AXB,J.dst,reduceIte,Z1,Z2,Z3,Z4,Z5,f127r8,Bp4.rd,ePr,D1.rd,eCm,hcs,hps]
     refine ⟨by omega,by omega,?_⟩
     refine less_ok c.s.at_ p.s.floor _ ?_
     intro h5 e5
     refine ⟨kp_ext (Nat.le_refl _) e5,?_⟩
     have I5 := I4.exts e5
     have Bp5 := I5.b
     have E1 := D1.ext e5
     have E2 := D2.ext e5
     have z5 := e5.size
     have e35 := e34.trans e5
     (try simp (maxSteps:=1000000) (disch:=first|exact Lb rfl|omega) only [AXS,AXB,J.dst,reduceIte,Z1,Z2,Z3,Z4,Z5]); rw [f127c13_eq]; (try simp (maxSteps:=1000000) (disch:=first|exact Lb rfl|omega) only [AXS,AXB,J.dst,reduceIte,Z1,Z2,Z3,Z4,Z5])
     refine ⟨fun hf => ?_,fun hf => ?_⟩
     ·have hl : prepP p c = (p,⟨{ okS with err := 22,at_ := p.s.floor },[]⟩) := by unfold prepP; rw [hno]; simp only [if_neg hm',if_neg hc1',if_pos hf]
      (try simp (maxSteps:=1000000) (disch:=first|exact Lb rfl|omega) only [AXS,AXB,J.dst,reduceIte,Z1,Z2,Z3,Z4,Z5]); rw [f127c14_eq]; (try simp (maxSteps:=1000000) (disch:=first|exact Lb rfl|omega) only [AXS,AXB,J.dst,reduceIte,Z1,Z2,Z3,Z4,Z5,f127r9,Bp5.rd,ePr,hps])
      refine wL_stN rfl rfl rfl E2 (by decide) (eRp_one ⟨{ okS with err := 22,at_ := p.s.floor },none,0,0⟩) ?_
      rintro h6 u6 (B6 : Blk _ _ _ (eRp ⟨{ okS with err := 22,at_ := p.s.floor },none,0,0⟩))
      simp (maxSteps:=1000000) (disch:=first|exact Lb rfl|omega) only [AXS,AXB,J.dst,reduceIte,Z1,Z2,Z3,Z4,Z5,B6.rd,eRp]
      have := hR pv ⟨{ okS with err := 22,at_ := p.s.floor },none,0,0⟩ h6 (by rw [hl]; exact OutP.same I (e02.trans e35) (by omega) u6 _)
      exact this
     ·have hf' : ¬ Stamp.lt c.s.at_ p.s.floor = true := by rw [hf]; simp
      have e05 := e02.trans e35
      (try simp (maxSteps:=1000000) (disch:=first|exact Lb rfl|omega) only [AXS,AXB,J.dst,reduceIte,Z1,Z2,Z3,Z4,Z5]); rw [f127c15_eq]; (try simp (maxSteps:=1000000) (disch:=first|exact Lb rfl|omega) only [AXS,AXB,J.dst,reduceIte,Z1,Z2,Z3,Z4,Z5,f127r10,E1.cel,eCm,C.wn])
      have hpre : prepP p c = match c.writes.find? fun w => (heldK p.cells w.key).2 with
        | some w => (p,lockedR (heldK p.cells w.key).1)
        | none => ({ p with cells := c.writes.foldl (fun cs w => lockL cs w (lkC c)) p.cells },⟨okS,[]⟩) := by
       unfold prepP; rw [hno]; simp only [if_neg hm',if_neg hc1',if_neg hf']; (try rfl)
      have hwl : c.writes.length ≤ 900000 := by omega
      clear hm hm' hc1 hc1' hf hf' hno
      rw [f127c16_eq]
      refine loop_in (fun n σ h' => Ext h5 h' ∧ ∃ k : Nat,k + n = c.writes.length ∧ (∀ j w,j < k → c.writes[j]? = some w → (heldK p.cells w.key).2 = false) ∧
       σ = [(0,ptr bp 0),(3,ptr b1 0),(4,ptr b2 0),(64,.slice cv.wa c.writes.length cv.wc),(65,vi c.writes.length),(66,vi k)]) c.writes.length ⟨Ext.refl _,0,by omega,by intros; omega,rfl⟩ ?_
      rintro m σ h6 ⟨e6,k,hk,hnb,rfl⟩ Q' hnx hex hrt _
      (try simp (maxSteps:=1000000) (disch:=first|exact Lb rfl|omega) only [AXS,AXB,J.dst,reduceIte,Z1,Z2,Z3,Z4,Z5]); rw [f127c17_eq]; (try simp (maxSteps:=1000000) (disch:=first|exact Lb rfl|omega) only [AXS,AXB,J.dst,reduceIte,Z1,Z2,Z3,Z4,Z5,f127r11]); rw [f127c18_eq]; (try simp (maxSteps:=1000000) (disch:=first|exact Lb rfl|omega) only [AXS,AXB,J.dst,reduceIte,Z1,Z2,Z3,Z4,Z5])
      refine ⟨fun hh => ?_,fun hh => ?_⟩
      ·have hkl : k < c.writes.length := by have := of_decide_eq_true hh; omega
       obtain ⟨w,hx⟩ := get_ex hkl
       obtain ⟨b',o,hsa,_,hrow⟩ := (C.writes.ext (e05.trans e6)).elem eWri_len hx
       (try simp (maxSteps:=1000000) (disch:=first|exact Lb rfl|omega) only [AXS,AXB,J.dst,reduceIte,Z1,Z2,Z3,Z4,Z5]); rw [f127c19_eq]; (try simp (maxSteps:=1000000) (disch:=first|exact Lb rfl|omega) only [AXS,AXB,J.dst,reduceIte,Z1,Z2,Z3,Z4,Z5,row_wri hrow,hsa]); rw [f127c20_eq]; (try simp (maxSteps:=1000000) (disch:=first|exact Lb rfl|omega) only [AXS,AXB,J.dst,reduceIte,Z1,Z2,Z3,Z4,Z5,f127r12,row_wri hrow,hsa])
       refine ⟨by omega,by omega,?_⟩
       refine wL_newN ?_; rintro b7 h7 e7 s7 hb7 B7
       try simp (maxSteps:=1000000) (disch:=first|exact Lb rfl|omega) only [AXS,AXB,J.dst,reduceIte,Z1,Z2,Z3,Z4,Z5]
       refine wL_stN rfl rfl rfl B7 (by decide) (eWri_one w) ?_
       rintro h8 u8 (B8 : Blk _ _ _ (eWri w))
       try simp (maxSteps:=1000000) (disch:=first|exact Lb rfl|omega) only [AXS,AXB,J.dst,reduceIte,Z1,Z2,Z3,Z4,Z5]
       rw [f127c21_eq]
       refine drt_lt ?_
       simp only [f127r13,wT_one,wT_alt,wT_nil]
       have e68 := u8.ext e7 (by omega)
       have e58 := e6.trans e68
       have I8 := I5.exts e58
       have Bp8 := I8.b
       have F1 := E1.ext e58
       have F2 := E2.ext e58
       have z6 := e6.size
       have z8 := e68.size
       have z8' := u8.size
       have e08 := e05.trans e58
       simp (maxSteps:=1000000) (disch:=first|exact Lb rfl|omega) only [AXS,AXB,J.dst,reduceIte,Z1,Z2,Z3,Z4,Z5,Bp8.cel,ePr,B8.cel,eWri,hcn]
       refine ⟨by omega,by omega,?_⟩
       generalize hbl : heldK p.cells w.key = bl
       have app2 : ∀ h9 b9,Ext h8 h9 → Blk h9 b9 72 (eLck bl.1) → wC Try.prog f127c22 (X.inBlock 2 (X.then (fun σ h => wC Try.prog f127c25 Q' σ h) Q'))
         [(0,ptr bp 0),(3,ptr b1 0),(4,ptr b2 0),(9,ptr b9 0),(10,.bool bl.2),(64,.slice (some ⟨b',o,none⟩) c.writes.length cv.wc),(65,vi c.writes.length),(66,vi k)] h9 := by
        intro h9 b9 e89 B9
        have e09 := e08.trans e89
        (try simp (maxSteps:=1000000) (disch:=first|exact Lb rfl|omega) only [AXS,AXB,J.dst,reduceIte,Z1,Z2,Z3,Z4,Z5]); rw [f127c22_eq]; (try simp (maxSteps:=1000000) (disch:=first|exact Lb rfl|omega) only [AXS,AXB,J.dst,reduceIte,Z1,Z2,Z3,Z4,Z5,f127r14]); rw [f127c23_eq]; (try simp (maxSteps:=1000000) (disch:=first|exact Lb rfl|omega) only [AXS,AXB,J.dst,reduceIte,Z1,Z2,Z3,Z4,Z5])
        refine ⟨fun h11 => ?_,fun h11 => ?_⟩
        ·(try simp (maxSteps:=1000000) (disch:=first|exact Lb rfl|omega) only [AXS,AXB,J.dst,reduceIte,Z1,Z2,Z3,Z4,Z5]); rw [f127c24_eq]; (try simp (maxSteps:=1000000) (disch:=first|exact Lb rfl|omega) only [AXS,AXB,J.dst,reduceIte,Z1,Z2,Z3,Z4,Z5,f127r15,B9.rd,eLck])
         refine locked_ok bl.1 _ ?_
         intro h10 e10
         refine ⟨trivial,?_⟩
         try simp (maxSteps:=1000000) (disch:=first|exact Lb rfl|omega) only [AXS,AXB,J.dst,reduceIte,Z1,Z2,Z3,Z4,Z5]
         refine wL_stN rfl rfl rfl ((F2.ext e89).ext e10) (by decide) (eRp_one ⟨(lockedR bl.1).s,none,0,0⟩) ?_
         rintro h12 u12 (B12 : Blk _ _ _ (eRp ⟨(lockedR bl.1).s,none,0,0⟩))
         try simp (maxSteps:=1000000) (disch:=first|exact Lb rfl|omega) only [AXS,AXB,J.dst,reduceIte,Z1,Z2,Z3,Z4,Z5]
         refine hrt _ _ ?_
         simp (maxSteps:=1000000) (disch:=first|exact Lb rfl|omega) only [AXS,AXB,J.dst,reduceIte,Z1,Z2,Z3,Z4,Z5,B12.rd,eRp]
         have hl : prepP p c = (p,lockedR bl.1) := by
          rw [hpre,findIdx_some hx (by rw [hbl]; exact h11) hnb]
          simp only [hbl]
         have := hR pv ⟨(lockedR bl.1).s,none,0,0⟩ h12 (by rw [hl]; exact OutP.same I (e09.trans e10) (by omega) u12 _)
         exact this
        ·(try simp (maxSteps:=1000000) (disch:=first|exact Lb rfl|omega) only [AXS,AXB,J.dst,reduceIte,Z1,Z2,Z3,Z4,Z5]); rw [f127c25_eq]; (try simp (maxSteps:=1000000) (disch:=first|exact Lb rfl|omega) only [AXS,AXB,J.dst,reduceIte,Z1,Z2,Z3,Z4,Z5,f127r16])
         rw [i64_wrap (by omega) (by omega)]
         refine hnx (m - 1) _ _ (by omega) ⟨e58.trans e89,k + 1,by omega,?_,by rw [hsa]; rfl⟩
         intro j w' hj hw'
         rcases Nat.lt_or_ge j k with hlt | hge
         ·exact hnb j w' hlt hw'
         ·have : j = k := by omega
          subst this
          rw [hx] at hw'; cases hw'; rw [hbl]; exact h11
       refine ⟨?_,?_⟩
       ·refine heldG g.cells hn' I8.cells w.key ?_
        intro h9 e9
        refine ⟨kp_ext (Nat.le_refl _) e9,?_⟩
        try simp (maxSteps:=1000000) (disch:=first|exact Lb rfl|omega) only [AXS,AXB,J.dst,reduceIte,Z1,Z2,Z3,Z4,Z5]
        refine wL_newD e9.size ?_; rintro b10 h10 e10 s10 hb10 B10
        have z9 := e9.size
        try simp (maxSteps:=1000000) (disch:=first|exact Lb rfl|omega) only [AXS,AXB,J.dst,reduceIte,Z1,Z2,Z3,Z4,Z5]
        refine wL_stD rfl rfl (by omega) rfl B10 (by decide) (eLck_one (heldK p.cells w.key).1) ?_
        rintro h11 u11 (B11 : Blk _ _ _ (eLck (heldK p.cells w.key).1))
        try simp (maxSteps:=1000000) (disch:=first|exact Lb rfl|omega) only [AXS,AXB,J.dst,reduceIte,Z1,Z2,Z3,Z4,Z5]
        have := app2 h11 b10 (u11.ext (e9.trans e10) (by omega)) (by rw [← hbl]; exact B11)
        rw [← hbl] at this
        exact this
       ·refine wL_newD (Nat.le_refl _) ?_; rintro b10 h9 e9 s9 hb10 B10
        try simp (maxSteps:=1000000) (disch:=first|exact Lb rfl|omega) only [AXS,AXB,J.dst,reduceIte,Z1,Z2,Z3,Z4,Z5]
        refine heldG g.cells hn' (I8.exts e9).cells w.key ?_
        intro h10 e10
        refine ⟨kp_ext e9.size e10,?_⟩
        try simp (maxSteps:=1000000) (disch:=first|exact Lb rfl|omega) only [AXS,AXB,J.dst,reduceIte,Z1,Z2,Z3,Z4,Z5]
        have z9 := e9.size
        have z10 := e10.size
        refine wL_stD rfl rfl (by omega) rfl (B10.ext e10) (by decide) (eLck_one (heldK p.cells w.key).1) ?_
        rintro h11 u11 (B11 : Blk _ _ _ (eLck (heldK p.cells w.key).1))
        try simp (maxSteps:=1000000) (disch:=first|exact Lb rfl|omega) only [AXS,AXB,J.dst,reduceIte,Z1,Z2,Z3,Z4,Z5]
        have := app2 h11 b10 (u11.ext (e9.trans e10) (by omega)) (by rw [← hbl]; exact B11)
        rw [← hbl] at this
        exact this
      ·have hkl : k = c.writes.length := by have := of_decide_eq_false hh; omega
       subst hkl
       have hl : prepP p c = ({ p with cells := c.writes.foldl (fun cs w => lockL cs w (lkC c)) p.cells },⟨okS,[]⟩) := by rw [hpre,findIdx_none hnb]
       refine hex _ _ ?_
       have e06 := e05.trans e6
       have I6 := I5.exts e6
       have F1 := E1.ext e6
       have F2 := E2.ext e6
       have z6 := e6.size
       (try simp (maxSteps:=1000000) (disch:=first|exact Lb rfl|omega) only [AXS,AXB,J.dst,reduceIte,Z1,Z2,Z3,Z4,Z5]); rw [f127c26_eq]; (try simp (maxSteps:=1000000) (disch:=first|exact Lb rfl|omega) only [AXS,AXB,J.dst,reduceIte,Z1,Z2,Z3,Z4,Z5,f127r17,F1.cel,eCm,C.wn])
       rw [f127c27_eq]
       refine loop_in (fun m σ h' => ∃ (k : Nat) (pv' : PrV) (lo' : Nat) (hc' : Heap),k + m = c.writes.length ∧ InP h0 h' bp pv' { p with cells := (c.writes.take k).foldl (fun cs w => lockL cs w (lkC c)) p.cells } lo' hc' ∧
        Gd (n + k) ((c.writes.take k).foldl (fun cs w => lockL cs w (lkC c)) p.cells) ∧ Blk h' b1 43 (eCm cv) ∧ Blk h' b2 47 (eRp ⟨okS,none,0,0⟩) ∧ pv'.ra = pv.ra ∧ pv'.da = pv.da ∧ (∀ b,b < h6.size → ApP b lo hc pv → ApP b lo' hc' pv') ∧ h6.size ≤ h'.size ∧ Gr (some bp) h h' ∧
        σ = [(0,ptr bp 0),(3,ptr b1 0),(4,ptr b2 0),(85,.slice cv.wa c.writes.length cv.wc),(86,vi c.writes.length),(87,vi k)]) c.writes.length
        ⟨0,pv,lo,hc,by omega,I6,g.cells,F1,F2,rfl,rfl,fun _ _ h => h,Nat.le_refl _,e06.gr _,rfl⟩ ?_
       rintro m σ h7 ⟨k,pv',lo',hc',hk,I7,g7,G1,G2,hra,hda,hbl,z7,K7,rfl⟩ Q2 hnx2 hex2 hrt2 _
       (try simp (maxSteps:=1000000) (disch:=first|exact Lb rfl|omega) only [AXS,AXB,J.dst,reduceIte,Z1,Z2,Z3,Z4,Z5]); rw [f127c28_eq]; (try simp (maxSteps:=1000000) (disch:=first|exact Lb rfl|omega) only [AXS,AXB,J.dst,reduceIte,Z1,Z2,Z3,Z4,Z5,f127r18]); rw [f127c29_eq]; (try simp (maxSteps:=1000000) (disch:=first|exact Lb rfl|omega) only [AXS,AXB,J.dst,reduceIte,Z1,Z2,Z3,Z4,Z5])
       refine ⟨fun hh => ?_,fun hh => ?_⟩
       ·have hkl : k < c.writes.length := by have := of_decide_eq_true hh; omega
        obtain ⟨w,hx⟩ := get_ex hkl
        obtain ⟨b',o,hsa,_,hrow⟩ := (C0.writes.ext I7.ext).elem eWri_len hx
        (try simp (maxSteps:=1000000) (disch:=first|exact Lb rfl|omega) only [AXS,AXB,J.dst,reduceIte,Z1,Z2,Z3,Z4,Z5]); rw [f127c30_eq]; (try simp (maxSteps:=1000000) (disch:=first|exact Lb rfl|omega) only [AXS,AXB,J.dst,reduceIte,Z1,Z2,Z3,Z4,Z5,row_wri hrow,hsa]); rw [f127c31_eq]; (try simp (maxSteps:=1000000) (disch:=first|exact Lb rfl|omega) only [AXS,AXB,J.dst,reduceIte,Z1,Z2,Z3,Z4,Z5,f127r19,row_wri hrow,hsa])
        refine ⟨by omega,by omega,?_⟩
        refine wL_newN ?_; rintro b8 h8 e8 s8 hb8 B8
        try simp (maxSteps:=1000000) (disch:=first|exact Lb rfl|omega) only [AXS,AXB,J.dst,reduceIte,Z1,Z2,Z3,Z4,Z5]
        refine wL_stN rfl rfl rfl B8 (by decide) (eWri_one w) ?_
        rintro h9 u9 (B9 : Blk _ _ _ (eWri w))
        have e79 := u9.ext e8 (by omega)
        have I9 := I7.exts e79
        have Bp9 := I9.b
        have J1 := G1.ext e79
        have z9 := e79.size
        have z9' := u9.size
        try simp (maxSteps:=1000000) (disch:=first|exact Lb rfl|omega) only [AXS,AXB,J.dst,reduceIte,Z1,Z2,Z3,Z4,Z5]
        rw [f127c32_eq]
        refine ⟨fun b => b < h9.size ∧ b ≠ bp,fun b hb => hb.1,?_⟩
        have hb1p : b1 ≠ bp := by omega
        have hb8p : b8 ≠ bp := by omega
        simp (maxSteps:=1000000) (disch:=first|exact Lb rfl|omega) only [AXS,AXB,J.dst,reduceIte,Z1,Z2,Z3,Z4,Z5,f127r20,Bp9.cel,ePr,B9.rd,eWri,J1.rd,J1.cel,eCm,hcs,I9.o.cn]
        refine ⟨⟨by omega,hb8p⟩,⟨by omega,hb1p⟩,⟨by omega,hb1p⟩,⟨by omega,hb1p⟩,?_⟩
        have hfold : (c.writes.take (k + 1)).foldl (fun cs w => lockL cs w (lkC c)) p.cells = lockL ((c.writes.take k).foldl (fun cs w => lockL cs w (lkC c)) p.cells) w (lkC c) := by
         rw [List.take_add_one,hx]; simp [List.foldl_append]
        refine lockG g7 (by omega) I9.cells w (lkC c) ?_
        intro a' c' h10 g10 O10 e10
        refine ⟨fun b hb => e10.at_ b hb.1,?_⟩
        try simp (maxSteps:=1000000) (disch:=first|exact Lb rfl|omega) only [AXS,AXB,J.dst,reduceIte,Z1,Z2,Z3,Z4,Z5]
        refine wL_stD rfl rfl (fun hb => hb.2 rfl) rfl (I9.b.ext e10) (by rw [ePr_len]; exact Nat.le_of_ble_eq_true rfl) slice_one ?_
        rintro h11 u11 (B11 : Blk _ _ _ (ePr { pv' with ca := a',cn := (lockL ((c.writes.take k).foldl (fun cs w => lockL cs w (lkC c)) p.cells) w (lkC c)).length,cc := c' }))
        try simp (maxSteps:=1000000) (disch:=first|exact Lb rfl|omega) only [AXS,AXB,J.dst,reduceIte,Z1,Z2,Z3,Z4,Z5]
        have I11 := I9.putC O10 e10 u11 B11
        have z10 := e10.size
        have z11 := u11.size
        (try simp (maxSteps:=1000000) (disch:=first|exact Lb rfl|omega) only [AXS,AXB,J.dst,reduceIte,Z1,Z2,Z3,Z4,Z5]); rw [f127c33_eq]; (try simp (maxSteps:=1000000) (disch:=first|exact Lb rfl|omega) only [AXS,AXB,J.dst,reduceIte,Z1,Z2,Z3,Z4,Z5,f127r21])
        rw [i64_wrap (by omega) (by omega)]
        exact hnx2 (m - 1) _ _ (by omega) ⟨k + 1, { pv' with ca := a',cn := (lockL ((c.writes.take k).foldl (fun cs w => lockL cs w (lkC c)) p.cells) w (lkC c)).length,cc := c' },h9.size,h10,by omega,by rw [hfold]; exact I11,by rw [hfold]; exact g10,u11.blk (J1.ext e10) hb1p,u11.blk ((G2.ext e79).ext e10) (by omega),hra,hda,fun b hb hap => ⟨.inl (by omega),(hbl b hb hap).2⟩,by omega,Gr.upd (K7.exts (e79.trans e10)) u11 (.inl rfl),by rw [hsa]; rfl⟩
       ·have hkl : k = c.writes.length := by have := of_decide_eq_false hh; omega
        subst hkl
        rw [List.take_length] at I7
        refine hex2 _ _ ?_
        (try simp (maxSteps:=1000000) (disch:=first|exact Lb rfl|omega) only [AXS,AXB,J.dst,reduceIte,Z1,Z2,Z3,Z4,Z5]); rw [f127c34_eq]; (try simp (maxSteps:=1000000) (disch:=first|exact Lb rfl|omega) only [AXS,AXB,J.dst,reduceIte,Z1,Z2,Z3,Z4,Z5,f127r22])
        refine wL_stN rfl rfl rfl G2 (by decide) (eRp_one ⟨okS,none,0,0⟩) ?_
        rintro h8 u8 (B8 : Blk _ _ _ (eRp ⟨okS,none,0,0⟩))
        simp (maxSteps:=1000000) (disch:=first|exact Lb rfl|omega) only [AXS,AXB,J.dst,reduceIte,Z1,Z2,Z3,Z4,Z5,B8.rd,eRp]
        have hap := I.ap (b := b2) (by omega)
        have := hR pv' ⟨okS,none,0,0⟩ h8 (by
         rw [hl]
         exact (I7.boxA (by omega) (by omega) (hbl b2 (by omega) hap) u8).out (RpO.none _ _ _) (K7.upd u8 (.inr (by omega))) (fun b hb h => hbl b (by omega) h) (fun k hk => by cases hk))
        exact this
 try simp (maxSteps:=1000000) (disch:=first|exact Lb rfl|omega) only [AXS,AXB,J.dst,reduceIte,Z1,Z2,Z3,Z4,Z5]
 rw [f127c1_eq]
 refine drt_lt ?_
 simp only [f127r1,wT_one,wT_alt,wT_nil]
 simp (maxSteps:=1000000) (disch:=first|exact Lb rfl|omega) only [AXS,AXB,J.dst,reduceIte,Z1,Z2,Z3,Z4,Z5,Bp.cel,ePr,B1.rd,eCm,hcs,hdn]
 have z1 := e02.size
 refine ⟨by omega,by omega,?_,?_⟩
 ·refine findO_ok p.done c.s.by_ _ I2.dones (by unfold maxLen; omega) ?_
  intro h3 e3
  refine ⟨kp_ext (Nat.le_refl _) e3,?_⟩
  try simp (maxSteps:=1000000) (disch:=first|exact Lb rfl|omega) only [AXS,AXB,J.dst,reduceIte,Z1,Z2,Z3,Z4,Z5]
  have z3 := e3.size
  refine wL_newD e3.size ?_; rintro b5 h4 e4 s4 hb5 B5
  try simp (maxSteps:=1000000) (disch:=first|exact Lb rfl|omega) only [AXS,AXB,J.dst,reduceIte,Z1,Z2,Z3,Z4,Z5]
  refine wL_stD rfl rfl (by omega) rfl B5 (by decide) (eOut_one ((findO p.done c.s.by_).getD noOut)) ?_
  rintro h5 u5 (B6 : Blk _ _ _ (eOut ((findO p.done c.s.by_).getD noOut)))
  try simp (maxSteps:=1000000) (disch:=first|exact Lb rfl|omega) only [AXS,AXB,J.dst,reduceIte,Z1,Z2,Z3,Z4,Z5]
  exact app h5 b5 (u5.ext (e3.trans e4) (by omega)) B6
 ·refine wL_newD (Nat.le_refl _) ?_; rintro b5 h3 e3 s3 hb5 B5
  try simp (maxSteps:=1000000) (disch:=first|exact Lb rfl|omega) only [AXS,AXB,J.dst,reduceIte,Z1,Z2,Z3,Z4,Z5]
  refine findO_ok p.done c.s.by_ _ (I2.exts e3).dones (by unfold maxLen; omega) ?_
  intro h4 e4
  refine ⟨kp_ext e3.size e4,?_⟩
  try simp (maxSteps:=1000000) (disch:=first|exact Lb rfl|omega) only [AXS,AXB,J.dst,reduceIte,Z1,Z2,Z3,Z4,Z5]
  refine wL_stD rfl rfl (by omega) rfl (B5.ext e4) (by decide) (eOut_one ((findO p.done c.s.by_).getD noOut)) ?_
  rintro h5 u5 (B6 : Blk _ _ _ (eOut ((findO p.done c.s.by_).getD noOut)))
  try simp (maxSteps:=1000000) (disch:=first|exact Lb rfl|omega) only [AXS,AXB,J.dst,reduceIte,Z1,Z2,Z3,Z4,Z5]
  exact app h5 b5 (u5.ext (e3.trans e4) (by omega)) B6
end Go.Proofs.Ytefghfgmkndikaa
namespace Go.AX
open Go
theorem wL_bslP {P : Program} {p : Nat → Prop} {h0 h : Heap} {r : List I} {C : Env → Heap → Prop} {σ : Env} {d t n : Nat} {z cs : List Value} {parts : List (Nat × Nat × Operand)} (hx : fillL σ z parts = some cs) (hp : ∀ b,p b → b < h.size)
  (H : ∀ b h',Ext h h' → h'.size = h.size + 1 → b = h.size → Blk h' b t cs → wL P (some ⟨p,h0⟩) r 0 C ((d,sl b 0 n n) :: σ) h') : wL P (some ⟨p,h0⟩) (.op (.bsl d t n z parts) :: r) 0 C σ h := by
 rw [wL_bsl,hx,bd_some]
 exact ⟨fun b hb => ((Ext.refl h).push _).at_ b (hp b hb),H _ _ ((Ext.refl h).push _) (by simp) rfl (Blk.new h t _)⟩
theorem PrO.records' {l0 lo : Nat} {hc h : Heap} {v : PrV} {p : Prt} (O : PrO l0 lo hc h v p) : Own l0 h 126 7 v.ra p.records.length v.rc (p.records.flatMap eOut) := by have := O.records; rw [O.rn] at this; exact this
theorem PrO.done' {l0 lo : Nat} {hc h : Heap} {v : PrV} {p : Prt} (O : PrO l0 lo hc h v p) : Own l0 h 126 7 v.da p.done.length v.dc (p.done.flatMap eOut) := by have := O.done; rw [O.dn] at this; exact this
/-- One more record. -/
theorem InP.putR {h0 h h1 h2 h3 hc : Heap} {bp lo n c : Nat} {a : Option Addr} {v : PrV} {p : Prt} (I : InP h0 h bp v p lo hc) {x : Out} (E : Ext h h1) (O : Own h0.size h2 126 7 a n c ((p.records ++ [x]).flatMap eOut)) (hn : n = (p.records ++ [x]).length) (G : Gr (ob v.ra) h1 h2)
  (A : ob a = ob v.ra ∨ ∃ k,ob a = some k ∧ h1.size ≤ k) (u : Upd bp h2 h3) (B : Blk h3 bp 116 (ePr { v with ra := a,rn := n,rc := c })) : InP h0 h3 bp { v with ra := a,rn := n,rc := c } { p with records := p.records ++ [x] } lo hc := by
 have z := I.sizes
 have hr := I.o.records.ob
 have hd := I.o.done.ob
 have hd' := I.o.da
 have hs := E.size
 have hg := G.size
 have hu := u.size
 have hra : ob a ≠ some bp := by
  rcases A with e | ⟨k,e,hk⟩
  ·rw [e]; exact I.ra
  ·rw [e]; intro e'; cases e'; omega
 refine ⟨u.ext (G.ext (I.ext.trans E) fun k hk => (hr k hk).1) z.2.2.2.2,⟨I.o.s,I.o.cn,hn,I.o.dn,I.o.cells,⟨z.1,z.2.1,by omega⟩,fun b h4 h5 => ?_,?_,?_,fun k hk => ?_,I.o.da,fun k hk hk' => ?_⟩,B,I.at_,hra,I.da⟩
 ·have h6 := I.o.ra b
  have h7 := I.at_.2
  rw [u.ne b (by omega),G.at_ b (by omega) (fun e => by have := h6 e.symm; omega),E.at_ b (by omega)]
  exact I.o.kept b h4 h5
 ·exact O.gr u.gr fun k hk e => by cases e; exact hra hk
 ·exact ((I.o.done.ext E).gr G fun k hk e => I.o.apart k e hk).gr u.gr fun k hk e => by cases e; exact I.da hk
 ·rcases A with e | ⟨j,e,hj⟩
  ·exact I.o.ra k (e ▸ hk)
  ·rw [e] at hk; cases hk; omega
 ·rcases A with e | ⟨j,e,hj⟩
  ·exact I.o.apart k (e ▸ hk) hk'
  ·rw [e] at hk; cases hk; have := (hd _ hk').2; omega
/-- One more of those done. -/
theorem InP.putD {h0 h h1 h2 h3 hc : Heap} {bp lo n c : Nat} {a : Option Addr} {v : PrV} {p : Prt} (I : InP h0 h bp v p lo hc) {x : Out} (E : Ext h h1) (O : Own h0.size h2 126 7 a n c ((p.done ++ [x]).flatMap eOut)) (hn : n = (p.done ++ [x]).length) (G : Gr (ob v.da) h1 h2)
  (A : ob a = ob v.da ∨ ∃ k,ob a = some k ∧ h1.size ≤ k) (u : Upd bp h2 h3) (B : Blk h3 bp 116 (ePr { v with da := a,dn := n,dc := c })) : InP h0 h3 bp { v with da := a,dn := n,dc := c } { p with done := p.done ++ [x] } lo hc := by
 have z := I.sizes
 have hr := I.o.records.ob
 have hd := I.o.done.ob
 have hs := E.size
 have hg := G.size
 have hu := u.size
 have hda : ob a ≠ some bp := by
  rcases A with e | ⟨k,e,hk⟩
  ·rw [e]; exact I.da
  ·rw [e]; intro e'; cases e'; omega
 refine ⟨u.ext (G.ext (I.ext.trans E) fun k hk => (hd k hk).1) z.2.2.2.2,⟨I.o.s,I.o.cn,I.o.rn,hn,I.o.cells,⟨z.1,z.2.1,by omega⟩,fun b h4 h5 => ?_,?_,?_,I.o.ra,fun k hk => ?_,fun k hk hk' => ?_⟩,B,I.at_,I.ra,hda⟩
 ·have h6 := I.o.da b
  have h7 := I.at_.2
  rw [u.ne b (by omega),G.at_ b (by omega) (fun e => by have := h6 e.symm; omega),E.at_ b (by omega)]
  exact I.o.kept b h4 h5
 ·exact ((I.o.records.ext E).gr G fun k hk e => I.o.apart k hk e).gr u.gr fun k hk e => by cases e; exact I.ra hk
 ·exact O.gr u.gr fun k hk e => by cases e; exact hda hk
 ·rcases A with e | ⟨j,e,hj⟩
  ·exact I.o.da k (e ▸ hk)
  ·rw [e] at hk; cases hk; omega
 ·rcases A with e | ⟨j,e,hj⟩
  ·exact I.o.apart k hk (e ▸ hk')
  ·rw [e] at hk'; cases hk'; have := (hr _ hk).2; omega
theorem OutP.mk' {h0 h h' hc hc0 : Heap} {bp lo lo0 : Nat} {v v0 : PrV} {p : Prt} (I : InP h0 h' bp v p lo hc) (z : h.size ≤ h'.size) (s : RpS) (F : ∀ b,b < h.size → ApP b lo0 hc0 v0 → ApP b lo hc v) (G : ∀ b,b < h.size → b ≠ bp → ApP b lo0 hc0 v0 → h'[b]? = h[b]?) : OutP h0 h h' bp v0 lo0 hc0 v p ⟨s,none,0,0⟩ ⟨s,[]⟩ :=
 ⟨z,lo,hc,I,RpO.none _ _ _,F,G,fun k hk => by cases hk⟩
/-- An answer: what was there and one more. -/
theorem ap_app {lo : Nat} {hc h1 : Heap} {v v' : PrV} {a : Option Addr} {b : Nat} (A : ob a = ob v.ra ∨ ∃ k,ob a = some k ∧ h1.size ≤ k) (h : ApP b lo hc v) (hb : b < h1.size) (h1 : v'.ra = a) (h2 : v'.da = v.da) : ApP b lo hc v' := by
 refine ⟨h.1,?_,by rw [h2]; exact h.2.2⟩
 rw [h1]
 rcases A with e | ⟨k,e,hk⟩
 ·rw [e]; exact h.2.1
 ·rw [e]; intro e'; cases e'; omega
theorem ap_app' {lo : Nat} {hc h1 : Heap} {v v' : PrV} {a : Option Addr} {b : Nat} (A : ob a = ob v.da ∨ ∃ k,ob a = some k ∧ h1.size ≤ k) (h : ApP b lo hc v) (hb : b < h1.size) (h1 : v'.da = a) (h2 : v'.ra = v.ra) : ApP b lo hc v' := by
 refine ⟨h.1,by rw [h2]; exact h.2.1,?_⟩
 rw [h1]
 rcases A with e | ⟨k,e,hk⟩
 ·rw [e]; exact h.2.2
 ·rw [e]; intro e'; cases e'; omega
end Go.AX
namespace Go.Proofs.Ytefghfgmkndikaa
open Go Go.AX
theorem does_ok {h0 h hc : Heap} {bp lo n : Nat} {pv : PrV} {p : Prt} {cv : CmV} {c : Cmd} {B : Nat → Prop} (I : InP h0 h bp pv p lo hc) (C0 : CmR B h0 cv c) (g : SzP n p) (hn : n + c.writes.length ≤ 900000) (hs : c.spans.length ≤ big) {R : Value → Heap → Prop}
  (hR : ∀ pv' rv h',OutP h0 h h' bp pv lo hc pv' (doesP p c).1 rv (doesP p c).2 → R (.agg (eRp rv).toArray) h') : CallsH Try.prog 97 [ptr bp 0,.agg (eCm cv).toArray] h R := by
 have hbig : big = 1000000 := rfl
 have hn' : n ≤ 900000 := by omega
 have C := C0.ext I.ext
 have hps := I.o.s
 have hcs := C.s
 have hz := I.sizes
 have hcn := I.o.cn
 have hrn := I.o.rn
 have hdn := I.o.dn
 have gd := g.done
 have gr := g.records
 refine f97ok (by simp) ?_
 (try simp (maxSteps:=1000000) (disch:=first|exact Lb rfl|omega) only [AXS,AXB,J.dst,reduceIte,Z1,Z2,Z3,Z4,Z5]); rw [f97c0_eq]; (try simp (maxSteps:=1000000) (disch:=first|exact Lb rfl|omega) only [AXS,AXB,J.dst,reduceIte,Z1,Z2,Z3,Z4,Z5,f97r0])
 refine wL_boxN rfl ?_; rintro b1 h1 e1 s1 hb1 (B1 : Blk _ _ _ (eCm cv))
 refine wL_newN ?_; rintro b2 h2 e2 s2 hb2 B2
 replace B1 := B1.ext e2
 have e02 := e1.trans e2
 have z1 := e02.size
 have I2 := I.exts e02
 have Bp := I2.b
 (try simp (maxSteps:=1000000) (disch:=first|exact Lb rfl|omega) only [AXS,AXB,J.dst,reduceIte,Z1,Z2,Z3,Z4,Z5]); rw [f97c1_eq]; (try simp (maxSteps:=1000000) (disch:=first|exact Lb rfl|omega) only [AXS,AXB,J.dst,reduceIte,Z1,Z2,Z3,Z4,Z5,f97r1,B1.cel,eCm,hcs])
 rw [f97c2_eq]
 (try simp (maxSteps:=1000000) (disch:=first|exact Lb rfl|omega) only [AXS,AXB,J.dst,reduceIte,Z1,Z2,Z3,Z4,Z5]); rw [f97c3_eq]; (try simp (maxSteps:=1000000) (disch:=first|exact Lb rfl|omega) only [AXS,AXB,J.dst,reduceIte,Z1,Z2,Z3,Z4,Z5,f97r2]); rw [f97c4_eq]; (try simp (maxSteps:=1000000) (disch:=first|exact Lb rfl|omega) only [AXS,AXB,J.dst,reduceIte,Z1,Z2,Z3,Z4,Z5])
 refine ⟨fun k2 => ?_,fun k2 => ?_⟩
 ·have hl : doesP p c = readP p c := by unfold doesP; rw [if_pos (by simpa using k2)]
  (try simp (maxSteps:=1000000) (disch:=first|exact Lb rfl|omega) only [AXS,AXB,J.dst,reduceIte,Z1,Z2,Z3,Z4,Z5]); rw [f97c5_eq]; (try simp (maxSteps:=1000000) (disch:=first|exact Lb rfl|omega) only [AXS,AXB,J.dst,reduceIte,Z1,Z2,Z3,Z4,Z5,f97r3,B1.rd,eCm])
  refine read_ok I2 (C.ext e02) g hn' hs ?_
  intro pv' rv h3 O3
  refine ⟨trivial,?_⟩
  try simp (maxSteps:=1000000) (disch:=first|exact Lb rfl|omega) only [AXS,AXB,J.dst,reduceIte,Z1,Z2,Z3,Z4,Z5]
  have C2 : Blk h3 b2 47 _ := (O3.2.choose_spec.choose_spec.2.2.2.1 b2 (by omega) (by omega) (I.ap (by omega))).trans B2
  refine wL_stN rfl rfl rfl C2 (by decide) (eRp_one rv) ?_
  rintro h4 u4 (B4 : Blk _ _ _ (eRp rv))
  simp (maxSteps:=1000000) (disch:=first|exact Lb rfl|omega) only [AXS,AXB,J.dst,reduceIte,Z1,Z2,Z3,Z4,Z5,B4.rd,eRp]
  have := hR pv' rv h4 (by rw [hl]; exact O3.ret e02 (by omega) (by omega) (by omega) (by omega) (I.ap (by omega)) u4)
  exact this
 have k2' : ¬ c.s.kind = 2 := by simpa using k2
 (try simp (maxSteps:=1000000) (disch:=first|exact Lb rfl|omega) only [AXS,AXB,J.dst,reduceIte,Z1,Z2,Z3,Z4,Z5]); rw [f97c6_eq]; (try simp (maxSteps:=1000000) (disch:=first|exact Lb rfl|omega) only [AXS,AXB,J.dst,reduceIte,Z1,Z2,Z3,Z4,Z5,f97r4]); rw [f97c7_eq]; (try simp (maxSteps:=1000000) (disch:=first|exact Lb rfl|omega) only [AXS,AXB,J.dst,reduceIte,Z1,Z2,Z3,Z4,Z5])
 refine ⟨fun k3 => ?_,fun k3 => ?_⟩
 ·have hl : doesP p c = prepP p c := by unfold doesP; rw [if_neg k2',if_pos (by simpa using k3)]
  (try simp (maxSteps:=1000000) (disch:=first|exact Lb rfl|omega) only [AXS,AXB,J.dst,reduceIte,Z1,Z2,Z3,Z4,Z5]); rw [f97c8_eq]; (try simp (maxSteps:=1000000) (disch:=first|exact Lb rfl|omega) only [AXS,AXB,J.dst,reduceIte,Z1,Z2,Z3,Z4,Z5,f97r5,B1.rd,eCm])
  refine prep_ok I2 C0 g hn ?_
  intro pv' rv h3 O3
  refine ⟨trivial,?_⟩
  try simp (maxSteps:=1000000) (disch:=first|exact Lb rfl|omega) only [AXS,AXB,J.dst,reduceIte,Z1,Z2,Z3,Z4,Z5]
  have C2 : Blk h3 b2 47 _ := (O3.2.choose_spec.choose_spec.2.2.2.1 b2 (by omega) (by omega) (I.ap (by omega))).trans B2
  refine wL_stN rfl rfl rfl C2 (by decide) (eRp_one rv) ?_
  rintro h4 u4 (B4 : Blk _ _ _ (eRp rv))
  simp (maxSteps:=1000000) (disch:=first|exact Lb rfl|omega) only [AXS,AXB,J.dst,reduceIte,Z1,Z2,Z3,Z4,Z5,B4.rd,eRp]
  have := hR pv' rv h4 (by rw [hl]; exact O3.ret e02 (by omega) (by omega) (by omega) (by omega) (I.ap (by omega)) u4)
  exact this
 have k3' : ¬ c.s.kind = 3 := by simpa using k3
 (try simp (maxSteps:=1000000) (disch:=first|exact Lb rfl|omega) only [AXS,AXB,J.dst,reduceIte,Z1,Z2,Z3,Z4,Z5]); rw [f97c9_eq]; (try simp (maxSteps:=1000000) (disch:=first|exact Lb rfl|omega) only [AXS,AXB,J.dst,reduceIte,Z1,Z2,Z3,Z4,Z5,f97r6]); rw [f97c10_eq]; (try simp (maxSteps:=1000000) (disch:=first|exact Lb rfl|omega) only [AXS,AXB,J.dst,reduceIte,Z1,Z2,Z3,Z4,Z5])
 refine ⟨fun k4 => ?_,fun k4 => ?_⟩
 ·have hl : doesP p c = match findO p.records c.s.by_ with
   | some o => (p,⟨{ okS with yes := o.yes,at_ := o.at_ },[]⟩)
   | none => ({ p with records := p.records ++ [outC c] },⟨{ okS with yes := c.s.yes,at_ := c.s.at_ },[]⟩) := by
   unfold doesP; rw [if_neg k2',if_neg k3',if_pos (by simpa using k4)]; (try rfl)
  have app : ∀ h3 b5,Ext h2 h3 → Blk h3 b5 126 (eOut ((findO p.records c.s.by_).getD noOut)) → h2.size ≤ b5 →
    wC Try.prog f97c12 (X.inBlock 0 (X.then (fun σ h => wC Try.prog f97c34 (endW [.cell 4 11] R) σ h) (endW [.cell 4 11] R))) [(0,ptr bp 0),(3,ptr b1 0),(4,ptr b2 0),(5,ptr b5 0),(6,.bool (findO p.records c.s.by_).isSome)] h3 := by
   intro h3 b5 e3 B5 hb5
   have I3 := I2.exts e3
   have Bp3 := I3.b
   have C1 := B1.ext e3
   have C2 := B2.ext e3
   have z3 := e3.size
   (try simp (maxSteps:=1000000) (disch:=first|exact Lb rfl|omega) only [AXS,AXB,J.dst,reduceIte,Z1,Z2,Z3,Z4,Z5]); rw [f97c12_eq]; (try simp (maxSteps:=1000000) (disch:=first|exact Lb rfl|omega) only [AXS,AXB,J.dst,reduceIte,Z1,Z2,Z3,Z4,Z5,f97r8]); rw [f97c13_eq]; (try simp (maxSteps:=1000000) (disch:=first|exact Lb rfl|omega) only [AXS,AXB,J.dst,reduceIte,Z1,Z2,Z3,Z4,Z5])
   refine ⟨fun hh => ?_,fun hh => ?_⟩
   ·obtain ⟨o,ho⟩ := Option.isSome_iff_exists.1 hh
    rw [ho,Option.getD_some] at B5
    rw [ho] at hl
    (try simp (maxSteps:=1000000) (disch:=first|exact Lb rfl|omega) only [AXS,AXB,J.dst,reduceIte,Z1,Z2,Z3,Z4,Z5]); rw [f97c14_eq]; (try simp (maxSteps:=1000000) (disch:=first|exact Lb rfl|omega) only [AXS,AXB,J.dst,reduceIte,Z1,Z2,Z3,Z4,Z5,f97r9,B5.cel,B5.rd,eOut])
    refine wL_stN rfl rfl rfl C2 (by decide) (eRp_one ⟨{ okS with yes := o.yes,at_ := o.at_ },none,0,0⟩) ?_
    rintro h4 u4 (B4 : Blk _ _ _ (eRp ⟨{ okS with yes := o.yes,at_ := o.at_ },none,0,0⟩))
    simp (maxSteps:=1000000) (disch:=first|exact Lb rfl|omega) only [AXS,AXB,J.dst,reduceIte,Z1,Z2,Z3,Z4,Z5,B4.rd,eRp]
    have := hR pv ⟨{ okS with yes := o.yes,at_ := o.at_ },none,0,0⟩ h4 (by rw [hl]; exact OutP.same I (e02.trans e3) (by omega) u4 _)
    exact this
   ·have hno : findO p.records c.s.by_ = none := by simpa using hh
    rw [hno] at hl
    clear B5
    try simp (maxSteps:=1000000) (disch:=first|exact Lb rfl|omega) only [AXS,AXB,J.dst,reduceIte,Z1,Z2,Z3,Z4,Z5]
    rw [f97c15_eq]
    refine ⟨fun b => b < h3.size ∧ b ≠ bp ∧ some b ≠ ob pv.ra,fun b hb => hb.1,?_⟩
    simp only [f97r10,wT_one,wT_alt,wT_nil]
    have hb1p : b1 ≠ bp := by omega
    have hb1r : some b1 ≠ ob pv.ra := fun e => (I.apart (b := b1) (by omega)).1 e.symm
    simp (maxSteps:=1000000) (disch:=first|exact Lb rfl|omega) only [AXS,AXB,J.dst,reduceIte,Z1,Z2,Z3,Z4,Z5,C1.cel,C1.rd,eCm,hcs,Bp3.cel,ePr,hrn]
    refine ⟨⟨by omega,hb1p,hb1r⟩,⟨by omega,hb1p,hb1r⟩,⟨by omega,hb1p,hb1r⟩,?_,?_⟩
    all_goals
     refine wL_bslP rfl (fun b hb => hb.1) ?_; rintro b4 h4 e4 s4 hb4 (B4 : Blk _ _ _ (eOut (outC c)))
     have I4 := I3.exts e4
     have Bp4 := I4.b
     try simp (maxSteps:=1000000) (disch:=first|exact Lb rfl|omega) only [AXS,AXB,J.dst,reduceIte,Z1,Z2,Z3,Z4,Z5,Bp4.cel,ePr,hrn]
     rw [wL_raw]
     refine raw_append slT114 rfl rfl rfl I4.o.records' (news := eOut (outC c)) (by rw [eOut_len]) (.inr ⟨b4,0,rfl,B4.row⟩) (eOut_one _) (by unfold maxLen; omega) (by omega) (by omega) ?_
     intro a5 c5 h5 O5 G5 A5
     have z5 := G5.size
     refine ⟨fun b hb => G5.at_ b (by have := hb.1; omega) hb.2.2,?_⟩
     try simp (maxSteps:=1000000) (disch:=first|exact Lb rfl|omega) only [AXS,AXB,J.dst,reduceIte,Z1,Z2,Z3,Z4,Z5]
     refine wL_stD rfl rfl (fun hb => hb.2.1 rfl) rfl (G5.blk Bp4 (fun e => I.ra e.symm)) (by rw [ePr_len]; exact Nat.le_of_ble_eq_true rfl) slice_one ?_
     rintro h6 u6 (B6 : Blk _ _ _ (ePr { pv with ra := a5,rn := p.records.length + 1,rc := c5 }))
     try simp (maxSteps:=1000000) (disch:=first|exact Lb rfl|omega) only [AXS,AXB,J.dst,reduceIte,Z1,Z2,Z3,Z4,Z5]
     have I6 := I3.putR e4 (x := outC c) (by rw [List.flatMap_append]; simpa using O5) (by simp) G5 A5 u6 B6
     have ap1 := I.ap (b := b1) (by omega)
     have ap2 := I.ap (b := b2) (by omega)
     have D1 := u6.blk (G5.blk (C1.ext e4) hb1r) hb1p
     have D2 := u6.blk (G5.blk (C2.ext e4) (fun e => ap2.2.1 e.symm)) (by omega)
     (try simp (maxSteps:=1000000) (disch:=first|exact Lb rfl|omega) only [AXS,AXB,J.dst,reduceIte,Z1,Z2,Z3,Z4,Z5]); rw [f97c16_eq]; (try simp (maxSteps:=1000000) (disch:=first|exact Lb rfl|omega) only [AXS,AXB,J.dst,reduceIte,Z1,Z2,Z3,Z4,Z5,f97r11,D1.cel,D1.rd,eCm,hcs])
     refine wL_stN rfl rfl rfl D2 (by decide) (eRp_one ⟨{ okS with yes := c.s.yes,at_ := c.s.at_ },none,0,0⟩) ?_
     rintro h7 u7 (B7 : Blk _ _ _ (eRp ⟨{ okS with yes := c.s.yes,at_ := c.s.at_ },none,0,0⟩))
     simp (maxSteps:=1000000) (disch:=first|exact Lb rfl|omega) only [AXS,AXB,J.dst,reduceIte,Z1,Z2,Z3,Z4,Z5,B7.rd,eRp]
     have z6 := u6.size
     have z7 := u7.size
     have := hR _ ⟨{ okS with yes := c.s.yes,at_ := c.s.at_ },none,0,0⟩ h7 (by
      rw [hl]
      refine OutP.mk' (I6.boxA (by omega) (by omega) (ap_app A5 ap2 (by omega) rfl rfl) u7) (by omega) _ (fun b hb h => ap_app A5 h (by omega) rfl rfl) (fun b hb hne h => ?_)
      rw [u7.ne b (by omega),u6.ne b hne,G5.at_ b (by omega) (fun e => h.2.1 e.symm),((e02.trans e3).trans e4).at_ b hb])
     exact this
  try simp (maxSteps:=1000000) (disch:=first|exact Lb rfl|omega) only [AXS,AXB,J.dst,reduceIte,Z1,Z2,Z3,Z4,Z5]
  rw [f97c11_eq]
  refine drt_lt ?_
  simp only [f97r7,wT_one,wT_alt,wT_nil]
  simp (maxSteps:=1000000) (disch:=first|exact Lb rfl|omega) only [AXS,AXB,J.dst,reduceIte,Z1,Z2,Z3,Z4,Z5,Bp.cel,ePr,B1.rd,eCm,hcs,hrn]
  refine ⟨by omega,by omega,?_,?_⟩
  ·refine findO_ok p.records c.s.by_ _ I2.recs (by unfold maxLen; omega) ?_
   intro h3 e3
   refine ⟨kp_ext (Nat.le_refl _) e3,?_⟩
   try simp (maxSteps:=1000000) (disch:=first|exact Lb rfl|omega) only [AXS,AXB,J.dst,reduceIte,Z1,Z2,Z3,Z4,Z5]
   have z3 := e3.size
   refine wL_newD e3.size ?_; rintro b5 h4 e4 s4 hb5 B5
   try simp (maxSteps:=1000000) (disch:=first|exact Lb rfl|omega) only [AXS,AXB,J.dst,reduceIte,Z1,Z2,Z3,Z4,Z5]
   refine wL_stD rfl rfl (by omega) rfl B5 (by decide) (eOut_one ((findO p.records c.s.by_).getD noOut)) ?_
   rintro h5 u5 (B6 : Blk _ _ _ (eOut ((findO p.records c.s.by_).getD noOut)))
   try simp (maxSteps:=1000000) (disch:=first|exact Lb rfl|omega) only [AXS,AXB,J.dst,reduceIte,Z1,Z2,Z3,Z4,Z5]
   exact app h5 b5 (u5.ext (e3.trans e4) (by omega)) B6 (by omega)
  ·refine wL_newD (Nat.le_refl _) ?_; rintro b5 h3 e3 s3 hb5 B5
   try simp (maxSteps:=1000000) (disch:=first|exact Lb rfl|omega) only [AXS,AXB,J.dst,reduceIte,Z1,Z2,Z3,Z4,Z5]
   refine findO_ok p.records c.s.by_ _ (I2.exts e3).recs (by unfold maxLen; omega) ?_
   intro h4 e4
   refine ⟨kp_ext e3.size e4,?_⟩
   try simp (maxSteps:=1000000) (disch:=first|exact Lb rfl|omega) only [AXS,AXB,J.dst,reduceIte,Z1,Z2,Z3,Z4,Z5]
   refine wL_stD rfl rfl (by omega) rfl (B5.ext e4) (by decide) (eOut_one ((findO p.records c.s.by_).getD noOut)) ?_
   rintro h5 u5 (B6 : Blk _ _ _ (eOut ((findO p.records c.s.by_).getD noOut)))
   try simp (maxSteps:=1000000) (disch:=first|exact Lb rfl|omega) only [AXS,AXB,J.dst,reduceIte,Z1,Z2,Z3,Z4,Z5]
   exact app h5 b5 (u5.ext (e3.trans e4) (by omega)) B6 (by omega)
 have k4' : ¬ c.s.kind = 4 := by simpa using k4
 (try simp (maxSteps:=1000000) (disch:=first|exact Lb rfl|omega) only [AXS,AXB,J.dst,reduceIte,Z1,Z2,Z3,Z4,Z5]); rw [f97c17_eq]; (try simp (maxSteps:=1000000) (disch:=first|exact Lb rfl|omega) only [AXS,AXB,J.dst,reduceIte,Z1,Z2,Z3,Z4,Z5,f97r12]); rw [f97c18_eq]; (try simp (maxSteps:=1000000) (disch:=first|exact Lb rfl|omega) only [AXS,AXB,J.dst,reduceIte,Z1,Z2,Z3,Z4,Z5])
 refine ⟨fun k5 => ?_,fun k5 => ?_⟩
 ·have hl : doesP p c = ({ p with cells := settleL p.cells c.s.by_ c.s.yes,done := match findO p.done c.s.by_ with | some _ => p.done | none => p.done ++ [outC c] },⟨okS,[]⟩) := by
   unfold doesP; rw [if_neg k2',if_neg k3',if_neg k4',if_pos (by simpa using k5)]; (try rfl)
  try simp (maxSteps:=1000000) (disch:=first|exact Lb rfl|omega) only [AXS,AXB,J.dst,reduceIte,Z1,Z2,Z3,Z4,Z5]
  rw [f97c19_eq]
  refine ⟨fun b => b < h2.size ∧ b ≠ bp,fun b hb => hb.1,?_⟩
  have hb1p : b1 ≠ bp := by omega
  simp (maxSteps:=1000000) (disch:=first|exact Lb rfl|omega) only [AXS,AXB,J.dst,reduceIte,Z1,Z2,Z3,Z4,Z5,f97r13,Bp.cel,ePr,B1.cel,B1.rd,eCm,hcs,hcn]
  refine ⟨⟨by omega,hb1p⟩,⟨by omega,hb1p⟩,?_⟩
  refine settleG g.cells hn' I2.cells c.s.by_ c.s.yes ?_
  intro ca cc h3 g3 O3 e3
  refine ⟨fun b hb => e3.at_ b hb.1,?_⟩
  try simp (maxSteps:=1000000) (disch:=first|exact Lb rfl|omega) only [AXS,AXB,J.dst,reduceIte,Z1,Z2,Z3,Z4,Z5]
  refine wL_stD rfl rfl (fun hb => hb.2 rfl) rfl (Bp.ext e3) (by rw [ePr_len]; exact Nat.le_of_ble_eq_true rfl) slice_one ?_
  rintro h4 u4 (B4 : Blk _ _ _ (ePr { pv with ca := ca,cn := (settleL p.cells c.s.by_ c.s.yes).length,cc := cc }))
  try simp (maxSteps:=1000000) (disch:=first|exact Lb rfl|omega) only [AXS,AXB,J.dst,reduceIte,Z1,Z2,Z3,Z4,Z5]
  have I4 := I2.putC O3 e3 u4 B4
  have Bp4 := I4.b
  have C1 := u4.blk (B1.ext e3) hb1p
  have C2 := u4.blk (B2.ext e3) (by omega)
  have z3 := e3.size
  have z4 := u4.size
  have ap1 := I.ap (b := b1) (by omega)
  have ap2 := I.ap (b := b2) (by omega)
  have hfr : ∀ b,b < h2.size → ApP b lo hc pv → ApP b h2.size h3 { pv with ca := ca,cn := (settleL p.cells c.s.by_ c.s.yes).length,cc := cc } := fun b hb h => ⟨.inl hb,h.2⟩
  have hkp : ∀ b,b < h2.size → b ≠ bp → h4[b]? = h2[b]? := fun b hb hne => by rw [u4.ne b hne,e3.at_ b hb]
  have fin : ∀ (h6 : Heap) (pv6 : PrV) (d : List Out),InP h0 h6 bp pv6 { p with cells := settleL p.cells c.s.by_ c.s.yes,done := d } h2.size h3 → h4.size ≤ h6.size → Blk h6 b2 47 (eRp ⟨okS,none,0,0⟩) →
    (∀ b,b < h2.size → ApP b lo hc pv → ApP b h2.size h3 pv6) → (∀ b,b < h.size → b ≠ bp → ApP b lo hc pv → h6[b]? = h[b]?) → (d = match findO p.done c.s.by_ with | some _ => p.done | none => p.done ++ [outC c]) →
    ∀ τ,AX.look τ 4 = some (ptr b2 0) → wC Try.prog f97c24 (X.inBlock 0 (X.then (fun σ h => wC Try.prog f97c34 (endW [.cell 4 11] R) σ h) (endW [.cell 4 11] R))) τ h6 := by
   intro h6 pv6 d I6 z6 D2 hfr6 hkp6 hd τ hτ
   (try simp (maxSteps:=1000000) (disch:=first|exact Lb rfl|omega) only [AXS,AXB,J.dst,reduceIte,Z1,Z2,Z3,Z4,Z5]); rw [f97c24_eq]; (try simp (maxSteps:=1000000) (disch:=first|exact Lb rfl|omega) only [AXS,AXB,J.dst,reduceIte,Z1,Z2,Z3,Z4,Z5,f97r17,hτ])
   refine wL_stN hτ rfl rfl D2 (by decide) (eRp_one ⟨okS,none,0,0⟩) ?_
   rintro h7 u7 (B7 : Blk _ _ _ (eRp ⟨okS,none,0,0⟩))
   simp (maxSteps:=1000000) (disch:=first|exact Lb rfl|omega) only [AXS,AXB,J.dst,reduceIte,Z1,Z2,Z3,Z4,Z5,B7.rd,eRp,hτ]
   have := hR _ ⟨okS,none,0,0⟩ h7 (by
    rw [hl,← hd]
    refine OutP.mk' (I6.boxA (by omega) (by omega) (hfr6 b2 (by omega) ap2) u7) (by rw [u7.size]; omega) _ (fun b hb h => hfr6 b (by omega) h) (fun b hb hne h => ?_)
    rw [u7.ne b (by omega),hkp6 b hb hne h])
   exact this
  have app : ∀ h5,Ext h4 h5 → wC Try.prog f97c21 (X.inBlock 0 (X.then (fun σ h => wC Try.prog f97c34 (endW [.cell 4 11] R) σ h) (endW [.cell 4 11] R)))
    [(0,ptr bp 0),(3,ptr b1 0),(4,ptr b2 0),(8,.bool (findO p.done c.s.by_).isSome)] h5 := by
   intro h5 e5
   have I5 := I4.exts e5
   have Bp5 := I5.b
   have D1 := C1.ext e5
   have D2 := C2.ext e5
   have z5 := e5.size
   (try simp (maxSteps:=1000000) (disch:=first|exact Lb rfl|omega) only [AXS,AXB,J.dst,reduceIte,Z1,Z2,Z3,Z4,Z5]); rw [f97c21_eq]; (try simp (maxSteps:=1000000) (disch:=first|exact Lb rfl|omega) only [AXS,AXB,J.dst,reduceIte,Z1,Z2,Z3,Z4,Z5,f97r15]); rw [f97c22_eq]; (try simp (maxSteps:=1000000) (disch:=first|exact Lb rfl|omega) only [AXS,AXB,J.dst,reduceIte,Z1,Z2,Z3,Z4,Z5])
   refine ⟨fun hh => ?_,fun hh => ?_⟩
   ·have hno : findO p.done c.s.by_ = none := by simpa using hh
    try simp (maxSteps:=1000000) (disch:=first|exact Lb rfl|omega) only [AXS,AXB,J.dst,reduceIte,Z1,Z2,Z3,Z4,Z5]
    rw [f97c23_eq]
    refine ⟨fun b => b < h5.size ∧ b ≠ bp ∧ some b ≠ ob pv.da,fun b hb => hb.1,?_⟩
    simp only [f97r16,wT_one,wT_alt,wT_nil]
    have hb1r : some b1 ≠ ob pv.da := fun e => ap1.2.2 e.symm
    simp (maxSteps:=1000000) (disch:=first|exact Lb rfl|omega) only [AXS,AXB,J.dst,reduceIte,Z1,Z2,Z3,Z4,Z5,D1.cel,D1.rd,eCm,hcs,Bp5.cel,ePr,hdn]
    refine ⟨⟨by omega,hb1p,hb1r⟩,⟨by omega,hb1p,hb1r⟩,⟨by omega,hb1p,hb1r⟩,?_,?_⟩
    all_goals
     refine wL_bslP rfl (fun b hb => hb.1) ?_; rintro b6 h6 e6 s6 hb6 (B6 : Blk _ _ _ (eOut (outC c)))
     have I6 := I5.exts e6
     have Bp6 := I6.b
     try simp (maxSteps:=1000000) (disch:=first|exact Lb rfl|omega) only [AXS,AXB,J.dst,reduceIte,Z1,Z2,Z3,Z4,Z5,Bp6.cel,ePr,hdn]
     rw [wL_raw]
     refine raw_append slT114 rfl rfl rfl I6.o.done' (news := eOut (outC c)) (by rw [eOut_len]) (.inr ⟨b6,0,rfl,B6.row⟩) (eOut_one _) (by unfold maxLen; show p.done.length + 1 ≤ _; omega) (by show (p.done.length + 1) * 56 ≤ _; omega) (by omega) ?_
     intro a7 c7 h7 O7 G7 A7
     have z7 := G7.size
     refine ⟨fun b hb => G7.at_ b (by have := hb.1; omega) hb.2.2,?_⟩
     try simp (maxSteps:=1000000) (disch:=first|exact Lb rfl|omega) only [AXS,AXB,J.dst,reduceIte,Z1,Z2,Z3,Z4,Z5]
     refine wL_stD rfl rfl (fun hb => hb.2.1 rfl) rfl (G7.blk Bp6 (fun e => I.da e.symm)) (by rw [ePr_len]; exact Nat.le_of_ble_eq_true rfl) slice_one ?_
     rintro h8 u8 (B8 : Blk _ _ _ (ePr { pv with ca := ca,cn := (settleL p.cells c.s.by_ c.s.yes).length,cc := cc,da := a7,dn := p.done.length + 1,dc := c7 }))
     try simp (maxSteps:=1000000) (disch:=first|exact Lb rfl|omega) only [AXS,AXB,J.dst,reduceIte,Z1,Z2,Z3,Z4,Z5]
     have I8 := I5.putD e6 (x := outC c) (by rw [List.flatMap_append]; simpa using O7) (by simp) G7 A7 u8 B8
     have z8 := u8.size
     refine fin h8 _ _ I8 (by omega) (u8.blk (G7.blk (D2.ext e6) (fun e => ap2.2.2 e.symm)) (by omega)) (fun b hb h => ap_app' A7 (hfr b hb h) (by omega) rfl rfl) (fun b hb hne h => ?_) (by rw [hno]) _ rfl
     rw [u8.ne b hne,G7.at_ b (by omega) (fun e => h.2.2 e.symm),(e5.trans e6).at_ b (by omega),hkp b (by omega) hne,e02.at_ b hb]
   ·have hyes : (findO p.done c.s.by_).isSome = true := by simpa using hh
    obtain ⟨o,ho⟩ := Option.isSome_iff_exists.1 hyes
    refine fin h5 _ p.done I5 (by omega) D2 hfr (fun b hb hne h => ?_) (by rw [ho]) _ rfl
    rw [e5.at_ b (by omega),hkp b (by omega) hne,e02.at_ b hb]
  try simp (maxSteps:=1000000) (disch:=first|exact Lb rfl|omega) only [AXS,AXB,J.dst,reduceIte,Z1,Z2,Z3,Z4,Z5]
  rw [f97c20_eq]
  refine drt_lt ?_
  simp only [f97r14,wT_one,wT_alt,wT_nil]
  simp (maxSteps:=1000000) (disch:=first|exact Lb rfl|omega) only [AXS,AXB,J.dst,reduceIte,Z1,Z2,Z3,Z4,Z5,Bp4.cel,ePr,C1.rd,eCm,hcs,hdn]
  refine ⟨by omega,by omega,?_,?_⟩
  ·refine findO_ok p.done c.s.by_ _ I4.dones (by unfold maxLen; omega) ?_
   intro h5 e5
   refine ⟨kp_ext (Nat.le_refl _) e5,?_⟩
   try simp (maxSteps:=1000000) (disch:=first|exact Lb rfl|omega) only [AXS,AXB,J.dst,reduceIte,Z1,Z2,Z3,Z4,Z5]
   have z5 := e5.size
   refine wL_newD e5.size ?_; rintro b6 h6 e6 s6 hb6 B6
   try simp (maxSteps:=1000000) (disch:=first|exact Lb rfl|omega) only [AXS,AXB,J.dst,reduceIte,Z1,Z2,Z3,Z4,Z5]
   refine wL_stD rfl rfl (by omega) rfl B6 (by decide) (eOut_one ((findO p.done c.s.by_).getD noOut)) ?_
   rintro h7 u7 (B7 : Blk _ _ _ (eOut ((findO p.done c.s.by_).getD noOut)))
   try simp (maxSteps:=1000000) (disch:=first|exact Lb rfl|omega) only [AXS,AXB,J.dst,reduceIte,Z1,Z2,Z3,Z4,Z5]
   exact app h7 (u7.ext (e5.trans e6) (by omega))
  ·refine wL_newD (Nat.le_refl _) ?_; rintro b6 h5 e5 s5 hb6 B6
   try simp (maxSteps:=1000000) (disch:=first|exact Lb rfl|omega) only [AXS,AXB,J.dst,reduceIte,Z1,Z2,Z3,Z4,Z5]
   refine findO_ok p.done c.s.by_ _ (I4.exts e5).dones (by unfold maxLen; omega) ?_
   intro h6 e6
   refine ⟨kp_ext e5.size e6,?_⟩
   try simp (maxSteps:=1000000) (disch:=first|exact Lb rfl|omega) only [AXS,AXB,J.dst,reduceIte,Z1,Z2,Z3,Z4,Z5]
   refine wL_stD rfl rfl (by omega) rfl (B6.ext e6) (by decide) (eOut_one ((findO p.done c.s.by_).getD noOut)) ?_
   rintro h7 u7 (B7 : Blk _ _ _ (eOut ((findO p.done c.s.by_).getD noOut)))
   try simp (maxSteps:=1000000) (disch:=first|exact Lb rfl|omega) only [AXS,AXB,J.dst,reduceIte,Z1,Z2,Z3,Z4,Z5]
   exact app h7 (u7.ext (e5.trans e6) (by omega))
 have k5' : ¬ c.s.kind = 5 := by simpa using k5
 (try simp (maxSteps:=1000000) (disch:=first|exact Lb rfl|omega) only [AXS,AXB,J.dst,reduceIte,Z1,Z2,Z3,Z4,Z5]); rw [f97c25_eq]; (try simp (maxSteps:=1000000) (disch:=first|exact Lb rfl|omega) only [AXS,AXB,J.dst,reduceIte,Z1,Z2,Z3,Z4,Z5,f97r18]); rw [f97c26_eq]; (try simp (maxSteps:=1000000) (disch:=first|exact Lb rfl|omega) only [AXS,AXB,J.dst,reduceIte,Z1,Z2,Z3,Z4,Z5])
 refine ⟨fun k6 => ?_,fun k6 => ?_⟩
 ·have hl : doesP p c = ({ p with s := { p.s with closed := maxI p.s.closed (minI c.s.wall mostWall) } },⟨{ okS with wall := maxI p.s.closed (minI c.s.wall mostWall) },[]⟩) := by
   unfold doesP; rw [if_neg k2',if_neg k3',if_neg k4',if_neg k5',if_pos (by simpa using k6)]
  try simp (maxSteps:=1000000) (disch:=first|exact Lb rfl|omega) only [AXS,AXB,J.dst,reduceIte,Z1,Z2,Z3,Z4,Z5]
  rw [f97c27_eq]
  refine ⟨fun b => b < h2.size ∧ b ≠ bp,fun b hb => hb.1,?_⟩
  have hb1p : b1 ≠ bp := by omega
  simp (maxSteps:=1000000) (disch:=first|exact Lb rfl|omega) only [AXS,AXB,J.dst,reduceIte,Z1,Z2,Z3,Z4,Z5,f97r19,Bp.cel,ePr,B1.cel,eCm,hcs,hps,Bool.false_eq_true]
  refine ⟨⟨by omega,hb1p⟩,?_⟩
  refine wL_stD rfl rfl (fun hb => hb.2 rfl) rfl Bp (by rw [ePr_len]; exact Nat.le_of_ble_eq_true rfl) int_one ?_
  rintro h4 u4 (B4 : Blk _ _ _ (ePr { pv with s := { pv.s with closed := maxI p.s.closed (minI c.s.wall mostWall) } }))
  have I4 := I2.put _ u4 B4
  rw [hps] at I4
  have Bp4 := I4.b
  have ap2 := I.ap (b := b2) (by omega)
  have C2 := u4.blk B2 (by omega)
  have z4 := u4.size
  try simp (maxSteps:=1000000) (disch:=first|exact Lb rfl|omega) only [AXS,AXB,J.dst,reduceIte,Z1,Z2,Z3,Z4,Z5]
  (try simp (maxSteps:=1000000) (disch:=first|exact Lb rfl|omega) only [AXS,AXB,J.dst,reduceIte,Z1,Z2,Z3,Z4,Z5]); rw [f97c28_eq]; (try simp (maxSteps:=1000000) (disch:=first|exact Lb rfl|omega) only [AXS,AXB,J.dst,reduceIte,Z1,Z2,Z3,Z4,Z5,f97r20,Bp4.cel,ePr])
  refine wL_stN rfl rfl rfl C2 (by decide) (eRp_one ⟨{ okS with wall := maxI p.s.closed (minI c.s.wall mostWall) },none,0,0⟩) ?_
  rintro h5 u5 (B5 : Blk _ _ _ (eRp ⟨{ okS with wall := maxI p.s.closed (minI c.s.wall mostWall) },none,0,0⟩))
  simp (maxSteps:=1000000) (disch:=first|exact Lb rfl|omega) only [AXS,AXB,J.dst,reduceIte,Z1,Z2,Z3,Z4,Z5,B5.rd,eRp]
  have := hR _ ⟨{ okS with wall := maxI p.s.closed (minI c.s.wall mostWall) },none,0,0⟩ h5 (by
   rw [hl]
   refine OutP.mk' (I4.boxA (by omega) (by omega) ap2 u5) (by rw [u5.size]; omega) _ (fun b hb h => h) (fun b hb hne h => ?_)
   rw [u5.ne b (by omega),u4.ne b hne,e02.at_ b hb])
  exact this
 have k6' : ¬ c.s.kind = 6 := by simpa using k6
 (try simp (maxSteps:=1000000) (disch:=first|exact Lb rfl|omega) only [AXS,AXB,J.dst,reduceIte,Z1,Z2,Z3,Z4,Z5]); rw [f97c29_eq]; (try simp (maxSteps:=1000000) (disch:=first|exact Lb rfl|omega) only [AXS,AXB,J.dst,reduceIte,Z1,Z2,Z3,Z4,Z5,f97r21]); rw [f97c30_eq]; (try simp (maxSteps:=1000000) (disch:=first|exact Lb rfl|omega) only [AXS,AXB,J.dst,reduceIte,Z1,Z2,Z3,Z4,Z5])
 refine ⟨fun k7 => ?_,fun k7 => ?_⟩
 ·have hl : doesP p c = ({ p with s := { p.s with low := maxI p.s.low (minI c.s.wall p.s.closed) },cells := trimL p.cells ⟨maxI p.s.low (minI c.s.wall p.s.closed),0⟩ },⟨{ okS with wall := maxI p.s.low (minI c.s.wall p.s.closed) },[]⟩) := by
   unfold doesP; rw [if_neg k2',if_neg k3',if_neg k4',if_neg k5',if_neg k6',if_pos (by simpa using k7)]
  try simp (maxSteps:=1000000) (disch:=first|exact Lb rfl|omega) only [AXS,AXB,J.dst,reduceIte,Z1,Z2,Z3,Z4,Z5]
  rw [f97c31_eq]
  refine ⟨fun b => b < h2.size ∧ b ≠ bp,fun b hb => hb.1,?_⟩
  have hb1p : b1 ≠ bp := by omega
  simp only [f97r22,wT_one,wT_alt,wT_nil]
  simp (maxSteps:=1000000) (disch:=first|exact Lb rfl|omega) only [AXS,AXB,J.dst,reduceIte,Z1,Z2,Z3,Z4,Z5,Bp.cel,ePr,B1.cel,eCm,hcs,hps,Bool.false_eq_true]
  refine ⟨⟨by omega,hb1p⟩,?_,?_⟩
  all_goals
   refine wL_stD rfl rfl (fun hb => hb.2 rfl) rfl Bp (by rw [ePr_len]; exact Nat.le_of_ble_eq_true rfl) int_one ?_
   rintro h4 u4 (B4 : Blk _ _ _ (ePr { pv with s := { pv.s with low := maxI p.s.low (minI c.s.wall p.s.closed) } }))
   have I4 := I2.put _ u4 B4
   rw [hps] at I4
   have Bp4 := I4.b
   have ap2 := I.ap (b := b2) (by omega)
   have C2 := u4.blk B2 (by omega)
   have z4 := u4.size
   try simp (maxSteps:=1000000) (disch:=first|exact Lb rfl|omega) only [AXS,AXB,J.dst,reduceIte,Z1,Z2,Z3,Z4,Z5]
   rw [f97c32_eq]
   refine ⟨fun b => b < h4.size ∧ b ≠ bp,fun b hb => hb.1,?_⟩
   simp only [f97r23,wT_one,wT_alt,wT_nil]
   simp (maxSteps:=1000000) (disch:=first|exact Lb rfl|omega) only [AXS,AXB,J.dst,reduceIte,Z1,Z2,Z3,Z4,Z5,Bp4.cel,ePr,hcn]
   refine ⟨?_,?_⟩
   all_goals
    refine trimG g.cells hn' I4.cells ⟨maxI p.s.low (minI c.s.wall p.s.closed),0⟩ ?_
    intro ca cc h5 g5 O5 e5
    refine ⟨fun b hb => e5.at_ b hb.1,?_⟩
    try simp (maxSteps:=1000000) (disch:=first|exact Lb rfl|omega) only [AXS,AXB,J.dst,reduceIte,Z1,Z2,Z3,Z4,Z5]
    refine wL_stD rfl rfl (fun hb => hb.2 rfl) rfl (Bp4.ext e5) (by rw [ePr_len]; exact Nat.le_of_ble_eq_true rfl) slice_one ?_
    rintro h6 u6 (B6 : Blk _ _ _ (ePr { pv with s := { p.s with low := maxI p.s.low (minI c.s.wall p.s.closed) },ca := ca,cn := (trimL p.cells ⟨maxI p.s.low (minI c.s.wall p.s.closed),0⟩).length,cc := cc }))
    try simp (maxSteps:=1000000) (disch:=first|exact Lb rfl|omega) only [AXS,AXB,J.dst,reduceIte,Z1,Z2,Z3,Z4,Z5]
    have I6 := I4.putC O5 e5 u6 B6
    have Bp6 := I6.b
    have z5 := e5.size
    have z6 := u6.size
    (try simp (maxSteps:=1000000) (disch:=first|exact Lb rfl|omega) only [AXS,AXB,J.dst,reduceIte,Z1,Z2,Z3,Z4,Z5]); rw [f97c33_eq]; (try simp (maxSteps:=1000000) (disch:=first|exact Lb rfl|omega) only [AXS,AXB,J.dst,reduceIte,Z1,Z2,Z3,Z4,Z5,f97r24,Bp6.cel,ePr])
    refine wL_stN rfl rfl rfl (u6.blk (C2.ext e5) (by omega)) (by decide) (eRp_one ⟨{ okS with wall := maxI p.s.low (minI c.s.wall p.s.closed) },none,0,0⟩) ?_
    rintro h7 u7 (B7 : Blk _ _ _ (eRp ⟨{ okS with wall := maxI p.s.low (minI c.s.wall p.s.closed) },none,0,0⟩))
    simp (maxSteps:=1000000) (disch:=first|exact Lb rfl|omega) only [AXS,AXB,J.dst,reduceIte,Z1,Z2,Z3,Z4,Z5,B7.rd,eRp]
    have := hR _ ⟨{ okS with wall := maxI p.s.low (minI c.s.wall p.s.closed) },none,0,0⟩ h7 (by
     rw [hl]
     refine OutP.mk' (I6.boxA (by omega) (by omega) ⟨.inl (by omega),ap2.2⟩ u7) (by rw [u7.size]; omega) _ (fun b hb h => ⟨.inl (by omega),h.2⟩) (fun b hb hne h => ?_)
     rw [u7.ne b (by omega),u6.ne b hne,e5.at_ b (by omega),u4.ne b hne,e02.at_ b hb])
    exact this
 have k7' : ¬ c.s.kind = 7 := by simpa using k7
 have hl : doesP p c = (p,errR 9) := by
  unfold doesP; rw [if_neg k2',if_neg k3',if_neg k4',if_neg k5',if_neg k6',if_neg k7']
 (try simp (maxSteps:=1000000) (disch:=first|exact Lb rfl|omega) only [AXS,AXB,J.dst,reduceIte,Z1,Z2,Z3,Z4,Z5]); rw [f97c34_eq]; (try simp (maxSteps:=1000000) (disch:=first|exact Lb rfl|omega) only [AXS,AXB,J.dst,reduceIte,Z1,Z2,Z3,Z4,Z5,f97r25])
 refine wL_stN rfl rfl rfl B2 (by decide) (eRp_one ⟨(errR 9).s,none,0,0⟩) ?_
 rintro h3 u3 (B3 : Blk _ _ _ (eRp ⟨(errR 9).s,none,0,0⟩))
 simp (maxSteps:=1000000) (disch:=first|exact Lb rfl|omega) only [AXS,AXB,J.dst,reduceIte,Z1,Z2,Z3,Z4,Z5,B3.rd,eRp]
 have := hR pv ⟨(errR 9).s,none,0,0⟩ h3 (by rw [hl]; exact OutP.same I e02 (by omega) u3 _)
 exact this
end Go.Proofs.Ytefghfgmkndikaa
namespace Go.AX
open Go
theorem PrO.mono {l0 l1 lo : Nat} {hc h : Heap} {v : PrV} {p : Prt} (O : PrO l0 lo hc h v p) (x : l1 ≤ l0) : PrO l1 lo hc h v p := ⟨O.s,O.cn,O.rn,O.dn,O.cells,⟨Nat.le_trans x O.le.1,O.le.2⟩,O.kept,O.records.mono x,O.done.mono x,O.ra,O.da,O.apart⟩
theorem PrO.ap {l0 lo b : Nat} {hc h : Heap} {v : PrV} {p : Prt} (O : PrO l0 lo hc h v p) (hb : b < l0) : ApP b lo hc v :=
 ⟨.inl (Nat.lt_of_lt_of_le hb O.le.1),fun e => by have := (O.records.ob b e).1; omega,fun e => by have := (O.done.ob b e).1; omega⟩
theorem PrO.ap' {l0 lo b : Nat} {hc h : Heap} {v : PrV} {p : Prt} (O : PrO l0 lo hc h v p) (hb : h.size ≤ b) : ApP b lo hc v :=
 ⟨.inr (Nat.le_trans O.le.2.2 hb),fun e => by have := (O.records.ob b e).2; omega,fun e => by have := (O.done.ob b e).2; omega⟩
theorem PrO.grA {l0 lo : Nat} {hc h h' : Heap} {v : PrV} {p : Prt} (O : PrO l0 lo hc h v p) {row : Option Nat} (g : Gr row h h') (hr : ∀ k,row = some k → ApP k lo hc v) : PrO l0 lo hc h' v p := by
 have z := O.le
 have hne : ∀ b,lo ≤ b → b < hc.size → some b ≠ row := fun b h1 h2 e => by have := (hr b e.symm).1; omega
 exact ⟨O.s,O.cn,O.rn,O.dn,O.cells,⟨z.1,z.2.1,Nat.le_trans z.2.2 g.size⟩,fun b h1 h2 => (g.at_ b (by omega) (hne b h1 h2)).trans (O.kept b h1 h2),O.records.gr g (fun k hk e => (hr k e).2.1 hk),O.done.gr g (fun k hk e => (hr k e).2.2 hk),O.ra,O.da,O.apart⟩
end Go.AX
namespace Go.Proofs.Ytefghfgmkndikaa
open Go Go.AX
theorem apply_ok2 {B B' : Nat → Prop} {n : Nat} (pv : PrV) (p : Prt) (cv : CmV) (c : Cmd) (h : Heap) (S : PrR B h pv p) (C : CmR B' h cv c) (g : SzP n p) (hn : n + c.writes.length ≤ 900000) (hs : c.spans.length ≤ big) (he : 0 ≤ p.s.epoch) {R : Value → Heap → Prop}
  (hR : ∀ pv' rv h' lo' hc',PrO h.size lo' hc' h' pv' (applyP p c).1 → (∀ k,ob rv.pa = some k → ApP k lo' hc' pv') → RpO h.size h' rv (applyP p c).2 → Ext h h' → R (.tuple #[.agg (ePr pv').toArray,.agg (eRp rv).toArray]) h') : CallsH Try.prog 56 [.agg (ePr pv).toArray,.agg (eCm cv).toArray] h R := by
 have hn' : n ≤ 900000 := by omega
 refine f56ok (by simp) ?_
 (try simp (maxSteps:=1000000) (disch:=first|exact Lb rfl|omega) only [AXS,AXB,J.dst,reduceIte,Z1,Z2,Z3,Z4,Z5]); rw [f56c0_eq]; (try simp (maxSteps:=1000000) (disch:=first|exact Lb rfl|omega) only [AXS,AXB,J.dst,reduceIte,Z1,Z2,Z3,Z4,Z5,f56r0])
 refine wL_boxN rfl ?_; rintro b2 h1 e1 s1 hb2 (B2 : Blk _ _ _ (ePr pv))
 refine wL_boxN rfl ?_; rintro b3 h2 e2 s2 hb3 (B3 : Blk _ _ _ (eCm cv))
 try simp (maxSteps:=1000000) (disch:=first|exact Lb rfl|omega) only [AXS,AXB,J.dst,reduceIte,Z1,Z2,Z3,Z4,Z5]
 refine wL_newN ?_; rintro b4 h3 e3 s3 hb4 B4
 refine wL_newN ?_; rintro b5 h4 e4 s4 hb5 B5
 replace B2 := B2.ext e2
 replace B2 := B2.ext e3; replace B3 := B3.ext e3
 replace B2 := B2.ext e4; replace B3 := B3.ext e4; replace B4 := B4.ext e4
 have e04 := ((e1.trans e2).trans e3).trans e4
 (try simp (maxSteps:=1000000) (disch:=first|exact Lb rfl|omega) only [AXS,AXB,J.dst,reduceIte,Z1,Z2,Z3,Z4,Z5]); rw [f56c1_eq]; (try simp (maxSteps:=1000000) (disch:=first|exact Lb rfl|omega) only [AXS,AXB,J.dst,reduceIte,Z1,Z2,Z3,Z4,Z5,f56r1,B2.rd,ePr])
 refine partC_ok pv p _ (S.ext e04) g hn' ?_
 intro pv1 lo hc h5 O5 e5
 refine ⟨trivial,?_⟩
 replace B2 := B2.ext e5; replace B3 := B3.ext e5; replace B4 := B4.ext e5; replace B5 := B5.ext e5
 have z5 := e5.size
 try simp (maxSteps:=1000000) (disch:=first|exact Lb rfl|omega) only [AXS,AXB,J.dst,reduceIte,Z1,Z2,Z3,Z4,Z5]
 refine wL_newN ?_; rintro b6 h6 e6 s6 hb6 B6
 try simp (maxSteps:=1000000) (disch:=first|exact Lb rfl|omega) only [AXS,AXB,J.dst,reduceIte,Z1,Z2,Z3,Z4,Z5]
 refine wL_stN rfl rfl rfl B6 (by decide) (ePr_one pv1) ?_
 rintro h7 u7 (B7 : Blk _ _ _ (ePr pv1))
 have e57 := u7.ext e6 (by omega)
 replace B2 := B2.ext e57; replace B3 := B3.ext e57; replace B4 := B4.ext e57; replace B5 := B5.ext e57
 have z7 := u7.size
 (try simp (maxSteps:=1000000) (disch:=first|exact Lb rfl|omega) only [AXS,AXB,J.dst,reduceIte,Z1,Z2,Z3,Z4,Z5]); rw [f56c2_eq]; (try simp (maxSteps:=1000000) (disch:=first|exact Lb rfl|omega) only [AXS,AXB,J.dst,reduceIte,Z1,Z2,Z3,Z4,Z5,f56r2])
 refine wL_newN ?_; rintro b7 h8 e8 s8 hb7 B8
 try simp (maxSteps:=1000000) (disch:=first|exact Lb rfl|omega) only [AXS,AXB,J.dst,reduceIte,Z1,Z2,Z3,Z4,Z5]
 refine wL_stN rfl rfl rfl B8 (by decide) (eRp_one ⟨okS,none,0,0⟩) ?_
 rintro h9 u9 (B9 : Blk _ _ _ (eRp ⟨okS,none,0,0⟩))
 have e79 := u9.ext e8 (by omega)
 replace B2 := B2.ext e79; replace B3 := B3.ext e79; replace B4 := B4.ext e79; replace B5 := B5.ext e79; replace B7 := B7.ext e79
 have z9 := u9.size
 have e59 := e57.trans e79
 have e49 := e5.trans e59
 have O9 := O5.exts e59
 have s04 := e04.size
 have I9 : InP h h9 b6 pv1 p lo hc := ⟨e04.trans e49,O9.mono s04,B7,⟨by omega,.inr (by have := O5.le; omega)⟩,(O5.ap' (b := b6) (by omega)).2.1,(O5.ap' (b := b6) (by omega)).2.2⟩
 have a2 := O5.ap (b := b2) (by omega)
 have a4 := O5.ap (b := b4) (by omega)
 have a5 := O5.ap (b := b5) (by omega)
 have a7 := O5.ap' (b := b7) (by omega)
 -- behind the command
 have app : ∀ (h10 : Heap) (pv' : PrV) (p' : Prt) (lo' : Nat) (hc' : Heap) (rv : RpV) (r : Rep),InP h h10 b6 pv' p' lo' hc' → RpO h9.size h10 rv r → (∀ k,ob rv.pa = some k → ApP k lo' hc' pv') → h9.size ≤ h10.size → Blk h10 b7 47 (eRp rv) → Blk h10 b2 116 (ePr pv) →
   Blk h10 b4 116 (ePr ⟨⟨0,0,⟨0,0⟩,0,0⟩,none,0,0,none,0,0,none,0,0⟩) → Blk h10 b5 47 (eRp ⟨okS,none,0,0⟩) → ApP b4 lo' hc' pv' → ApP b5 lo' hc' pv' → applyP p c = (if r.s.err = 0 then (p',r) else (p,r)) →
   wC Try.prog f56c11 (endW [.cell 4 9,.cell 5 11] R) [(2,ptr b2 0),(4,ptr b4 0),(5,ptr b5 0),(6,ptr b6 0),(7,ptr b7 0)] h10 := by
  intro h10 pv' p' lo' hc' rv r I10 K10 xq z10 D7 D2 D4 D5 x4 x5 hap
  have hpa := K10.pairs.ob
  have z10' := I10.b.lt
  have hxt := I10.ext
  (try simp (maxSteps:=1000000) (disch:=first|exact Lb rfl|omega) only [AXS,AXB,J.dst,reduceIte,Z1,Z2,Z3,Z4,Z5]); rw [f56c11_eq]; (try simp (maxSteps:=1000000) (disch:=first|exact Lb rfl|omega) only [AXS,AXB,J.dst,reduceIte,Z1,Z2,Z3,Z4,Z5,f56r8,D7.cel,eRp]); rw [f56c12_eq]; (try simp (maxSteps:=1000000) (disch:=first|exact Lb rfl|omega) only [AXS,AXB,J.dst,reduceIte,Z1,Z2,Z3,Z4,Z5,D7.cel,eRp])
  refine ⟨fun hh => ?_,fun hh => ?_⟩
  ·have hne : r.s.err ≠ 0 := by rw [← K10.s]; simpa using hh
   rw [if_neg hne] at hap
   try simp (maxSteps:=1000000) (disch:=first|exact Lb rfl|omega) only [AXS,AXB,J.dst,reduceIte,Z1,Z2,Z3,Z4,Z5]
   rw [f56c13_eq]
   refine ⟨fun b => b < h10.size ∧ b ≠ b4 ∧ b ≠ b5,fun b hb => hb.1,?_⟩
   have n1 : b2 ≠ b4 := by omega
   have n2 : b2 ≠ b5 := by omega
   have n3 : b7 ≠ b4 := by omega
   have n4 : b7 ≠ b5 := by omega
   simp (maxSteps:=1000000) (disch:=first|exact Lb rfl|omega) only [AXS,AXB,J.dst,reduceIte,Z1,Z2,Z3,Z4,Z5,f56r9,D2.rd,ePr,D7.rd,eRp]
   refine ⟨⟨by omega,n1,n2⟩,⟨by omega,n3,n4⟩,?_⟩
   refine partC_ok pv p _ (S.ext hxt) g hn' ?_
   intro pv11 lo11 hc11 h11 O11 e11
   refine ⟨fun b hb => e11.at_ b hb.1,?_⟩
   try simp (maxSteps:=1000000) (disch:=first|exact Lb rfl|omega) only [AXS,AXB,J.dst,reduceIte,Z1,Z2,Z3,Z4,Z5]
   have y11 := e11.size
   refine wL_stD rfl rfl (fun hb => hb.2.1 rfl) rfl (D4.ext e11) (by decide) (ePr_one pv11) ?_
   rintro h12 u12 (B12 : Blk _ _ _ (ePr pv11))
   try simp (maxSteps:=1000000) (disch:=first|exact Lb rfl|omega) only [AXS,AXB,J.dst,reduceIte,Z1,Z2,Z3,Z4,Z5]
   refine wL_stD rfl rfl (fun hb => hb.2.2 rfl) rfl (u12.blk (D5.ext e11) (by omega)) (by decide) (eRp_one rv) ?_
   rintro h13 u13 (B13 : Blk _ _ _ (eRp rv))
   have B12 := u13.blk B12 (by omega)
   simp (maxSteps:=1000000) (disch:=first|exact Lb rfl|omega) only [AXS,AXB,J.dst,reduceIte,Z1,Z2,Z3,Z4,Z5,B12.rd,ePr,B13.rd,eRp]
   have x4' := O11.ap (b := b4) (by omega)
   have x5' := O11.ap (b := b5) (by omega)
   have := hR pv11 rv h13 lo11 hc11 (by
    rw [hap]
    exact ((O11.upd u12 x4'.1 x4'.2.1 x4'.2.2).upd u13 x5'.1 x5'.2.1 x5'.2.2).mono hxt.size) (fun k hk => O11.ap (hpa k hk).2) (by
    rw [hap]
    refine ⟨K10.s,K10.pn,((((K10.pairs.mono (by omega)).ext e11).gr u12.gr fun j hj e => ?_).gr u13.gr fun j hj e => ?_)⟩
    ·cases e; have := hpa b4 hj; omega
    ·cases e; have := hpa b5 hj; omega) (u13.ext (u12.ext (hxt.trans e11) (by omega)) (by omega))
   exact this
  ·have h0 : r.s.err = 0 := by rw [← K10.s]; simpa using hh
   rw [if_pos h0] at hap
   try simp (maxSteps:=1000000) (disch:=first|exact Lb rfl|omega) only [AXS,AXB,J.dst,reduceIte,Z1,Z2,Z3,Z4,Z5]
   rw [f56c14_eq]
   refine ⟨fun b => b < h10.size ∧ b ≠ b4 ∧ b ≠ b5,fun b hb => hb.1,?_⟩
   have n1 : b6 ≠ b4 := by omega
   have n2 : b6 ≠ b5 := by omega
   have n3 : b7 ≠ b4 := by omega
   have n4 : b7 ≠ b5 := by omega
   have D6 := I10.b
   simp (maxSteps:=1000000) (disch:=first|exact Lb rfl|omega) only [AXS,AXB,J.dst,reduceIte,Z1,Z2,Z3,Z4,Z5,f56r10,D6.rd,ePr,D7.rd,eRp]
   refine ⟨⟨by omega,n1,n2⟩,⟨by omega,n3,n4⟩,?_⟩
   refine wL_stD rfl rfl (fun hb => hb.2.1 rfl) rfl D4 (by decide) (ePr_one pv') ?_
   rintro h12 u12 (B12 : Blk _ _ _ (ePr pv'))
   try simp (maxSteps:=1000000) (disch:=first|exact Lb rfl|omega) only [AXS,AXB,J.dst,reduceIte,Z1,Z2,Z3,Z4,Z5]
   refine wL_stD rfl rfl (fun hb => hb.2.2 rfl) rfl (u12.blk D5 (by omega)) (by decide) (eRp_one rv) ?_
   rintro h13 u13 (B13 : Blk _ _ _ (eRp rv))
   have B12 := u13.blk B12 (by omega)
   simp (maxSteps:=1000000) (disch:=first|exact Lb rfl|omega) only [AXS,AXB,J.dst,reduceIte,Z1,Z2,Z3,Z4,Z5,B12.rd,ePr,B13.rd,eRp]
   have := hR pv' rv h13 lo' hc' (by
    rw [hap]
    exact (I10.o.upd u12 x4.1 x4.2.1 x4.2.2).upd u13 x5.1 x5.2.1 x5.2.2) xq (by
    rw [hap]
    refine ⟨K10.s,K10.pn,(((K10.pairs.mono (by omega)).gr u12.gr fun j hj e => ?_).gr u13.gr fun j hj e => ?_)⟩
    ·cases e; have := hpa b4 hj; omega
    ·cases e; have := hpa b5 hj; omega) (u13.ext (u12.ext hxt (by omega)) (by omega))
   exact this
 have back : ∀ (h10 h11 : Heap) (pv' : PrV) (p' : Prt) (rv : RpV) (r : Rep),OutP h h9 h10 b6 pv1 lo hc pv' p' rv r → Upd b7 h10 h11 → Blk h11 b7 47 (eRp rv) → applyP p c = (if r.s.err = 0 then (p',r) else (p,r)) →
   wC Try.prog f56c11 (endW [.cell 4 9,.cell 5 11] R) [(2,ptr b2 0),(4,ptr b4 0),(5,ptr b5 0),(6,ptr b6 0),(7,ptr b7 0)] h11 := by
  rintro h10 h11 pv' p' rv r ⟨z10,lo',hc',I10,K10,F,kp,xq⟩ u D hap
  have hpa := K10.pairs.ob
  refine app h11 pv' p' lo' hc' rv r (I10.boxA (by omega) (by omega) (F b7 (by omega) a7) u) ⟨K10.s,K10.pn,K10.pairs.gr u.gr fun j hj e => ?_⟩ xq (by rw [u.size]; exact z10) D
   (u.blk ((kp b2 (by omega) (by omega) a2).trans B2) (by omega)) (u.blk ((kp b4 (by omega) (by omega) a4).trans B4) (by omega)) (u.blk ((kp b5 (by omega) (by omega) a5).trans B5) (by omega)) (F b4 (by omega) a4) (F b5 (by omega) a5) hap
  cases e; have := hpa b7 hj; omega
 have k7 : ∀ (h10 : Heap) (pv' : PrV) (p' : Prt) (rv : RpV) (r : Rep),OutP h h9 h10 b6 pv1 lo hc pv' p' rv r → Blk h10 b7 47 (eRp ⟨okS,none,0,0⟩) := fun h10 pv' p' rv r O => (O.2.choose_spec.choose_spec.2.2.2.1 b7 (by omega) (by omega) a7).trans B9
 have hcs := C.s
 have hps := S.s
 try simp (maxSteps:=1000000) (disch:=first|exact Lb rfl|omega) only [AXS,AXB,J.dst,reduceIte,Z1,Z2,Z3,Z4,Z5]
 rw [f56c3_eq]
 (try simp (maxSteps:=1000000) (disch:=first|exact Lb rfl|omega) only [AXS,AXB,J.dst,reduceIte,Z1,Z2,Z3,Z4,Z5]); rw [f56c4_eq]; (try simp (maxSteps:=1000000) (disch:=first|exact Lb rfl|omega) only [AXS,AXB,J.dst,reduceIte,Z1,Z2,Z3,Z4,Z5,f56r3,B3.cel,eCm,hcs]); rw [f56c5_eq]; (try simp (maxSteps:=1000000) (disch:=first|exact Lb rfl|omega) only [AXS,AXB,J.dst,reduceIte,Z1,Z2,Z3,Z4,Z5,B3.cel,eCm,hcs])
 refine ⟨fun hk => ?_,fun hk => ?_⟩
 ·have hap : applyP p c = (if (leaseP p c).2.s.err = 0 then ((leaseP p c).1,(leaseP p c).2) else (p,(leaseP p c).2)) := by unfold applyP; simp only [if_pos (show c.s.kind = 1 from by simpa using hk)]
  (try simp (maxSteps:=1000000) (disch:=first|exact Lb rfl|omega) only [AXS,AXB,J.dst,reduceIte,Z1,Z2,Z3,Z4,Z5]); rw [f56c6_eq]; (try simp (maxSteps:=1000000) (disch:=first|exact Lb rfl|omega) only [AXS,AXB,J.dst,reduceIte,Z1,Z2,Z3,Z4,Z5,f56r4,B3.rd,eCm])
  refine lease_ok I9 (C.ext (e04.trans e49)) he ?_
  intro pv' rv h10 O10
  refine ⟨trivial,?_⟩
  try simp (maxSteps:=1000000) (disch:=first|exact Lb rfl|omega) only [AXS,AXB,J.dst,reduceIte,Z1,Z2,Z3,Z4,Z5]
  refine wL_stN rfl rfl rfl (k7 _ _ _ _ _ O10) (by decide) (eRp_one rv) ?_
  rintro h11 u11 (B11 : Blk _ _ _ (eRp rv))
  try simp (maxSteps:=1000000) (disch:=first|exact Lb rfl|omega) only [AXS,AXB,J.dst,reduceIte,Z1,Z2,Z3,Z4,Z5]
  exact back h10 h11 _ _ _ _ O10 u11 B11 hap
 ·have hk' : ¬ c.s.kind = 1 := by simpa using hk
  try simp (maxSteps:=1000000) (disch:=first|exact Lb rfl|omega) only [AXS,AXB,J.dst,reduceIte,Z1,Z2,Z3,Z4,Z5]
  rw [f56c7_eq]
  simp (maxSteps:=1000000) (disch:=first|exact Lb rfl|omega) only [AXJ,AXS,AXB,J.dst,reduceIte,Z1,Z2,Z3,Z4,Z5,f56r5,B2.cel,ePr,B3.cel,eCm,hcs,hps]
  simp (maxSteps:=1000000) (disch:=first|exact Lb rfl|omega) only [AXJ,AXS,AXB,J.dst,reduceIte,Z1,Z2,Z3,Z4,Z5,f56r5a]
  (try simp (maxSteps:=1000000) (disch:=first|exact Lb rfl|omega) only [AXS,AXB,J.dst,reduceIte,Z1,Z2,Z3,Z4,Z5]); rw [f56c8_eq]; (try simp (maxSteps:=1000000) (disch:=first|exact Lb rfl|omega) only [AXS,AXB,J.dst,reduceIte,Z1,Z2,Z3,Z4,Z5])
  generalize hcd : (p.s.epoch == 0 || c.s.epoch != p.s.epoch) = cd
  have hcd' : cd = true ↔ (p.s.epoch = 0 ∨ c.s.epoch ≠ p.s.epoch) := by rw [← hcd]; simp
  refine ⟨fun hh => ?_,fun hh => ?_⟩
  ·have hap : applyP p c = (if (errR 25).s.err = 0 then (p,errR 25) else (p,errR 25)) := by unfold applyP; simp only [if_neg hk',if_pos (hcd'.1 hh)]
   (try simp (maxSteps:=1000000) (disch:=first|exact Lb rfl|omega) only [AXS,AXB,J.dst,reduceIte,Z1,Z2,Z3,Z4,Z5]); rw [f56c9_eq]; (try simp (maxSteps:=1000000) (disch:=first|exact Lb rfl|omega) only [AXS,AXB,J.dst,reduceIte,Z1,Z2,Z3,Z4,Z5,f56r6])
   refine wL_stN rfl rfl rfl B9 (by rw [eRp_len]; exact Nat.le_of_ble_eq_true rfl) int_one ?_
   rintro h11 u11 (B11 : Blk _ _ _ (eRp ⟨(errR 25).s,none,0,0⟩))
   try simp (maxSteps:=1000000) (disch:=first|exact Lb rfl|omega) only [AXS,AXB,J.dst,reduceIte,Z1,Z2,Z3,Z4,Z5]
   exact app h11 pv1 p lo hc ⟨(errR 25).s,none,0,0⟩ (errR 25) (I9.boxA (by omega) (by omega) a7 u11) (RpO.none _ _ _) (fun k hk => by cases hk) (by rw [u11.size]; exact Nat.le_refl _) B11 (u11.blk B2 (by omega)) (u11.blk B4 (by omega)) (u11.blk B5 (by omega)) a4 a5 hap
  ·have hap : applyP p c = (if (doesP p c).2.s.err = 0 then ((doesP p c).1,(doesP p c).2) else (p,(doesP p c).2)) := by
    have hn2 : ¬ (p.s.epoch = 0 ∨ c.s.epoch ≠ p.s.epoch) := fun h => by rw [hcd'.2 h] at hh; cases hh
    unfold applyP; simp only [if_neg hk',if_neg hn2]
   (try simp (maxSteps:=1000000) (disch:=first|exact Lb rfl|omega) only [AXS,AXB,J.dst,reduceIte,Z1,Z2,Z3,Z4,Z5]); rw [f56c10_eq]; (try simp (maxSteps:=1000000) (disch:=first|exact Lb rfl|omega) only [AXS,AXB,J.dst,reduceIte,Z1,Z2,Z3,Z4,Z5,f56r7,B3.rd,eCm])
   refine does_ok I9 C g hn hs ?_
   intro pv' rv h10 O10
   refine ⟨trivial,?_⟩
   try simp (maxSteps:=1000000) (disch:=first|exact Lb rfl|omega) only [AXS,AXB,J.dst,reduceIte,Z1,Z2,Z3,Z4,Z5]
   refine wL_stN rfl rfl rfl (k7 _ _ _ _ _ O10) (by decide) (eRp_one rv) ?_
   rintro h11 u11 (B11 : Blk _ _ _ (eRp rv))
   try simp (maxSteps:=1000000) (disch:=first|exact Lb rfl|omega) only [AXS,AXB,J.dst,reduceIte,Z1,Z2,Z3,Z4,Z5]
   exact back h10 h11 _ _ _ _ O10 u11 B11 hap
theorem apply_ok {B B' : Nat → Prop} {n : Nat} (pv : PrV) (p : Prt) (cv : CmV) (c : Cmd) (h : Heap) (S : PrR B h pv p) (C : CmR B' h cv c) (g : SzP n p) (hn : n + c.writes.length ≤ 900000) (hs : c.spans.length ≤ big) (he : 0 ≤ p.s.epoch) {R : Value → Heap → Prop}
  (hR : ∀ pv' rv h',PrF h.size h' pv' (applyP p c).1 → RpO h.size h' rv (applyP p c).2 → Ext h h' → R (.tuple #[.agg (ePr pv').toArray,.agg (eRp rv).toArray]) h') : CallsH Try.prog 56 [.agg (ePr pv).toArray,.agg (eCm cv).toArray] h R :=
 apply_ok2 pv p cv c h S C g hn hs he fun pv' rv h' _ _ O _ K e => hR pv' rv h' O.fin K e
end Go.Proofs.Ytefghfgmkndikaa
