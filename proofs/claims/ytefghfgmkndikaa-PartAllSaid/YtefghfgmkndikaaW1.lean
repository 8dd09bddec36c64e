/-
  The walks and plain laws under the laws of one package: texts of mine put together, what they do not use left out (wip/tools/prune.py).
-/
import Derived.WalkKit
import Derived.WalkLawsBesides
import Derived.OrdersHeld
import Derived.KernelRfl
import Derived.Deep.LoopGhost
import Derived.Maps.AppendAt
import Derived.Lib.Bytealg
import Derived.Lib.Overlaps
import Derived.Lib.AppendZerosOnto
import Derived.Laws.CopyRow
import Derived.Laws.AppendOwn
import Derived.Test.YtefghfgmkndikaaProg
import Derived.Test.YtefghfgmkndikaaRows
import Derived.ProofKit
import Derived.Deep.Slices
import Derived.ChangeArms
import Derived.DataReads
import Derived.MapKept
set_option linter.unusedSimpArgs false
set_option linter.unusedVariables false
open Nat renaming reduceEqDiff → Z1, reduceAdd → Z2, reduceMul → Z3, reduceLT → Z4, reduceLeDiff → Z5, le_of_ble_eq_true → Lb
namespace Go.AX
open Go
abbrev Heap := Array Obj
abbrev Env := List (Nat × Value)
/-- Of the world all is as it was but the heap and the number of draws. -/
structure Same (w w' : World) : Prop where
 os : w'.os = w.os
 tape : w'.tape = w.tape
 output : w'.output = w.output
theorem Same.refl (w : World) : Same w w := ⟨rfl,rfl,rfl⟩
theorem Same.trans {a b c : World} (h : Same a b) (k : Same b c) : Same a c := ⟨k.os.trans h.os,k.tape.trans h.tape,k.output.trans h.output⟩
/-- A call that returns a value, said of the heap alone. -/
def CallsH (P : Program) (f : FuncId) (args : List Value) (h : Heap) (R : Value → Heap → Prop) : Prop :=
 ∀ w : World,w.heap = h → Calls P f args.toArray w fun e w' => ∃ v,e = .returned v ∧ R v w'.heap ∧ Same w w'
def bd {α : Type} (o : Option α) (k : α → Prop) : Prop := match o with | some v => k v | none => False
theorem bd_some {α : Type} (v : α) (k : α → Prop) : bd (some v) k = k v := rfl
theorem bd_elim {α : Type} {o : Option α} {k : α → Prop} (h : bd o k) : ∃ v,o = some v ∧ k v := by
 cases o with
 | none => exact h.elim
 | some v => exact ⟨v,rfl,h⟩
def look : Env → Nat → Option Value
 | [],_ => none
 | (m,v) :: σ,n => if n = m then some v else look σ n
def kc (o : Option Value) (s : Nat) (r : Env) : Env := match o with | some v => (s,v) :: r | none => r
/-- These temporaries alone, in this order. -/
def keep : List Nat → Env → Env
 | [],_ => []
 | s :: l, σ => kc (look σ s) s (keep l σ)
theorem look_keep : ∀ (l : List Nat) (σ : Env) (n : Nat) (v : Value),look (keep l σ) n = some v → look σ n = some v
 | [],_,_,_,h => by cases h
 | s :: l, σ,n,v,h => by
  simp only [keep,kc] at h
  split at h
  ·rename_i u hu
   simp only [look] at h
   split at h
   ·rename_i e; subst e; rw [hu]; exact h
   ·exact look_keep l σ n v h
  ·exact look_keep l σ n v h
def evO (σ : Env) : Operand → Option Value
 | .tmp t => look σ t
 | .const v => some v
 | .global g => some (.pointer (some ⟨g,0,none⟩))
 | .func f => some (.func (.func f) #[] #[])
def evOs (σ : Env) : List Operand → Option (List Value)
 | [] => some []
 | x :: xs => (evO σ x).bind fun v => (evOs σ xs).map (v :: ·)
/-- An operand that need not be there. -/
def evOo (σ : Env) : Option Operand → Option (Option Value)
 | none => some none
 | some x => (evO σ x).map some
/-- A cell, cells in a row. -/
def cel (h : Heap) (b o : Nat) : Option Value :=
 match h[b]? with
 | some (.cells c _ _) => c[o]?
 | _ => none
def rd (h : Heap) (b : Nat) : (o n : Nat) → Option (List Value)
 | _,0 => some []
 | o,n + 1 => (cel h b o).bind fun v => (rd h b (o + 1) n).map (v :: ·)
def patch (c : Array Value) (o : Nat) : List Value → Array Value
 | [] => c
 | v :: vs => patch (c.setIfInBounds o v) (o + 1) vs
def wrObj (o : Nat) (vs : List Value) : Obj → Obj
 | .cells c t f => .cells (patch c o vs) t f
 | x => x
/-- The heap with cells written. -/
def wr (h : Heap) (b o : Nat) (vs : List Value) : Heap := h.modify b (wrObj o vs)
def wrOk (h : Heap) (b o : Nat) (vs : List Value) : Prop :=
 ∃ c t,h[b]? = some (.cells c t (0,0)) ∧ o + vs.length ≤ c.size ∧ ∀ v ∈ vs,v.oneCell' = true
def asB : Value → Option Bool | .bool b => some b | _ => none
def asI : Value → Option Int | .int _ n => some n | _ => none
def asP : Value → Option (Nat × Nat) | .pointer (some ⟨b,o,none⟩) => some (b,o) | _ => none
/-- A slice that has an address. -/
def asSl : Value → Option (Nat × Nat × Nat × Nat) | .slice (some ⟨b,o,none⟩) n c => some (b,o,n,c) | _ => none
/-- The value of a pointer into a block. -/
abbrev ptr (b o : Nat) : Value := .pointer (some ⟨b,o,none⟩)
abbrev vi (n : Int) : Value := .int .i64 n
abbrev sl (b o n c : Nat) : Value := .slice (some ⟨b,o,none⟩) n c
/-- In a region that draws its order: the blocks whose cells are read, and the heap from which they are. -/
structure Md where
 p : Nat → Prop
 h0 : Heap
def ldHeap (m : Option Md) (h : Heap) : Heap := match m with | none => h | some m => m.h0
def ldOk (m : Option Md) (b : Nat) : Prop := match m with | none => True | some m => m.p b
def kpOk (m : Option Md) (h h' : Heap) : Prop := match m with | none => True | some m => ∀ b,m.p b → h'[b]? = h[b]?
/-- May this heap be the one at hand? -/
def heapOk (m : Option Md) (h hp : Heap) : Prop := match m with | none => hp = h | some m => ∀ b,m.p b → hp[b]? = m.h0[b]?
/-- Operators on two values that look at nothing else. -/
def binV (op : BinOp) (x y : Value) : Option Value :=
 match x,y with
 | .int k a,.int k' b =>
  if k ≠ k' then none else
  match op with
  | .add => some (.int k (k.wrap (a + b)))
  | .sub => some (.int k (k.wrap (a - b)))
  | .mul => some (.int k (k.wrap (a * b)))
  | .eql => some (.bool (a == b))
  | .neq => some (.bool (a != b))
  | .lss => some (.bool (a < b))
  | .leq => some (.bool (a ≤ b))
  | .gtr => some (.bool (a > b))
  | .geq => some (.bool (a ≥ b))
  | _ => none
 | .string a,.string b =>
  match op with
  | .eql => some (.bool (a.toList == b.toList))
  | .neq => some (.bool !(a.toList == b.toList))
  | .lss => some (.bool (Op.bytesLess a.toList b.toList))
  | .leq => some (.bool (Op.bytesLess a.toList b.toList || a.toList == b.toList))
  | .gtr => some (.bool !(Op.bytesLess a.toList b.toList || a.toList == b.toList))
  | .geq => some (.bool !(Op.bytesLess a.toList b.toList))
  | _ => none
 | _,_ => none
/-- Two bools of type bool. -/
def eqB (neg : Bool) (x y : Value) : Option Value :=
 match x,y with
 | .bool a,.bool b => some (.bool (if neg then !(a == b) else a == b))
 | _,_ => none
/-- A pointer or a slice against nil. -/
def eqN (sl neg : Bool) (x y : Value) : Option Value :=
 match sl,x,y with
 | false,.pointer none,.pointer b => some (.bool (if neg then !b.isNone else b.isNone))
 | false,.pointer (some _),.pointer none => some (.bool neg)
 | true,.slice none _ _,.slice b _ _ => some (.bool (if neg then !b.isNone else b.isNone))
 | true,.slice (some _) _ _,.slice none _ _ => some (.bool neg)
 | _,_,_ => none
/-- The kinds of the cells of a struct without memory behind it. -/
inductive Kd where
 | i (k : IntKind) | b | s
 deriving DecidableEq
def eqKd : Kd → Value → Value → Option Bool
 | .i k,.int k1 a,.int k2 b => if k1 = k ∧ k2 = k then some (a == b) else none
 | .b,.bool a,.bool b => some (a == b)
 | .s,.string a,.string b => some (a.toList == b.toList)
 | _,_,_ => none
/-- Two rows of cells, cell by cell. -/
def eqKds : List Kd → List Value → List Value → Option Bool
 | [],[],[] => some true
 | k :: ks,x :: xs,y :: ys => (eqKd k x y).bind fun a => (eqKds ks xs ys).map (a && ·)
 | _,_,_ => none
def eqA (neg : Bool) (ks : List Kd) (x y : Value) : Option Value :=
 match x,y with
 | .agg xs,.agg ys => (eqKds ks xs.toList ys.toList).map fun b => .bool (if neg then !b else b)
 | _,_ => none
def unV (op : UnOp) (x : Value) : Option Value :=
 match op,x with
 | .not,.bool b => some (.bool !b)
 | .neg,.int k n => some (.int k (k.wrap (0 - n)))
 | _,_ => none
def lenV (sl : Bool) (x : Value) : Option Value :=
 match sl,x with
 | true,.slice _ n _ => some (vi n)
 | false,.string s => some (vi s.size)
 | _,_ => none
def capV : Value → Option Value
 | .slice _ _ n => some (vi n)
 | _ => none
def maxV (mx : Bool) : Value → Value → Option Value
 | .int k x,.int _ y => some (.int k (if mx then (if y > x then y else x) else (if y < x then y else x)))
 | _,_ => none
def cvtV (k : IntKind) : Value → Option Value
 | .int _ n => some (.int k (k.wrap n))
 | _ => none
def extV (i : Nat) : Value → Option Value
 | .tuple vs => vs[i]?
 | _ => none
def nchV : Value → Option Value
 | .pointer (some a) => some (.pointer (some a))
 | .slice a n c => some (.slice a n c)
 | _ => none
/-- Parts laid into cells: place, size, value. -/
def putL (cs : List Value) (o : Nat) : List Value → List Value
 | [] => cs
 | v :: vs => putL (cs.set o v) (o + 1) vs
def fillL (σ : Env) : List Value → List (Nat × Nat × Operand) → Option (List Value)
 | cs,[] => some cs
 | cs,(off,size,x) :: r => (evO σ x).bind fun v => if v.cells.size = size ∧ off + size ≤ cs.length then fillL σ (putL cs off v.cells.toList) r else none
inductive J where
 | mov (d : Nat) (x : Operand)
 | pick (d : Nat) (c a b : Operand)
 | ld (d : Nat) (n : Option Nat) (x : Operand)
 | fad (d off : Nat) (x : Operand)
 | iad (d sz : Nat) (x i : Operand)
 | slc (d sz : Nat) (x : Operand) (lo hi mx : Option Operand)
 | ext (d : Nat) (x : Operand) (i : Nat)
 | bin (d : Nat) (op : BinOp) (x y : Operand)
 | eqb (d : Nat) (neg : Bool) (x y : Operand)
 | eqn (d : Nat) (sl neg : Bool) (x y : Operand)
 | eqa (d : Nat) (neg : Bool) (ks : List Kd) (x y : Operand)
 | un (d : Nat) (op : UnOp) (x : Operand)
 | len (d : Nat) (sl : Bool) (x : Operand)
 | cap (d : Nat) (x : Operand)
 | mm (d : Nat) (mx : Bool) (x y : Operand)
 | cvt (d : Nat) (k : IntKind) (x : Operand)
 | bld (d : Nat) (zero : List Value) (parts : List (Nat × Nat × Operand))
 | fn (d : Nat) (f : FuncId) (caps : List Operand)
 | nch (d : Option Nat) (x : Operand)
 | new (d : Nat) (t : TypeId) (zero : List Value)
 | box (d : Nat) (t : TypeId) (x : Operand)
 | bsl (d : Nat) (t n : Nat) (zero : List Value) (parts : List (Nat × Nat × Operand))
 | st (n : Nat) (x v : Operand)
 | call (d : Option Nat) (f : FuncId) (args : List Operand)
 | cav (d : Option Nat) (x : Operand) (args : List Operand)
 | raw (d : Option Nat) (o : Oper)
 deriving Inhabited
def J.dst : J → Option Nat
 | .mov d _ | .pick d .. | .ld d .. | .fad d .. | .iad d .. | .slc d .. | .ext d .. | .bin d .. | .eqb d .. | .eqn d .. | .eqa d .. | .un d .. | .len d .. | .cap d _ | .mm d .. | .cvt d .. | .bld d ..
 | .fn d .. | .new d .. | .box d .. | .bsl d .. => some d
 | .nch d _ | .call d .. | .cav d .. | .raw d _ => d
 | .st .. => none
/-- Does it yield a value and leave the heap alone? -/
def J.take : J → Bool
 | .new .. | .box .. | .bsl .. | .st .. | .call .. | .cav .. | .raw .. => false
 | _ => true
def putE (σ : Env) : Option Nat → Value → Env
 | some d,v => (d,v) :: σ
 | none,_ => σ
/-- The result of a slice expression over a slice. -/
def slcV (sz : Nat) (x : Value) (lo hi mx : Option Value) (K : Value → Prop) : Prop :=
 match x with
 | .slice a n c =>
  bd (match mx with | some v => asI v | none => some (c : Int)) fun m =>
  bd (match hi with | some v => asI v | none => some (n : Int)) fun h =>
  bd (match lo with | some v => asI v | none => some (0 : Int)) fun l =>
  0 ≤ l ∧ l ≤ h ∧ h ≤ m ∧ m ≤ c ∧
  K (.slice (if m.toNat = l.toNat then a else a.map (·.add (l.toNat * sz))) (h.toNat - l.toNat) (m.toNat - l.toNat))
 | _ => False
/-- What an instruction that leaves the heap alone yields. -/
def wV (m : Option Md) (h : Heap) (σ : Env) (j : J) (K : Value → Prop) : Prop :=
 match j with
 | .mov _ x => bd (evO σ x) K
 | .pick _ c a b => bd (evO σ c) fun v => bd (asB v) fun t => bd (evO σ (bif t then a else b)) K
 | .ld _ n x => bd (evO σ x) fun v => bd (asP v) fun q => ldOk m q.1 ∧ match n with
  | none => bd (cel (ldHeap m h) q.1 q.2) K
  | some n => bd (rd (ldHeap m h) q.1 q.2 n) fun l => K (.agg l.toArray)
 | .fad _ off x => bd (evO σ x) fun v => bd (asP v) fun q => K (ptr q.1 (q.2 + off))
 | .iad _ sz x i => bd (evO σ x) fun v => bd (evO σ i) fun u => bd (asSl v) fun q => bd (asI u) fun k => 0 ≤ k ∧ k < q.2.2.1 ∧ K (ptr q.1 (q.2.1 + k.toNat * sz))
 | .slc _ sz x lo hi mx => bd (evO σ x) fun v => bd (evOo σ lo) fun l => bd (evOo σ hi) fun h => bd (evOo σ mx) fun m => slcV sz v l h m K
 | .ext _ x i => bd (evO σ x) fun v => bd (extV i v) K
 | .bin _ op x y => bd (evO σ x) fun v => bd (evO σ y) fun u => bd (binV op v u) K
 | .eqb _ neg x y => bd (evO σ x) fun v => bd (evO σ y) fun u => bd (eqB neg v u) K
 | .eqn _ sl neg x y => bd (evO σ x) fun v => bd (evO σ y) fun u => bd (eqN sl neg v u) K
 | .eqa _ neg ks x y => bd (evO σ x) fun v => bd (evO σ y) fun u => bd (eqA neg ks v u) K
 | .un _ op x => bd (evO σ x) fun v => bd (unV op v) K
 | .len _ sl x => bd (evO σ x) fun v => bd (lenV sl v) K
 | .cap _ x => bd (evO σ x) fun v => bd (capV v) K
 | .mm _ mx x y => bd (evO σ x) fun v => bd (evO σ y) fun u => bd (maxV mx v u) K
 | .cvt _ k x => bd (evO σ x) fun v => bd (cvtV k v) K
 | .bld _ zero parts => bd (fillL σ zero parts) fun cs => K (.agg cs.toArray)
 | .fn _ f caps => bd (evOs σ caps) fun cs => K (.func (.func f) #[] cs.toArray)
 | .nch _ x => bd (evO σ x) fun v => bd (nchV v) K
 | _ => False
/-- What an operation that is over leaves. -/
def nextV : Next → Option Value
 | .value v => some v
 | .skip => some undef
 | _ => none
/-- Any operation, as the model runs it: it must yield a value, or nothing. -/
def RawW (P : Program) (o : Oper) (σ : Env) (h : Heap) (K : Value → Heap → Prop) : Prop :=
 (∀ x ∈ o.op.operands,(evO σ x).isSome = true) ∧ (∀ cs b,o.op ≠ .select cs b) ∧
 ∀ w : World,w.heap = h → ∃ r v w',(execOp (fun x => (evO σ x).getD undef) o).run P w = .ok r w' ∧ nextV r = some v ∧ Same w w' ∧ K v w'.heap
/-- A function that has a body. -/
def callable (P : Program) (f : FuncId) : Bool := match P.funcs[f]? with | some fn => !(fn.body.isNone || fn.name == "runtime.NumGoroutine") | none => false
/-- What an instruction that may turn the heap does. -/
def wE (P : Program) (h : Heap) (σ : Env) (j : J) (K : Value → Heap → Prop) : Prop :=
 match j with
 | .new _ t zero => K (ptr h.size 0) (h.push (.cells zero.toArray t))
 | .box _ t x => bd (evO σ x) fun v => K (ptr h.size 0) (h.push (.cells v.cells t))
 | .bsl _ t n zero parts => bd (fillL σ zero parts) fun cs => K (sl h.size 0 n n) (h.push (.cells cs.toArray t))
 | .st n x v => bd (evO σ x) fun p => bd (asP p) fun q => bd (evO σ v) fun u => u.cells.size = n ∧ wrOk h q.1 q.2 u.cells.toList ∧ K undef (wr h q.1 q.2 u.cells.toList)
 | .call _ f args => bd (evOs σ args) fun vs => CallsH P f vs h K
 | .cav _ x args => bd (evO σ x) fun v => bd (evOs σ args) fun vs => match v with
  | .func (.func f) first caps => callable P f = true ∧ CallsH P f (first.toList ++ vs ++ caps.toList) h K
  | _ => False
 | .raw _ o => RawW P o σ h K
 | _ => False
def wJ (P : Program) (m : Option Md) (j : J) (C : Env → Heap → Prop) (σ : Env) (h : Heap) : Prop :=
 if j.take then wV m h σ j fun v => C (putE σ j.dst v) h
 else wE P h σ j fun v h' => kpOk m h h' ∧ C (putE σ j.dst v) h'
inductive I where
 /-- forget all temporaries but these -/
 | kp (l : List Nat)
 /-- 'a && b', 'a || b': if temporary c is not w,the next n instructions are not carried out -/
 | sc (c : Nat) (w : Bool) (n : Nat)
 | g (c : Nat) (w : Bool) (j : J)
 | op (j : J)
 /-- in a region that draws: carried out at its own time,on the heap of that time -/
 | opn (j : J)
 deriving Inhabited
def notB (v : Value) (w : Bool) : Bool := match v with | .bool t => t != w | _ => true
/-- Two ways. -/
def br (t : Bool) (A B : Prop) : Prop := (t = true → A) ∧ (t = false → B)
theorem br_true (A B : Prop) : br true A B = A := by simp [br]
theorem br_false (A B : Prop) : br false A B = B := by simp [br]
def wL (P : Program) (m : Option Md) : List I → Nat → (Env → Heap → Prop) → Env → Heap → Prop
 | [],_,C, σ,h => C σ h
 | .kp l :: r,0,C, σ,h => wL P m r 0 C (keep l σ) h
 | .sc c w n :: r,0,C, σ,h => bd (look σ c) fun v => bd (asB v) fun t => br (t == w) (wL P m r 0 C ((c,.bool w) :: σ) h) (wL P m r n C ((c,.bool (!w)) :: σ) h)
 | .op j :: r,0,C, σ,h => wJ P m j (fun σ h => wL P m r 0 C σ h) σ h
 | .g c w j :: r,0,C, σ,h => look σ c = some (.bool w) ∧ wJ P m j (fun σ h => wL P m r 0 C σ h) σ h
 | .kp _ :: r,k + 1,C, σ,h => wL P m r k C σ h
 | .sc _ _ _ :: r,k + 1,C, σ,h => wL P m r k C σ h
 | .op _ :: _,_ + 1,_,_,_ => False
 | .opn j :: r,0,C, σ,h => wV none h σ j fun v => wL P m r 0 C (putE σ j.dst v) h
 | .opn _ :: _,_ + 1,_,_,_ => False
 | .g c w j :: r,k + 1,C, σ,h => bd (look σ c) fun v => notB v w = true ∧ wL P m r k C (putE σ j.dst undef) h
/-- The ways through a region that draws, where which operation comes next is open. -/
inductive L where
 | nil
 | one (is : List I) (r : L)
 | alt (a b : L)
 deriving Inhabited
/-- Code. -/
inductive C where
 | skip
 /-- a region that keeps the text's order -/
 | reg (is : List I)
 /-- a region that draws its order: the operations may be taken in this order -/
 | drw (is : List I)
 /-- the same,with several orders -/
 | drt (t : L)
 | seq (a b : C)
 | cond (x : Operand) (a b : C)
 | block (id : Nat) (a : C)
 | loop (a : C)
 | exit (id : Nat)
 | ret
 deriving Inhabited
inductive X where
 | normal | exit (id : Nat) | ret
 deriving DecidableEq
def X.then (next : Env → Heap → Prop) (Q : X → Env → Heap → Prop) : X → Env → Heap → Prop
 | .normal, σ,h => next σ h
 | e, σ,h => Q e σ h
def X.inBlock (id : Nat) (Q : X → Env → Heap → Prop) : X → Env → Heap → Prop
 | .exit i, σ,h => if i = id then Q .normal σ h else Q (.exit i) σ h
 | e, σ,h => Q e σ h
/-- A loop, by an invariant that bears a number, which every round lowers. -/
def loopW (body : (X → Env → Heap → Prop) → Env → Heap → Prop) (Q : X → Env → Heap → Prop) (σ : Env) (h : Heap) : Prop :=
 ∃ (Inv : Nat → Env → Heap → Prop) (n : Nat),Inv n σ h ∧ ∀ n σ h,Inv n σ h → body (X.then (fun σ' h' => ∃ n',n' < n ∧ Inv n' σ' h') Q) σ h
/-- A region that draws: the blocks that are read are chosen. -/
def drwW (P : Program) (is : List I) (Q : Env → Heap → Prop) (σ : Env) (h : Heap) : Prop :=
 ∃ p : Nat → Prop,(∀ b,p b → b < h.size) ∧ wL P (some ⟨p,h⟩) is 0 Q σ h
def wT (P : Program) (m : Option Md) : L → (Env → Heap → Prop) → Env → Heap → Prop
 | .nil,C, σ,h => C σ h
 | .one is r,C, σ,h => wL P m is 0 (fun σ h => wT P m r C σ h) σ h
 | .alt a b,C, σ,h => wT P m a C σ h ∧ wT P m b C σ h
def drtW (P : Program) (t : L) (Q : Env → Heap → Prop) (σ : Env) (h : Heap) : Prop :=
 ∃ p : Nat → Prop,(∀ b,p b → b < h.size) ∧ wT P (some ⟨p,h⟩) t Q σ h
/-- One behind the other, the first one's parts first. -/
def sq : C → C → C
 | .skip,c => c
 | .seq a b,c => .seq a (sq b c)
 | a,c => .seq a c
def wC (P : Program) : C → (X → Env → Heap → Prop) → Env → Heap → Prop
 | .skip,Q, σ,h => Q .normal σ h
 | .reg is,Q, σ,h => wL P none is 0 (Q .normal) σ h
 | .drw is,Q, σ,h => drwW P is (Q .normal) σ h
 | .drt t,Q, σ,h => drtW P t (Q .normal) σ h
 | .seq a b,Q, σ,h => wC P a (X.then (wC P b Q) Q) σ h
 | .cond x a b,Q, σ,h => bd (evO σ x) fun v => bd (asB v) fun t => br t (wC P a Q σ h) (wC P b Q σ h)
 | .block id a,Q, σ,h => wC P a (X.inBlock id Q) σ h
 | .loop a,Q, σ,h => loopW (wC P a) Q σ h
 | .exit id,Q, σ,h => Q (.exit id) σ h
 | .ret,Q, σ,h => Q .ret σ h
inductive Rs where
 | tmp (t : Nat)
 | cell (t : Nat) (n : Nat)      -- a struct of n cells in memory
def resV (h : Heap) (σ : Env) : List Rs → Option (List Value)
 | [] => some []
 | .tmp t :: r => (look σ t).bind fun v => (resV h σ r).map (v :: ·)
 | .cell t n :: r => (look σ t).bind fun v => (asP v).bind fun q => (rd h q.1 q.2 n).bind fun l => (resV h σ r).map (.agg l.toArray :: ·)
def one : List Value → Value
 | [v] => v
 | vs => .tuple vs.toArray
/-- The end of a function. -/
def endW (res : List Rs) (R : Value → Heap → Prop) : X → Env → Heap → Prop
 | .exit _,_,_ => False
 | _, σ,h => bd (resV h σ res) fun vs => R (one vs) h
def envOf : Nat → List Value → Env
 | _,[] => []
 | i,v :: vs => (i,v) :: envOf (i + 1) vs
def dst1 (n : Nat) (o : Oper) : Option Nat := match o.dst with | some d => if d < n then some d else none | none => none
def dst0 (n : Nat) (o : Oper) : Option (Option Nat) := match o.dst with | some d => if d < n then some (some d) else none | none => some none
/-- How many cells, if it is a struct or an array. -/
def aggSz (P : Program) (t : TypeId) : Option (Option Nat) :=
 match P.underlying t with
 | some (.struct _) | some (.array _ _) => (P.info? t).map fun i => some i.size
 | some _ => some none
 | none => none
def sizeT (P : Program) (t : TypeId) : Option Nat := (P.info? t).map (·.size)
def zeroT (P : Program) (t : TypeId) : Option (List Value) := (P.info? t).bind fun i => i.zero.map fun z => z.cells.toList
/-- The kinds of the cells of fields that lie one behind the other from o on. -/
def flatFs (ft : TypeId → Option (List Kd)) : Nat → List Field → Option (List Kd)
 | _,[] => some []
 | o, f :: fs => if f.name = "_" ∨ f.offset ≠ o then none else (ft f.type).bind fun a => if a.length = 0 then none else (flatFs ft (o + a.length) fs).map (a ++ ·)
/-- The kinds of the cells of a type of numbers, bools, strings and structs of them; d: a depth. -/
def flatT (P : Program) : Nat → TypeId → Option (List Kd)
 | 0,_ => none
 | d + 1,t =>
  match P.underlying t with
  | some (.int k) => some [.i k]
  | some .bool => some [.b]
  | some .string => some [.s]
  | some (.struct fs) => if P.stoodInHeld t then none else (flatFs (flatT P d) 0 fs.toList).bind fun ks => if sizeT P t = some ks.length then some ks else none
  | _ => none
def partsOf (P : Program) (t : TypeId) : List (Nat × Operand) → Option (List (Nat × Nat × Operand))
 | [] => some []
 | (i,x) :: r =>
  match P.underlying t with
  | some (.struct fs) => (fs[i]?).bind fun f => (sizeT P f.type).bind fun s => (partsOf P t r).map ((f.offset,s,x) :: ·)
  | _ => none
/-- Is it a struct whose fields' sizes are known? -/
def fieldsOk (P : Program) (t : TypeId) : Bool :=
 match P.underlying t with
 | some (.struct fs) => fs.toList.all fun f => (sizeT P f.type).isSome
 | _ => false
def partsSl (sz : Nat) : List (Nat × Operand) → List (Nat × Nat × Operand)
 | [] => []
 | (i,x) :: r => (i * sz,sz,x) :: partsSl sz r
def cmpJ (P : Program) (n : Nat) (o : Oper) : Option J :=
 match o.op with
 | .move x | .assign x => (dst1 n o).map (.mov · x)
 | .pick c a b => (dst1 n o).map (.pick · c a b)
 | .load t x => (dst1 n o).bind fun d => (aggSz P t).map fun s => .ld d s x
 | .store t x v => match o.dst with | none => (sizeT P t).map fun s => .st s x v | some _ => none
 | .fieldAddr s x f => (dst1 n o).bind fun d => match P.underlying s with
  | some (.struct fs) => (fs[f]?).bind fun fl => (sizeT P fl.type).bind fun z => if z = 0 then none else some (.fad d fl.offset x)
  | _ => none
 | .indexAddr t x i => (dst1 n o).bind fun d => match P.underlying t with
  | some (.slice e) => (sizeT P e).map fun z => .iad d z x i
  | _ => none
 | .slice t x lo hi mx => (dst1 n o).bind fun d => match P.underlying t with
  | some (.slice e) => if (mx.isSome && hi.isNone) then none else (sizeT P e).map fun z => .slc d z x lo hi mx
  | _ => none
 | .extract x i => (dst1 n o).map (.ext · x i)
 | .binOp op t x y _ => (dst1 n o).bind fun d => match op,P.underlying t with
  | .eql,some .bool => some (.eqb d false x y)
  | .neq,some .bool => some (.eqb d true x y)
  | .eql,some (.pointer _) => some (.eqn d false false x y)
  | .eql,some (.slice _) => some (.eqn d true false x y)
  | .neq,some (.pointer _) => some (.eqn d false true x y)
  | .neq,some (.slice _) => some (.eqn d true true x y)
  | .eql,some (.struct _) => if P.eqGuardType P.depth t = false then (flatT P 20 t).map fun ks => .eqa d false ks x y else none
  | .neq,some (.struct _) => if P.eqGuardType P.depth t = false then (flatT P 20 t).map fun ks => .eqa d true ks x y else none
  | .shl,_ | .shr,_ | .quo,_ | .rem,_ => some (.raw (some d) o)
  | _,some (.int _) | _,some .string => some (.bin d op x y)
  | _,_ => none
 | .unOp op _ x => (dst1 n o).map (.un · op x)
 | .build t parts => (dst1 n o).bind fun d => if fieldsOk P t = true then (zeroT P t).bind fun z => (partsOf P t parts.toList).map fun ps => .bld d z ps else none
 | .makeFunc (.func f) first caps => if first.size = 0 then (dst1 n o).map (.fn · f caps.toList) else none
 | .nilCheck x => (dst0 n o).map (.nch · x)
 | .alloc t => (dst1 n o).bind fun d => (zeroT P t).map fun z => .new d t z
 | .box t x => (dst1 n o).map (.box · t x)
 | .buildSlice t len parts => (dst1 n o).bind fun d => match P.underlying t with
  | some (.slice e) => (sizeT P e).bind fun z => if len = 0 then (if parts.size = 0 then some (.bsl d e 0 [] []) else none) else if len * z > 2 ^ 24 ∨ z = 0 then none else (zeroT P e).bind fun zc => if zc.length = 0 then none else
    some (.bsl d e len ((List.range (len * z)).map fun i => zc.getD (i % zc.length) undef) (partsSl z parts.toList))
  | _ => none
 | .convert s t x => (dst1 n o).bind fun d => match P.underlying s,P.underlying t with
  | some (.int _),some (.int k) => some (.cvt d k x)
  | some _,some _ => some (.raw (some d) o)
  | _,_ => none
 | .call c => match c.callee with
  | .value (.func f) => if callable P f = true then (dst0 n o).map (.call · f c.args.toList) else (dst0 n o).map (.raw · o)
  | .value x => (dst0 n o).map (.cav · x c.args.toList)
  | .builtin .len => (dst1 n o).bind fun d => match (c.argTypes[0]?).bind P.underlying,c.args.toList with
   | some .string,[x] => some (.len d false x)
   | some (.slice _),[x] => some (.len d true x)
   | _,_ => none
  | .builtin .cap => (dst1 n o).bind fun d => match (c.argTypes[0]?).bind P.underlying,c.args.toList with
   | some (.slice _),[x] => some (.cap d x)
   | _,_ => none
  | .builtin .max => (dst1 n o).bind fun d => match c.args.toList with
   | [x,y] => some (.mm d true x y)
   | _ => none
  | .builtin .min => (dst1 n o).bind fun d => match c.args.toList with
   | [x,y] => some (.mm d false x y)
   | _ => none
  | .builtin .append | .builtin .copy | .builtin .clear => (dst0 n o).map (.raw · o)
  | _ => none
 | .makeMap .. | .lookup .. | .mapEntry .. | .entryStore .. | .makeSlice .. => (dst0 n o).map (.raw · o)
 | _ => none
/-- What the printed plan says of each step: operation number i of the region; forget; a guard. -/
inductive St where
 | o (i : Nat)
 /-- operation number i,at its own time -/
 | x (i : Nat)
 | kp (l : List Nat)
 | sc (c : Nat) (w : Bool) (n : Nat)
def cmpO (P : Program) (n : Nat) (ops : Array Oper) (i : Nat) : Option I :=
 (ops[i]?).bind fun o => (cmpJ P n o).bind fun j => match o.guard with
  | none => some (.op j)
  | some (g,w) => ((ops[g]?).bind (·.dst)).map fun c => .g c w j
def cmpX (P : Program) (n : Nat) (ops : Array Oper) (i : Nat) : Option I :=
 (ops[i]?).bind fun o => if o.guard.isNone = true then (cmpJ P n o).bind fun j => if j.take = true then some (.opn j) else none else none
theorem cmpX_some {P : Program} {n : Nat} {ops : Array Oper} {i : Nat} {x : I} (h : cmpX P n ops i = some x) : ∃ o j,ops[i]? = some o ∧ cmpJ P n o = some j ∧ o.guard = none ∧ j.take = true ∧ x = .opn j := by
 unfold cmpX at h
 obtain ⟨o,ho,h⟩ := Option.bind_eq_some_iff.1 h
 split at h
 ·rename_i hg
  obtain ⟨j,hj,h⟩ := Option.bind_eq_some_iff.1 h
  split at h
  ·rename_i ht
   cases h
   exact ⟨o,j,ho,hj,by simpa using hg,ht,rfl⟩
  ·cases h
 ·cases h
def cmpL (P : Program) (n : Nat) (ops : Array Oper) : List St → Option (List I)
 | [] => some []
 | .x i :: r => (cmpX P n ops i).bind fun x => (cmpL P n ops r).map (x :: ·)
 | .kp l :: r => (cmpL P n ops r).map (.kp l :: ·)
 | .sc c w k :: r => (cmpL P n ops r).map (.sc c w k :: ·)
 | .o i :: r => (cmpO P n ops i).bind fun x => (cmpL P n ops r).map (x :: ·)
def ordOf : List St → List Nat
 | [] => []
 | .o i :: r => i :: ordOf r
 | .x i :: r => i :: ordOf r
 | _ :: r => ordOf r
/-- With it whether it is carried out at its own time. -/
def ordX : List St → List (Nat × Bool)
 | [] => []
 | .o i :: r => (i,false) :: ordX r
 | .x i :: r => (i,true) :: ordX r
 | _ :: r => ordX r
end Go.AX
namespace Go.AX
open Go
structure Agr (n : Nat) (σ : Env) (a : Act) : Prop where
 size : a.tmps.size = n
 defers : a.defers = []
 at_ : ∀ s v,look σ s = some v → a.tmps[s]? = some v
theorem Agr.eval {n : Nat} {σ : Env} {a : Act} (h : Agr n σ a) {x : Operand} {v : Value} (hx : evO σ x = some v) : a.eval x = v := by
 cases x with
 | tmp t =>
  have := h.at_ t v hx
  simp [Act.eval,Array.getD_eq_getD_getElem?,this]
 | const u => simpa [evO,Act.eval] using hx
 | global g => simpa [evO,Act.eval] using hx
 | func f => simpa [evO,Act.eval] using hx
theorem Agr.evals {n : Nat} {σ : Env} {a : Act} (h : Agr n σ a) : ∀ {xs : List Operand} {vs : List Value},evOs σ xs = some vs → xs.map a.eval = vs
 | [],vs,hx => by simpa [evOs] using hx
 | x :: xs,vs,hx => by
  simp only [evOs,Option.bind_eq_some_iff,Option.map_eq_some_iff] at hx
  obtain ⟨v,hv,us,hus,rfl⟩ := hx
  simp [h.eval hv,Agr.evals h hus]
theorem Agr.evalo {n : Nat} {σ : Env} {a : Act} (h : Agr n σ a) {x : Option Operand} {v : Option Value} (hx : evOo σ x = some v) : x.map a.eval = v := by
 cases x with
 | none => simpa [evOo] using hx
 | some x =>
  simp only [evOo,Option.map_eq_some_iff] at hx
  obtain ⟨u,hu,rfl⟩ := hx
  simp [h.eval hu]
theorem Agr.put {n : Nat} {σ : Env} {a : Act} (h : Agr n σ a) {d : Option Nat} (hd : ∀ k,d = some k → k < n) (v : Value) : Agr n (putE σ d v) (a.put d v) := by
 cases d with
 | none => exact h
 | some d =>
  have hdn := hd d rfl
  refine ⟨by simp [Act.put,h.size],h.defers,fun s u hs => ?_⟩
  simp only [putE,look] at hs
  split at hs
  ·rename_i e
   subst e
   cases hs
   simp [Act.put,h.size,hdn]
  ·rename_i e
   simp only [Act.put]
   rw [Array.getElem?_setIfInBounds_ne (by omega)]
   exact h.at_ s u hs
theorem Agr.keep {n : Nat} {σ : Env} {a : Act} (h : Agr n σ a) (l : List Nat) : Agr n (keep l σ) a :=
 ⟨h.size,h.defers,fun s v hs => h.at_ s v (look_keep l σ s v hs)⟩
theorem Agr.same {n : Nat} {σ : Env} {a : Act} (h : Agr n σ a) {c : Nat} {v : Value} (hc : look σ c = some v) : Agr n ((c,v) :: σ) a :=
 ⟨h.size,h.defers,fun s u hs => by
  simp only [look] at hs
  split at hs
  ·rename_i e; subst e; cases hs; exact h.at_ _ _ hc
  ·exact h.at_ s u hs⟩
theorem cel_cell (w : World) (b o : Nat) : w.cell? ⟨b,o,none⟩ = cel w.heap b o := by
 unfold World.cell? cel
 split <;> simp_all
theorem add_mk (b o n : Nat) : (⟨b,o,none⟩ : Addr).add n = ⟨b,o + n,none⟩ := by
 unfold Addr.add
 split
 ·subst_vars; rfl
 ·rfl
theorem rd_at {h : Heap} {b : Nat} : ∀ {n o : Nat} {l : List Value},rd h b o n = some l → l.length = n ∧ ∀ j v,l[j]? = some v → cel h b (o + j) = some v
 | 0,o,l,hl => by simp only [rd,Option.some.injEq] at hl; subst hl; simp
 | n + 1,o,l,hl => by
  simp only [rd,Option.bind_eq_some_iff,Option.map_eq_some_iff] at hl
  obtain ⟨v,hv,vs,hvs,rfl⟩ := hl
  obtain ⟨h1,h2⟩ := rd_at hvs
  refine ⟨by simp [h1],fun j u hj => ?_⟩
  cases j with
  | zero => simp at hj; subst hj; simpa using hv
  | succ j =>
   have := h2 j u (by simpa using hj)
   rw [← this]; congr 1; omega
theorem run_loadCells_rd {P : Program} (w : World) {b o n : Nat} {l : List Value} (h : rd w.heap b o n = some l) :
  (loadCells ⟨b,o,none⟩ n).run P w = .ok l.toArray w := by
 obtain ⟨h1,h2⟩ := rd_at h
 subst h1
 exact run_loadCells_list w _ l fun j v hj => by rw [add_mk,cel_cell]; exact h2 j v hj
theorem cel_of_heapOk {m : Option Md} {h hp : Heap} (hk : heapOk m h hp) {b : Nat} (hb : ldOk m b) (o : Nat) : cel hp b o = cel (ldHeap m h) b o := by
 cases m with
 | none => have e : hp = h := hk; subst e; rfl
 | some m => unfold cel; rw [hk b hb]; rfl
theorem rd_of_heapOk {m : Option Md} {h hp : Heap} (hk : heapOk m h hp) {b : Nat} (hb : ldOk m b) : ∀ (n o : Nat),rd hp b o n = rd (ldHeap m h) b o n
 | 0,_ => rfl
 | n + 1,o => by simp only [rd,cel_of_heapOk hk hb,rd_of_heapOk hk hb n]
theorem run_storeCells_wr {P : Program} : ∀ (vs : List Value) (i b o : Nat) (w : World),wrOk w.heap b (o + i) vs →
  (storeCells ⟨b,o,none⟩ vs i).run P w = .ok () { w with heap := wr w.heap b (o + i) vs }
 | [],i,b,o,w,_ => by
  simp only [storeCells,Sem.run_pure,wr]
  have : w.heap.modify b (wrObj (o + i) []) = w.heap := by
   apply Array.ext_getElem?
   intro k
   rw [Array.getElem?_modify]
   split
   ·cases w.heap[k]? with
    | none => rfl
    | some x => cases x <;> rfl
   ·rfl
  rw [this]
 | v :: vs,i,b,o,w,⟨c,t,hc,hl,h1⟩ => by
  have hi : o + i < c.size := by simp at hl; omega
  have hcell : w.cell? ⟨b,o + i,none⟩ = some c[o + i] := by simp [World.cell?,hc,hi]
  have hfro : w.frozen? ⟨b,o + i,none⟩ = false := by simp [World.frozen?,hc]
  have hset : w.setCell ⟨b,o + i,none⟩ v = { w with heap := wr w.heap b (o + i) [v] } := by
   unfold World.setCell wr
   congr 1
  have hst : (store ((⟨b,o,none⟩ : Addr).add i) v).run P w = .ok () { w with heap := wr w.heap b (o + i) [v] } := by
   rw [add_mk,run_store P w _ v _ (h1 v (by simp)),hcell]
   simp [hfro,hset]
  simp only [storeCells,Sem.run_bind,hst,Result.andThen_ok]
  have hb : b < w.heap.size := (Array.getElem?_eq_some_iff.1 hc).1
  rw [run_storeCells_wr vs (i + 1) b o _ ⟨c.setIfInBounds (o + i) v,t,by simp [wr,Array.getElem?_modify,hc,wrObj,patch],by simp at hl ⊢; omega,fun u hu => h1 u (by simp [hu])⟩]
  congr 2
  apply Array.ext_getElem?
  intro k
  simp only [wr,Array.getElem?_modify]
  split
  ·cases w.heap[k]? with
   | none => rfl
   | some x => cases x <;> rfl
  ·rfl
theorem dst1_some {n : Nat} {o : Oper} {d : Nat} (h : dst1 n o = some d) : o.dst = some d ∧ d < n := by
 unfold dst1 at h
 split at h
 ·split at h
  ·cases h; exact ⟨by assumption,by assumption⟩
  ·cases h
 ·cases h
theorem dst0_some {n : Nat} {o : Oper} {d : Option Nat} (h : dst0 n o = some d) : o.dst = d ∧ ∀ k,d = some k → k < n := by
 unfold dst0 at h
 split at h
 ·split at h
  ·cases h
   refine ⟨by assumption,fun k hk => ?_⟩
   cases hk; assumption
  ·cases h
 ·cases h
  exact ⟨by assumption,fun k hk => by cases hk⟩
theorem run_sizeOf' {P : Program} {t : TypeId} {s : Nat} (h : sizeT P t = some s) (w : World) : (sizeOf t).run P w = .ok s w := by
 unfold sizeT at h
 obtain ⟨i,hi,rfl⟩ := Option.map_eq_some_iff.1 h
 simp [sizeOf,typeInfo,hi]
theorem run_zeroValue' {P : Program} {t : TypeId} {z : List Value} (h : zeroT P t = some z) (w : World) : ∃ v,(zeroValue t).run P w = .ok v w ∧ v.cells = z.toArray := by
 unfold zeroT at h
 simp only [Option.bind_eq_some_iff,Option.map_eq_some_iff] at h
 obtain ⟨i,hi,v,hv,rfl⟩ := h
 exact ⟨v,by simp [zeroValue,typeInfo,hi,hv],by simp⟩
theorem run_isAgg' {P : Program} {t : TypeId} {s : Option Nat} (h : aggSz P t = some s) (w : World) : (isAgg t).run P w = .ok s.isSome w ∧ ∀ n,s = some n → sizeT P t = some n := by
 unfold aggSz at h
 split at h
 ·rename_i hu
  obtain ⟨i,hi,rfl⟩ := Option.map_eq_some_iff.1 h
  refine ⟨by simp [isAgg,run_underlying hu],fun n hn => ?_⟩
  cases hn; simp [sizeT,hi]
 ·rename_i hu
  obtain ⟨i,hi,rfl⟩ := Option.map_eq_some_iff.1 h
  refine ⟨by simp [isAgg,run_underlying hu],fun n hn => ?_⟩
  cases hn; simp [sizeT,hi]
 ·rename_i d h1 h2 hu
  cases h
  refine ⟨?_,fun n hn => by cases hn⟩
  simp only [isAgg,Sem.run_bind,run_underlying hu,Result.andThen_ok]
  cases d <;> first | rfl | exact absurd hu (h1 _) | exact absurd hu (h2 _ _)
 ·cases h
theorem asP_some {v : Value} {q : Nat × Nat} (h : asP v = some q) : v = ptr q.1 q.2 := by
 unfold asP at h
 split at h
 ·cases h; rfl
 ·cases h
theorem asSl_some {v : Value} {q : Nat × Nat × Nat × Nat} (h : asSl v = some q) : v = sl q.1 q.2.1 q.2.2.1 q.2.2.2 := by
 unfold asSl at h
 split at h
 ·cases h; rfl
 ·cases h
theorem asI_some {v : Value} {n : Int} (h : asI v = some n) : ∃ k,v = .int k n := by
 unfold asI at h
 split at h
 ·cases h; exact ⟨_,rfl⟩
 ·cases h
theorem asB_some {v : Value} {b : Bool} (h : asB v = some b) : v = .bool b := by
 unfold asB at h
 split at h
 ·cases h; rfl
 ·cases h
end Go.AX
namespace Go.AX
open Go
/-- The value of a type whose cells these are. -/
def mkV (P : Program) (t : TypeId) (xs : List Value) : Value :=
 match P.underlying t with
 | some (.struct _) => .agg xs.toArray
 | _ => xs.headD undef
theorem flatT_size {P : Program} {d : Nat} {t : TypeId} {ks : List Kd} (h : flatT P d t = some ks) :
  (∃ fs,P.underlying t = some (.struct fs) ∧ sizeT P t = some ks.length) ∨ (ks.length = 1 ∧ ∃ u,P.underlying t = some u ∧ (isAgg t).run P = fun w => .ok false w) := by
 cases d with
 | zero => cases h
 | succ d =>
  unfold flatT at h
  split at h
  ·rename_i hu; cases h; exact .inr ⟨rfl,_,hu,by funext w; simp [isAgg,run_underlying hu]⟩
  ·rename_i hu; cases h; exact .inr ⟨rfl,_,hu,by funext w; simp [isAgg,run_underlying hu]⟩
  ·rename_i hu; cases h; exact .inr ⟨rfl,_,hu,by funext w; simp [isAgg,run_underlying hu]⟩
  ·rename_i hu
   split at h
   ·cases h
   ·simp only [Option.bind_eq_some_iff] at h
    obtain ⟨a,_,h⟩ := h
    split at h
    ·cases h; exact .inl ⟨_,hu,by assumption⟩
    ·cases h
  ·cases h
theorem run_part_flat {P : Program} {d : Nat} {t : TypeId} {ks : List Kd} (h : flatT P d t = some ks) (xs : List Value) (o : Nat) (hl : o + ks.length ≤ xs.length) (w : World) :
  (part t xs.toArray o).run P w = .ok (mkV P t ((xs.drop o).take ks.length)) w := by
 rcases flatT_size h with ⟨fs,hu,hs⟩ | ⟨h1,u,hu,ha⟩
 ·have hagg : (isAgg t).run P w = .ok true w := by simp [isAgg,run_underlying hu]
  simp only [part,Sem.run_bind,hagg,Result.andThen_ok,if_true,run_sizeOf' hs,Sem.run_pure,mkV,hu]
  congr 2
  simp
 ·have hlt : o < xs.length := by omega
  have hx : (List.take ks.length (List.drop o xs)) = [xs[o]] := by
   rw [h1,List.drop_eq_getElem_cons hlt]; rfl
  have hget : xs.toArray[o]? = some xs[o] := by simp [hlt]
  have hns : ∀ fs,u ≠ .struct fs := by
   rintro fs rfl
   have := congrFun ha w
   simp [isAgg,run_underlying hu] at this
  simp only [part,Sem.run_bind,ha,Result.andThen_ok,Bool.false_eq_true,if_false,hget,Sem.run_pure,mkV,hu,hx]
  cases u <;> first | rfl | exact absurd rfl (hns _)
theorem eqKds_length : ∀ {ks : List Kd} {xs ys : List Value} {b : Bool},eqKds ks xs ys = some b → xs.length = ks.length ∧ ys.length = ks.length
 | [],[],[],_,_ => ⟨rfl,rfl⟩
 | [],[],_ :: _,_,h => by cases h
 | [],_ :: _,_,_,h => by cases h
 | _ :: _,[],_,_,h => by cases h
 | _ :: _,_ :: _,[],_,h => by cases h
 | k :: ks,x :: xs,y :: ys,b,h => by
  simp only [eqKds,Option.bind_eq_some_iff,Option.map_eq_some_iff] at h
  obtain ⟨a,_,c,hc,_⟩ := h
  obtain ⟨h1,h2⟩ := eqKds_length hc
  exact ⟨by simp [h1],by simp [h2]⟩
theorem eqKds_append : ∀ (a : List Kd) {ks : List Kd} {xs ys : List Value} {b : Bool},eqKds (a ++ ks) xs ys = some b →
  ∃ b1 b2,eqKds a (xs.take a.length) (ys.take a.length) = some b1 ∧ eqKds ks (xs.drop a.length) (ys.drop a.length) = some b2 ∧ b = (b1 && b2)
 | [],ks,xs,ys,b,h => ⟨true,b,by simp [eqKds],by simpa using h,by simp⟩
 | k :: a,ks,xs,ys,b,h => by
  match xs,ys,h with
  | x :: xs,y :: ys,h =>
   simp only [List.cons_append,eqKds,Option.bind_eq_some_iff,Option.map_eq_some_iff] at h
   obtain ⟨c,hc,e,he,rfl⟩ := h
   obtain ⟨b1,b2,h1,h2,rfl⟩ := eqKds_append a he
   exact ⟨c && b1,b2,by simp [eqKds,hc,h1],by simpa using h2,by simp [Bool.and_assoc]⟩
theorem eqFields_flat {P : Program} (d D : Nat) (xs ys : List Value) (w : World)
  (ih : ∀ t ks xs ys b,flatT P d t = some ks → eqKds ks xs ys = some b → (Op.equalIn D t (mkV P t xs) (mkV P t ys)).run P w = .ok b w) :
  ∀ (fs : List Field) (o : Nat) (ks : List Kd) (b : Bool),flatFs (flatT P d) o fs = some ks → eqKds ks (xs.drop o) (ys.drop o) = some b →
   (Op.eqFields D xs.toArray ys.toArray fs).run P w = .ok b w
 | [],o,ks,b,h,hb => by
  cases h
  have : b = true := by
   cases hx : xs.drop o <;> cases hy : ys.drop o <;> simp [hx,hy,eqKds] at hb
   exact hb
  subst this
  rfl
 | f :: fs,o,ks,b,h,hb => by
  unfold flatFs at h
  split at h
  ·cases h
  ·rename_i hno
   have hname : f.name ≠ "_" := fun e => hno (.inl e)
   have hoff : f.offset = o := Classical.byContradiction fun e => hno (.inr e)
   simp only [Option.bind_eq_some_iff] at h
   obtain ⟨a,ha,h⟩ := h
   split at h
   ·cases h
   rename_i hpos
   obtain ⟨ks',hks',rfl⟩ := Option.map_eq_some_iff.1 h
   obtain ⟨b1,b2,h1,h2,rfl⟩ := eqKds_append a hb
   obtain ⟨l1,l2⟩ := eqKds_length h1
   rw [List.length_take,List.length_drop] at l1 l2
   have hxl : o + a.length ≤ xs.length := by omega
   have hyl : o + a.length ≤ ys.length := by omega
   have p1 := run_part_flat ha xs o hxl w
   have p2 := run_part_flat ha ys o hyl w
   have he := ih f.type a _ _ b1 ha h1
   simp only [Op.eqFields,hname,ne_eq,not_false_eq_true,if_true,hoff,Sem.run_bind,p1,p2,Result.andThen_ok,he]
   cases b1 with
   | false => simp
   | true =>
    simp only [Bool.not_true,Bool.false_eq_true,if_false,Bool.true_and]
    exact eqFields_flat d D xs ys w ih fs (o + a.length) ks' b2 hks' (by simpa [List.drop_drop,Nat.add_comm] using h2)
theorem equalIn_flat {P : Program} (w : World) : ∀ (d D : Nat),d ≤ D → ∀ (t : TypeId) (ks : List Kd) (xs ys : List Value) (b : Bool),flatT P d t = some ks → eqKds ks xs ys = some b →
  (Op.equalIn D t (mkV P t xs) (mkV P t ys)).run P w = .ok b w
 | 0,_,_,_,_,_,_,_,h,_ => by cases h
 | d + 1,0,hD,_,_,_,_,_,_,_ => by omega
 | d + 1,D + 1,hD,t,ks,xs,ys,b,h,hb => by
  unfold flatT at h
  split at h
  ·rename_i k hu
   cases h
   match xs,ys,hb with
   | x :: xs,y :: ys,hb =>
    simp only [eqKds,Option.bind_eq_some_iff,Option.map_eq_some_iff] at hb
    obtain ⟨a,ha,c,hc,rfl⟩ := hb
    obtain ⟨rfl,rfl⟩ : xs = [] ∧ ys = [] := by have := eqKds_length hc; exact ⟨List.eq_nil_of_length_eq_zero this.1,List.eq_nil_of_length_eq_zero this.2⟩
    cases hc
    cases x <;> cases y <;> simp only [eqKd,reduceCtorEq] at ha
    split at ha
    ·rename_i hk; obtain ⟨rfl,rfl⟩ := hk
     cases ha
     simp [mkV,hu,Op.equalIn,run_underlying hu]
    ·cases ha
  ·rename_i hu
   cases h
   match xs,ys,hb with
   | x :: xs,y :: ys,hb =>
    simp only [eqKds,Option.bind_eq_some_iff,Option.map_eq_some_iff] at hb
    obtain ⟨a,ha,c,hc,rfl⟩ := hb
    obtain ⟨rfl,rfl⟩ : xs = [] ∧ ys = [] := by have := eqKds_length hc; exact ⟨List.eq_nil_of_length_eq_zero this.1,List.eq_nil_of_length_eq_zero this.2⟩
    cases hc
    cases x <;> cases y <;> simp only [eqKd,reduceCtorEq] at ha
    cases ha
    simp [mkV,hu,Op.equalIn,run_underlying hu]
  ·rename_i hu
   cases h
   match xs,ys,hb with
   | x :: xs,y :: ys,hb =>
    simp only [eqKds,Option.bind_eq_some_iff,Option.map_eq_some_iff] at hb
    obtain ⟨a,ha,c,hc,rfl⟩ := hb
    obtain ⟨rfl,rfl⟩ : xs = [] ∧ ys = [] := by have := eqKds_length hc; exact ⟨List.eq_nil_of_length_eq_zero this.1,List.eq_nil_of_length_eq_zero this.2⟩
    cases hc
    cases x <;> cases y <;> simp only [eqKd,reduceCtorEq] at ha
    cases ha
    simp [mkV,hu,Op.equalIn,run_underlying hu,beq_toListBytes]
  ·rename_i fs hu
   split at h
   ·cases h
   ·rename_i hst
    simp only [Option.bind_eq_some_iff] at h
    obtain ⟨a,ha,h⟩ := h
    split at h
    ·cases h
     simp only [mkV,hu]
     have hf : P.fieldsOf t = fs := by simp [Program.fieldsOf,hu]
     rw [run_equalIn_struct w D t _ _ (by rw [hf]; exact hu) (by simpa using hst),hf]
     exact eqFields_flat d D xs ys w (fun t ks xs ys b h1 h2 => equalIn_flat w d D (by omega) t ks xs ys b h1 h2) fs.toList 0 _ b ha (by simpa using hb)
    ·cases h
  ·cases h
end Go.AX
namespace Go.AX
open Go
theorem slcV_run {P : Program} {t e : TypeId} {sz : Nat} (hu : P.underlying t = some (.slice e)) (hs : sizeT P e = some sz) {x : Value} {lo hi mx : Option Value} (hm : mx.isSome = true → hi.isSome = true) {K : Value → Prop}
  (h : slcV sz x lo hi mx K) : ∃ v,K v ∧ ∀ w : World,(Instr.sliceAt t x lo hi mx).run P w = .ok v w := by
 unfold slcV at h
 split at h
 ·rename_i a n c
  obtain ⟨m,hm',g1⟩ := bd_elim h
  obtain ⟨hh,hh',g2⟩ := bd_elim g1
  obtain ⟨l,hl',h0,h1,h2,h3,hK⟩ := bd_elim g2
  refine ⟨_,hK,fun w => ?_⟩
  clear hK g1 g2 h
  have b1 : ∀ (x : Value) (i : Int) (y : Nat) (code : BoundsCode),asI x = some i → 0 ≤ i → i ≤ y → (Instr.sliceBound x y code).run P w = .ok i.toNat w := by
   intro x i y code hx h0 h1
   obtain ⟨k,rfl⟩ := asI_some hx
   simp [Instr.sliceBound,asIntOf,h0,h1]
  have hbounds : (Instr.sliceBounds true n c lo hi mx).run P w = .ok (l.toNat,hh.toNat,m.toNat) w := by
   unfold Instr.sliceBounds
   cases mx with
   | none =>
    cases hm'
    cases hi with
    | none =>
     cases hh'
     cases lo with
     | none => cases hl'; simp
     | some v => have hb := b1 v l n .sliceB hl' h0 h1; simp [hb]
    | some v =>
     have hb := b1 v hh c .sliceAcap hh' (by omega) h2
     cases lo with
     | none => cases hl'; simp [hb]
     | some u => have hb2 := b1 u l hh.toNat .sliceB hl' h0 (by omega); simp [hb,hb2]
   | some vm =>
    cases hi with
    | none => simp at hm
    | some v =>
     have hb1 := b1 vm m c .slice3Acap hm' (by omega) h3
     have hb := b1 v hh m.toNat .slice3B hh' (by omega) (by omega)
     cases lo with
     | none => cases hl'; simp [hb,hb1]
     | some u => have hb2 := b1 u l hh.toNat .slice3C hl' h0 (by omega); simp [hb,hb1,hb2]
  simp [Instr.sliceAt,Instr.slice,run_underlying hu,hbounds,run_sizeOf' hs]
 ·exact h.elim
theorem putL_eq : ∀ (vs : List Value) (k off : Nat) (cells : Array Value),
  (vs.zipIdx k).foldl (fun cs (x : Value × Nat) => cs.setIfInBounds (off + x.2) x.1) cells = (putL cells.toList (off + k) vs).toArray
 | [],_,_,_ => by simp [putL]
 | v :: vs,k,off,cells => by
  simp only [List.zipIdx_cons,List.foldl_cons,putL]
  rw [putL_eq vs (k + 1) off]
  simp [Nat.add_assoc]
theorem putL_length : ∀ (vs : List Value) (cs : List Value) (o : Nat),(putL cs o vs).length = cs.length
 | [],_,_ => rfl
 | v :: vs,cs,o => by simp [putL,putL_length vs]
inductive All2 {α β : Type} (R : α → β → Prop) : List α → List β → Prop
 | nil : All2 R [] []
 | cons {a : α} {b : β} {l : List α} {m : List β} : R a b → All2 R l m → All2 R (a :: l) (b :: m)
theorem fill_eq {n : Nat} {σ : Env} {a : Act} (ha : Agr n σ a) (place : Nat → Option (Nat × Nat)) : ∀ (parts : List (Nat × Operand)) (ps : List (Nat × Nat × Operand)) (cs out : List Value),
  All2 (fun (p : Nat × Operand) (q : Nat × Nat × Operand) => place p.1 = some (q.1,q.2.1) ∧ p.2 = q.2.2) parts ps → fillL σ cs ps = some out →
  Instr.fill place cs.toArray (parts.map fun p => (p.1,a.eval p.2)) = some out.toArray
 | [],_,cs,out,hf,h => by
  cases hf
  simp only [fillL,Option.some.injEq] at h
  subst h; rfl
 | (i,x) :: parts,(off,size,y) :: ps,cs,out,hf,h => by
  cases hf with
  | cons h1 hf =>
   obtain ⟨hp,rfl⟩ := h1
   simp only [fillL,Option.bind_eq_some_iff] at h
   obtain ⟨v,hv,h⟩ := h
   split at h
   ·rename_i hc
    have ih := fill_eq ha place parts ps _ out hf h
    have hp' : place i = some (off,size) := hp
    have e1 : ¬ (v.cells.size ≠ size || decide (off + v.cells.size > cs.toArray.size)) = true := by
     simp only [ne_eq,hc.1,not_true_eq_false,decide_false,Bool.false_or,decide_eq_true_eq]
     simp; omega
    simp only [List.map_cons,Instr.fill,hp',ha.eval hv]
    rw [if_neg (by simpa using e1)]
    have e2 : (Array.foldl (fun (cs : Array Value) (x : Value × Nat) => cs.setIfInBounds (off + x.2) x.1) cs.toArray v.cells.zipIdx) = (putL cs off v.cells.toList).toArray := by
     rw [← Array.foldl_toList,Array.toList_zipIdx]
     simpa using putL_eq v.cells.toList 0 off cs.toArray
    rw [← ih]
    congr 1
   ·cases h
theorem partsOf_rel {P : Program} {t : TypeId} {fs : Array Field} (hu : P.underlying t = some (.struct fs)) : ∀ (parts : List (Nat × Operand)) (ps : List (Nat × Nat × Operand)),partsOf P t parts = some ps →
  All2 (fun (p : Nat × Operand) (q : Nat × Nat × Operand) => (∃ f,fs[p.1]? = some f ∧ f.offset = q.1 ∧ sizeT P f.type = some q.2.1) ∧ p.2 = q.2.2) parts ps
 | [],ps,h => by simp only [partsOf,Option.some.injEq] at h; subst h; exact .nil
 | (i,x) :: parts,ps,h => by
  simp only [partsOf,hu,Option.bind_eq_some_iff,Option.map_eq_some_iff] at h
  obtain ⟨f,hf,s,hs,qs,hq,rfl⟩ := h
  exact .cons ⟨⟨f,hf,rfl,hs⟩,rfl⟩ (partsOf_rel hu parts qs hq)
theorem run_mapM_places {P : Program} (w : World) : ∀ (fs : List Field),(fs.all fun f => (sizeT P f.type).isSome) = true →
  (fs.mapM fun f => do pure (f.offset,← sizeOf f.type) : Sem (List (Nat × Nat))).run P w = .ok (fs.map fun f => (f.offset,(sizeT P f.type).getD 0)) w
 | [],_ => by simp
 | f :: fs,h => by
  simp only [List.all_cons,Bool.and_eq_true] at h
  obtain ⟨s,hs⟩ := Option.isSome_iff_exists.1 h.1
  have ih := run_mapM_places w fs h.2
  simp only [List.mapM_cons,Sem.run_bind,run_sizeOf' hs,Result.andThen_ok,Sem.run_pure,ih,List.map_cons,hs,Option.getD_some]
theorem All2.imp {α β : Type} {R S : α → β → Prop} (h : ∀ a b,R a b → S a b) : ∀ {l : List α} {m : List β},All2 R l m → All2 S l m
 | _,_,.nil => .nil
 | _,_,.cons a b => .cons (h _ _ a) (All2.imp h b)
section
variable {P : Program} (w : World)
theorem eqIn_bool (d : Nat) {t : TypeId} (hu : P.underlying t = some .bool) (a b : Bool) : (Op.equalIn (d + 1) t (.bool a) (.bool b)).run P w = .ok (a == b) w := run_equalIn_bool w d t a b hu
theorem eqIn_pn (d : Nat) {t e : TypeId} (hu : P.underlying t = some (.pointer e)) (b : Option Addr) : (Op.equalIn (d + 1) t (.pointer none) (.pointer b)).run P w = .ok b.isNone w := by
 simp only [Op.equalIn,Sem.run_bind,run_underlying hu,Result.andThen_ok,Sem.run_pure]
theorem eqIn_np (d : Nat) {t e : TypeId} (hu : P.underlying t = some (.pointer e)) (b : Addr) : (Op.equalIn (d + 1) t (.pointer (some b)) (.pointer none)).run P w = .ok false w := by
 simp only [Op.equalIn,Sem.run_bind,run_underlying hu,Result.andThen_ok,Sem.run_pure]
theorem eqIn_sn (d : Nat) {t e : TypeId} (hu : P.underlying t = some (.slice e)) (b : Option Addr) (n c n' c' : Nat) : (Op.equalIn (d + 1) t (.slice none n c) (.slice b n' c')).run P w = .ok b.isNone w := by
 simp only [Op.equalIn,Sem.run_bind,run_underlying hu,Result.andThen_ok,Sem.run_pure]
theorem eqIn_ns (d : Nat) {t e : TypeId} (hu : P.underlying t = some (.slice e)) (b : Addr) (n c n' c' : Nat) : (Op.equalIn (d + 1) t (.slice (some b) n c) (.slice none n' c')).run P w = .ok false w := by
 simp only [Op.equalIn,Sem.run_bind,run_underlying hu,Result.andThen_ok,Sem.run_pure]
theorem bin_eq {t : TypeId} {x y : Value} {r : Bool} (neg : Bool) (h1 : binOp .eql t x y = do pure (.bool (← Op.equal t x y))) (h2 : binOp .neq t x y = do pure (.bool (!(← Op.equal t x y))))
  (h : (Op.equalIn (9999 + 1) t x y).run P w = .ok r w) : (binOp (if neg then .neq else .eql) t x y).run P w = .ok (.bool (if neg then !r else r)) w := by
 have he : (Op.equal t x y).run P w = .ok r w := h
 cases neg
 ·simp only [Bool.false_eq_true,if_false,h1,Sem.run_bind,he,Result.andThen_ok,Sem.run_pure]
 ·simp only [if_true,h2,Sem.run_bind,he,Result.andThen_ok,Sem.run_pure]
end
def plainTwo (v u : Value) : Prop := match v,u with | .nilIface,.nilIface => False | .agg _,.agg _ => False | _,_ => True
theorem eqGuard_plain {P : Program} (op : BinOp) (t : TypeId) (x y : Operand) {v u : Value} (hvu : plainTwo v u) (w : World) : (eqGuard op t x y v u).run P w = .ok () w := by
 cases op <;> first | rfl | (cases v <;> cases u <;> first | rfl | exact hvu.elim)
/-- An instruction that leaves the heap alone: the operation yields its value in every world whose heap may be the one at hand. -/
theorem take_ok {P : Program} {n : Nat} {o : Oper} {j : J} (hj : cmpJ P n o = some j) (ht : j.take = true) {m : Option Md} {h : Heap} {σ : Env} {a : Act} (ha : Agr n σ a) {K : Value → Prop} (hv : wV m h σ j K) :
  ∃ v,K v ∧ (∀ w : World,heapOk m h w.heap → (execOp a.eval o).run P w = .ok (.value v) w) ∧ o.dst = j.dst ∧ ∀ k,j.dst = some k → k < n := by
 obtain ⟨dst,op,type,pos,after,guard⟩ := o
 have d1 : ∀ {d : Nat},dst1 n ⟨dst,op,type,pos,after,guard⟩ = some d → dst = some d ∧ ∀ k,some d = some k → k < n := fun hd => ⟨(dst1_some hd).1,fun k hk => by cases hk; exact (dst1_some hd).2⟩
 cases op <;> simp only [cmpJ,reduceCtorEq] at hj
 case move x =>
  obtain ⟨d,hd,rfl⟩ := Option.map_eq_some_iff.1 hj
  obtain ⟨v,hx,hK⟩ := bd_elim hv
  exact ⟨v,hK,fun w _ => by simp [execOp,ha.eval hx],(d1 hd).1,(d1 hd).2⟩
 case assign x =>
  obtain ⟨d,hd,rfl⟩ := Option.map_eq_some_iff.1 hj
  obtain ⟨v,hx,hK⟩ := bd_elim hv
  exact ⟨v,hK,fun w _ => by simp [execOp,ha.eval hx],(d1 hd).1,(d1 hd).2⟩
 case pick c x y =>
  obtain ⟨d,hd,rfl⟩ := Option.map_eq_some_iff.1 hj
  obtain ⟨vc,hc,g1⟩ := bd_elim hv
  obtain ⟨t,htb,g2⟩ := bd_elim g1
  obtain ⟨v,hx,hK⟩ := bd_elim g2
  have hcb := asB_some htb
  refine ⟨v,hK,fun w _ => ?_,(d1 hd).1,(d1 hd).2⟩
  cases t <;> simp at hx <;> simp [execOp,ha.eval hc,hcb,ha.eval hx,asBool]
 case load t x =>
  simp only [Option.bind_eq_some_iff,Option.map_eq_some_iff] at hj
  obtain ⟨d,hd,s,hs,rfl⟩ := hj
  obtain ⟨v,hx,g1⟩ := bd_elim hv
  obtain ⟨q,hq,hok,g2⟩ := bd_elim g1
  have hp := asP_some hq
  cases s with
  | none =>
   obtain ⟨u,hu,hK⟩ := bd_elim g2
   refine ⟨u,hK,fun w hw => ?_,(d1 hd).1,(d1 hd).2⟩
   have hc : w.cell? ⟨q.1,q.2,none⟩ = some u := by rw [cel_cell,cel_of_heapOk hw hok]; exact hu
   simp [execOp,ha.eval hx,hp,Instr.loadAt,Instr.sureAddr,loadVar,(run_isAgg' hs w).1,hc]
  | some k =>
   obtain ⟨l,hl,hK⟩ := bd_elim g2
   refine ⟨_,hK,fun w hw => ?_,(d1 hd).1,(d1 hd).2⟩
   have hc : rd w.heap q.1 q.2 k = some l := by rw [rd_of_heapOk hw hok]; exact hl
   simp [execOp,ha.eval hx,hp,Instr.loadAt,Instr.sureAddr,loadVar,(run_isAgg' hs w).1,run_sizeOf' ((run_isAgg' hs w).2 k rfl),run_loadCells_rd w hc]
 case store t x v =>
  cases dst with
  | none => obtain ⟨s,_,rfl⟩ := Option.map_eq_some_iff.1 hj; cases ht
  | some d => cases hj
 case fieldAddr s x f =>
  obtain ⟨d,hd,hj⟩ := Option.bind_eq_some_iff.1 hj
  split at hj
  ·rename_i fs hu
   simp only [Option.bind_eq_some_iff] at hj
   obtain ⟨fl,hfl,z,hz,hj⟩ := hj
   split at hj
   ·cases hj
   ·rename_i hz0
    cases hj
    obtain ⟨v,hx,g1⟩ := bd_elim hv
    obtain ⟨q,hq,hK⟩ := bd_elim g1
    have hp := asP_some hq
    refine ⟨_,hK,fun w _ => ?_,(d1 hd).1,(d1 hd).2⟩
    simp [execOp,ha.eval hx,hp,Instr.fieldAt,run_underlying hu,hfl,Instr.sureAddr,fieldPlace,run_sizeOf' hz,hz0,add_mk]
  ·cases hj
 case indexAddr t x i =>
  obtain ⟨d,hd,hj⟩ := Option.bind_eq_some_iff.1 hj
  split at hj
  ·rename_i e hu
   obtain ⟨z,hz,rfl⟩ := Option.map_eq_some_iff.1 hj
   obtain ⟨v,hx,g1⟩ := bd_elim hv
   obtain ⟨u,hi,g2⟩ := bd_elim g1
   obtain ⟨q,hq,g3⟩ := bd_elim g2
   obtain ⟨k,hk,h0,h1,hK⟩ := bd_elim g3
   have hp := asSl_some hq
   obtain ⟨kk,hkk⟩ := asI_some hk
   refine ⟨_,hK,fun w _ => ?_,(d1 hd).1,(d1 hd).2⟩
   have he : P.elem t = e := by simp [Program.elem,hu]
   simp [execOp,ha.eval hx,ha.eval hi,hp,hkk,run_indexAt_slice w t _ _ _ _ _ (by rw [he]; exact hu),he,h0,h1,run_sizeOf' hz,add_mk]
  ·cases hj
 case slice t x lo hi mx =>
  obtain ⟨d,hd,hj⟩ := Option.bind_eq_some_iff.1 hj
  split at hj
  ·rename_i e hu
   split at hj
   ·cases hj
   ·rename_i hmx
    obtain ⟨z,hz,rfl⟩ := Option.map_eq_some_iff.1 hj
    obtain ⟨v,hx,g1⟩ := bd_elim hv
    obtain ⟨l,hl,g2⟩ := bd_elim g1
    obtain ⟨hh,hhi,g3⟩ := bd_elim g2
    obtain ⟨mm,hmm,g4⟩ := bd_elim g3
    obtain ⟨u,hK,hr⟩ := slcV_run hu hz (by
     intro hs
     cases mx with
     | none => cases hmm; cases hs
     | some y => cases hi with
      | none => simp at hmx
      | some y => simp only [evOo,Option.map_eq_some_iff] at hhi; obtain ⟨_,_,rfl⟩ := hhi; rfl) g4
    refine ⟨u,hK,fun w _ => ?_,(d1 hd).1,(d1 hd).2⟩
    simp only [execOp,Sem.run_bind,ha.eval hx,ha.evalo hl,ha.evalo hhi,ha.evalo hmm,hr w,Result.andThen_ok,Sem.run_pure]
  ·cases hj
 case extract x i =>
  obtain ⟨d,hd,rfl⟩ := Option.map_eq_some_iff.1 hj
  obtain ⟨v,hx,hv⟩ := bd_elim hv
  obtain ⟨u,hu,hK⟩ := bd_elim hv
  refine ⟨u,hK,fun w _ => ?_,(d1 hd).1,(d1 hd).2⟩
  cases v <;> simp only [extV,reduceCtorEq] at hu
  simp [execOp,ha.eval hx,Instr.extract,hu]
 case unOp op t x =>
  obtain ⟨d,hd,rfl⟩ := Option.map_eq_some_iff.1 hj
  obtain ⟨v,hx,hv⟩ := bd_elim hv
  obtain ⟨u,hu,hK⟩ := bd_elim hv
  refine ⟨u,hK,fun w _ => ?_,(d1 hd).1,(d1 hd).2⟩
  cases op <;> cases v <;> simp only [unV,reduceCtorEq,Option.some.injEq] at hu <;> subst hu <;> simp [execOp,ha.eval hx,Op.unary,Op.intArith]
 case build t parts =>
  obtain ⟨d,hd,hj⟩ := Option.bind_eq_some_iff.1 hj
  split at hj
  ·rename_i hok
   simp only [Option.bind_eq_some_iff,Option.map_eq_some_iff] at hj
   obtain ⟨z,hz,ps,hps,rfl⟩ := hj
   obtain ⟨cs,hcs,hK⟩ := bd_elim hv
   refine ⟨_,hK,fun w _ => ?_,(d1 hd).1,(d1 hd).2⟩
   unfold fieldsOk at hok
   split at hok
   ·rename_i fs hu
    obtain ⟨zv,hzr,hzc⟩ := run_zeroValue' hz w
    have hpl : (fs.mapM fun f => do pure (f.offset,← sizeOf f.type) : Sem (Array (Nat × Nat))).run P w = .ok (fs.toList.map fun f => (f.offset,(sizeT P f.type).getD 0)).toArray w := by
     rw [Array.mapM_eq_mapM_toList]
     simp only [Sem.run_map,run_mapM_places w fs.toList hok,Result.andThen_ok]
    have hrel := partsOf_rel hu parts.toList ps hps
    have hfill := fill_eq ha (fun i => (fs.toList.map fun f => (f.offset,(sizeT P f.type).getD 0)).toArray[i]?) parts.toList ps z cs (All2.imp (fun p q h => by
     obtain ⟨⟨f,hf,ho,hs⟩,he⟩ := h
     refine ⟨?_,he⟩
     simp [hf,hs,ho]) hrel) hcs
    have hparts : (parts.map fun x => (x.1,a.eval x.2)).toList = parts.toList.map fun p => (p.1,a.eval p.2) := by simp
    simp only [execOp,Instr.build,Sem.run_bind,hzr,Result.andThen_ok,run_underlying hu,hpl,hzc]
    rw [show (Array.map (fun x => match x with | (i,x) => (i,a.eval x)) parts).toList = parts.toList.map fun p => (p.1,a.eval p.2) from by simp]
    rw [hfill]
    simp
   ·cases hok
  ·cases hj
 case makeFunc fn first caps =>
  cases fn <;> simp only [reduceCtorEq] at hj
  split at hj
  ·rename_i hf
   obtain ⟨d,hd,rfl⟩ := Option.map_eq_some_iff.1 hj
   obtain ⟨cs,hcs,hK⟩ := bd_elim hv
   refine ⟨_,hK,fun w _ => ?_,(d1 hd).1,(d1 hd).2⟩
   have hfe : first = #[] := by simpa using hf
   subst hfe
   have := ha.evals hcs
   have hc : caps.map a.eval = cs.toArray := by apply Array.ext'; simpa using this
   simp [execOp,Instr.makeFunc,hc]
  ·cases hj
 case nilCheck x =>
  obtain ⟨d,hd,rfl⟩ := Option.map_eq_some_iff.1 hj
  obtain ⟨v,hx,hv⟩ := bd_elim hv
  obtain ⟨u,hu,hK⟩ := bd_elim hv
  refine ⟨u,hK,fun w _ => ?_,(dst0_some hd).1,(dst0_some hd).2⟩
  unfold nchV at hu
  split at hu
  ·cases hu; simp [execOp,ha.eval hx]
  ·cases hu; simp [execOp,ha.eval hx]
  ·cases hu
 case convert s t x =>
  obtain ⟨d,hd,hj⟩ := Option.bind_eq_some_iff.1 hj
  split at hj
  ·rename_i k1 k hs hu
   cases hj
   obtain ⟨v,hx,hv⟩ := bd_elim hv
   obtain ⟨u,hu',hK⟩ := bd_elim hv
   refine ⟨u,hK,fun w _ => ?_,(d1 hd).1,(d1 hd).2⟩
   cases v <;> simp only [cvtV,reduceCtorEq,Option.some.injEq] at hu'
   subst hu'
   simp [execOp,ha.eval hx,convert,run_underlying hs,run_underlying hu,Conv.intToInt]
  ·cases hj; cases ht
  ·cases hj
 case binOp op t x y yt =>
  obtain ⟨d,hd,hj⟩ := Option.bind_eq_some_iff.1 hj
  have hmain : ∀ (v u : Value) (r : Value),evO σ x = some v → evO σ y = some u → (∀ w : World,(eqGuard op t x y v u).run P w = .ok () w) → (∀ w : World,(binOp op t v u).run P w = .ok r w) → ∀ w : World,
    (execOp a.eval ⟨dst,.binOp op t x y yt,type,pos,after,guard⟩).run P w = .ok (.value r) w := by
   intro v u r hx hy hg hb w
   simp [execOp,ha.eval hx,ha.eval hy,hg w,hb w]
  have hgi : ∀ (v u : Value),plainTwo v u → ∀ w : World,(eqGuard op t x y v u).run P w = .ok () w := fun v u h w => eqGuard_plain op t x y h w
  have heqb : ∀ (neg : Bool) (hop : op = if neg then .neq else .eql) (hu : P.underlying t = some .bool),j = .eqb d neg x y → ∃ v,K v ∧ (∀ w : World,heapOk m h w.heap → (execOp a.eval ⟨dst,.binOp op t x y yt,type,pos,after,guard⟩).run P w = .ok (.value v) w) ∧ dst = some d ∧ ∀ k,some d = some k → k < n := by
   rintro neg hop hu rfl
   obtain ⟨v,hx,g1⟩ := bd_elim hv
   obtain ⟨u,hy,g2⟩ := bd_elim g1
   obtain ⟨r,hr,hK⟩ := bd_elim g2
   refine ⟨r,hK,fun w _ => ?_,(d1 hd).1,(d1 hd).2⟩
   cases v <;> cases u <;> simp only [eqB,reduceCtorEq,Option.some.injEq] at hr
   refine hmain _ _ _ hx hy (hgi _ _ trivial) (fun w => ?_) w
   subst hr; subst hop
   exact bin_eq w neg rfl rfl (eqIn_bool w _ hu _ _)
  have heqn : ∀ (sl neg : Bool) (hop : op = if neg then .neq else .eql) (hu : if sl then (∃ e,P.underlying t = some (.slice e)) else (∃ e,P.underlying t = some (.pointer e))),j = .eqn d sl neg x y → ∃ v,K v ∧ (∀ w : World,heapOk m h w.heap → (execOp a.eval ⟨dst,.binOp op t x y yt,type,pos,after,guard⟩).run P w = .ok (.value v) w) ∧ dst = some d ∧ ∀ k,some d = some k → k < n := by
   rintro sl neg hop hu rfl
   obtain ⟨v,hx,g1⟩ := bd_elim hv
   obtain ⟨u,hy,g2⟩ := bd_elim g1
   obtain ⟨r,hr,hK⟩ := bd_elim g2
   refine ⟨r,hK,fun w _ => ?_,(d1 hd).1,(d1 hd).2⟩
   subst hop
   have hfin : ∀ b : Bool,plainTwo v u → (∀ w : World,(binOp (if neg then .neq else .eql) t v u).run P w = .ok (.bool b) w) → Value.bool b = r →
     (execOp a.eval ⟨dst,.binOp (if neg then .neq else .eql) t x y yt,type,pos,after,guard⟩).run P w = .ok (.value r) w := by
    rintro b h1 h2 rfl
    exact hmain _ _ _ hx hy (hgi _ _ h1) h2 w
   cases sl
   ·obtain ⟨e,hu⟩ := hu
    cases v <;> cases u <;> (try simp only [eqN,reduceCtorEq] at hr)
    rename_i p q
    cases p with
    | none =>
     simp only [eqN,Option.some.injEq] at hr
     exact hfin _ trivial (fun w => bin_eq w neg rfl rfl (eqIn_pn w _ hu _)) hr
    | some p =>
     cases q <;> simp only [eqN,reduceCtorEq,Option.some.injEq] at hr
     refine hfin _ trivial (fun w => bin_eq w neg rfl rfl (eqIn_np w _ hu _)) ?_
     rw [← hr]; cases neg <;> rfl
   ·obtain ⟨e,hu⟩ := hu
    cases v <;> cases u <;> (try simp only [eqN,reduceCtorEq] at hr)
    rename_i p n1 c1 q n2 c2
    cases p with
    | none =>
     simp only [eqN,Option.some.injEq] at hr
     exact hfin _ trivial (fun w => bin_eq w neg rfl rfl (eqIn_sn w _ hu _ _ _ _ _)) hr
    | some p =>
     cases q <;> simp only [eqN,reduceCtorEq,Option.some.injEq] at hr
     refine hfin _ trivial (fun w => bin_eq w neg rfl rfl (eqIn_ns w _ hu _ _ _ _ _)) ?_
     rw [← hr]; cases neg <;> rfl
  have heqa : ∀ (neg : Bool) (ks : List Kd) (hop : op = if neg then .neq else .eql) (hu : ∃ fs,P.underlying t = some (.struct fs)),P.eqGuardType P.depth t = false → flatT P 20 t = some ks → j = .eqa d neg ks x y → ∃ v,K v ∧ (∀ w : World,heapOk m h w.heap → (execOp a.eval ⟨dst,.binOp op t x y yt,type,pos,after,guard⟩).run P w = .ok (.value v) w) ∧ dst = some d ∧ ∀ k,some d = some k → k < n := by
   rintro neg ks hop ⟨fs,hu⟩ hgt hfl rfl
   obtain ⟨v,hx,g1⟩ := bd_elim hv
   obtain ⟨u,hy,g2⟩ := bd_elim g1
   obtain ⟨r,hr,hK⟩ := bd_elim g2
   refine ⟨r,hK,fun w _ => ?_,(d1 hd).1,(d1 hd).2⟩
   unfold eqA at hr
   split at hr
   ·rename_i xs ys
    obtain ⟨b,hb,rfl⟩ := Option.map_eq_some_iff.1 hr
    have he : ∀ w : World,(Op.equalIn 10000 t (.agg xs) (.agg ys)).run P w = .ok b w := by
     intro w
     have := equalIn_flat w 20 10000 (by decide) t ks xs.toList ys.toList b hfl hb
     simpa [mkV,hu] using this
    refine hmain _ _ _ hx hy (fun w => run_eqGuard_agg w op t x y xs ys hgt) (fun w => ?_) w
    cases neg <;> simp at hop <;> subst hop
    ·rw [run_eql_struct,he]; rfl
    ·rw [run_neq_struct,he]; rfl
   ·cases hr
  have hbin : j = .bin d op x y → ∃ v,K v ∧ (∀ w : World,heapOk m h w.heap → (execOp a.eval ⟨dst,.binOp op t x y yt,type,pos,after,guard⟩).run P w = .ok (.value v) w) ∧ dst = some d ∧ ∀ k,some d = some k → k < n := by
   rintro rfl
   obtain ⟨v,hx,g1⟩ := bd_elim hv
   obtain ⟨u,hy,g2⟩ := bd_elim g1
   obtain ⟨r,hr,hK⟩ := bd_elim g2
   refine ⟨r,hK,fun w _ => ?_,(d1 hd).1,(d1 hd).2⟩
   cases v <;> cases u <;> simp only [binV,reduceCtorEq] at hr
   ·split at hr
    ·cases hr
    ·rename_i hk
     have hk' := Classical.not_not.1 hk
     subst hk'
     refine hmain _ _ _ hx hy (hgi _ _ trivial) (fun w => ?_) w
     cases op <;> simp only [reduceCtorEq,Option.some.injEq] at hr <;> subst hr <;> simp [binOp,Op.intArith,Op.intCmp]
   ·refine hmain _ _ _ hx hy (hgi _ _ trivial) (fun w => ?_) w
    cases op <;> simp only [reduceCtorEq,Option.some.injEq] at hr <;> subst hr <;> simp [binOp,Op.stringOp]
  generalize hu : P.underlying t = U at hj
  split at hj
  ·cases hj; exact heqb false rfl hu rfl
  ·cases hj; exact heqb true rfl hu rfl
  ·cases hj; exact heqn false false rfl ⟨_,hu⟩ rfl
  ·cases hj; exact heqn true false rfl ⟨_,hu⟩ rfl
  ·cases hj; exact heqn false true rfl ⟨_,hu⟩ rfl
  ·cases hj; exact heqn true true rfl ⟨_,hu⟩ rfl
  ·split at hj
   ·rename_i hg; obtain ⟨ks,hks,rfl⟩ := Option.map_eq_some_iff.1 hj; exact heqa false ks rfl ⟨_,hu⟩ hg hks rfl
   ·cases hj
  ·split at hj
   ·rename_i hg; obtain ⟨ks,hks,rfl⟩ := Option.map_eq_some_iff.1 hj; exact heqa true ks rfl ⟨_,hu⟩ hg hks rfl
   ·cases hj
  ·cases hj; cases ht
  ·cases hj; cases ht
  ·cases hj; cases ht
  ·cases hj; cases ht
  ·cases hj; exact hbin rfl
  ·cases hj; exact hbin rfl
  ·cases hj
 case call c =>
  obtain ⟨callee,args,argTypes⟩ := c
  simp only at hj
  split at hj
  ·split at hj
   ·obtain ⟨d,_,rfl⟩ := Option.map_eq_some_iff.1 hj; cases ht
   ·obtain ⟨d,_,rfl⟩ := Option.map_eq_some_iff.1 hj; cases ht
  ·obtain ⟨d,_,rfl⟩ := Option.map_eq_some_iff.1 hj; cases ht
  ·-- len
   obtain ⟨d,hd,hj⟩ := Option.bind_eq_some_iff.1 hj
   generalize hU : (argTypes[0]?).bind P.underlying = U at hj
   generalize hA : args.toList = A at hj
   split at hj
   ·rename_i x
    cases hj
    obtain ⟨v,hv1,g1⟩ := bd_elim hv
    obtain ⟨r,hr,hK⟩ := bd_elim g1
    refine ⟨r,hK,fun w _ => ?_,(d1 hd).1,(d1 hd).2⟩
    have hargs : args = #[x] := by apply Array.ext'; simpa using hA
    subst hargs
    obtain ⟨t,hat,hu⟩ := Option.bind_eq_some_iff.1 hU
    simp only [execOp,resolve,invoke,builtin,Sem.run_bind,Sem.run_pure,Result.andThen_ok,List.map_toArray,List.map_cons,List.map_nil,ha.eval hv1]
    cases v <;> simp only [lenV,reduceCtorEq,Option.some.injEq] at hr
    subst hr
    simp [Builtin.len_,hat,run_underlying hu,goInt]
   ·rename_i e x
    cases hj
    obtain ⟨v,hv1,g1⟩ := bd_elim hv
    obtain ⟨r,hr,hK⟩ := bd_elim g1
    refine ⟨r,hK,fun w _ => ?_,(d1 hd).1,(d1 hd).2⟩
    have hargs : args = #[x] := by apply Array.ext'; simpa using hA
    subst hargs
    obtain ⟨t,hat,hu⟩ := Option.bind_eq_some_iff.1 hU
    simp only [execOp,resolve,invoke,builtin,Sem.run_bind,Sem.run_pure,Result.andThen_ok,List.map_toArray,List.map_cons,List.map_nil,ha.eval hv1]
    cases v <;> simp only [lenV,reduceCtorEq,Option.some.injEq] at hr
    subst hr
    simp [Builtin.len_,hat,run_underlying hu,goInt]
   ·cases hj
  ·-- cap
   obtain ⟨d,hd,hj⟩ := Option.bind_eq_some_iff.1 hj
   generalize hU : (argTypes[0]?).bind P.underlying = U at hj
   generalize hA : args.toList = A at hj
   split at hj
   ·rename_i e x
    cases hj
    obtain ⟨v,hv1,g1⟩ := bd_elim hv
    obtain ⟨r,hr,hK⟩ := bd_elim g1
    refine ⟨r,hK,fun w _ => ?_,(d1 hd).1,(d1 hd).2⟩
    have hargs : args = #[x] := by apply Array.ext'; simpa using hA
    subst hargs
    obtain ⟨t,hat,hu⟩ := Option.bind_eq_some_iff.1 hU
    simp only [execOp,resolve,invoke,builtin,Sem.run_bind,Sem.run_pure,Result.andThen_ok,List.map_toArray,List.map_cons,List.map_nil,ha.eval hv1]
    cases v <;> simp only [capV,reduceCtorEq,Option.some.injEq] at hr
    subst hr
    simp [Builtin.cap_,hat,run_underlying hu,goInt]
   ·cases hj
  ·-- max
   obtain ⟨d,hd,hj⟩ := Option.bind_eq_some_iff.1 hj
   generalize hA : args.toList = A at hj
   split at hj
   ·rename_i x y
    cases hj
    obtain ⟨v,hv1,g1⟩ := bd_elim hv
    obtain ⟨u,hv2,g2⟩ := bd_elim g1
    obtain ⟨r,hr,hK⟩ := bd_elim g2
    refine ⟨r,hK,fun w _ => ?_,(d1 hd).1,(d1 hd).2⟩
    have hargs : args = #[x,y] := by apply Array.ext'; simpa using hA
    subst hargs
    simp only [execOp,resolve,invoke,builtin,Sem.run_bind,Sem.run_pure,Result.andThen_ok,List.map_toArray,List.map_cons,List.map_nil,ha.eval hv1,ha.eval hv2]
    cases v <;> cases u <;> simp only [maxV,reduceCtorEq,Option.some.injEq] at hr
    subst hr
    simp [Builtin.max_,Builtin.max2]
   ·cases hj
  ·-- min
   obtain ⟨d,hd,hj⟩ := Option.bind_eq_some_iff.1 hj
   generalize hA : args.toList = A at hj
   split at hj
   ·rename_i x y
    cases hj
    obtain ⟨v,hv1,g1⟩ := bd_elim hv
    obtain ⟨u,hv2,g2⟩ := bd_elim g1
    obtain ⟨r,hr,hK⟩ := bd_elim g2
    refine ⟨r,hK,fun w _ => ?_,(d1 hd).1,(d1 hd).2⟩
    have hargs : args = #[x,y] := by apply Array.ext'; simpa using hA
    subst hargs
    simp only [execOp,resolve,invoke,builtin,Sem.run_bind,Sem.run_pure,Result.andThen_ok,List.map_toArray,List.map_cons,List.map_nil,ha.eval hv1,ha.eval hv2]
    cases v <;> cases u <;> simp only [maxV,reduceCtorEq,Option.some.injEq] at hr
    subst hr
    simp [Builtin.min_,Builtin.min2]
   ·cases hj
  all_goals first
   | (cases hj; done)
   | (obtain ⟨d,_,rfl⟩ := Option.map_eq_some_iff.1 hj; cases ht)
 case alloc t =>
  simp only [Option.bind_eq_some_iff,Option.map_eq_some_iff] at hj
  obtain ⟨d,_,z,_,rfl⟩ := hj; cases ht
 case box t x => obtain ⟨d,_,rfl⟩ := Option.map_eq_some_iff.1 hj; cases ht
 case buildSlice t len parts =>
  obtain ⟨d,_,hj⟩ := Option.bind_eq_some_iff.1 hj
  split at hj
  ·obtain ⟨z,_,hj⟩ := Option.bind_eq_some_iff.1 hj
   split at hj
   ·split at hj
    ·cases hj; cases ht
    ·cases hj
   split at hj
   ·cases hj
   ·obtain ⟨zc,_,hj⟩ := Option.bind_eq_some_iff.1 hj
    split at hj
    ·cases hj
    ·cases hj; cases ht
  ·cases hj
 all_goals (obtain ⟨d,_,rfl⟩ := Option.map_eq_some_iff.1 hj; cases ht)
end Go.AX
namespace Go.AX
open Go
theorem run_callFunc {P : Program} {f : FuncId} (hc : callable P f = true) (args : Array Value) (w : World) : (callFunc f args).run P w = .ok (.enter f args) w := by
 unfold callable at hc
 split at hc
 ·rename_i fn hf
  simp only [Bool.not_eq_true',Bool.or_eq_false_iff] at hc
  have hb : fn.body ≠ none := by
   intro e; rw [e] at hc; simp at hc
  have hn : fn.name ≠ "runtime.NumGoroutine" := by simpa using hc.2
  simp [callFunc,hf,hb,hn]
 ·cases hc
theorem eff_ok {P : Program} {n : Nat} {o : Oper} {j : J} (hj : cmpJ P n o = some j) (ht : j.take = false) {h : Heap} {σ : Env} {a : Act} (ha : Agr n σ a) {w : World} (hw : w.heap = h) {K : Value → Heap → Prop} (he : wE P h σ j K) :
  (∀ (next : Act → World → Prop) (Q : Exit → Act → World → Prop),(∀ v w',K v w'.heap → Same w w' → next (a.put o.dst v) w') → o.wp P a w next Q) ∧ o.dst = j.dst ∧ ∀ k,j.dst = some k → k < n := by
 subst hw
 have raw : ∀ (d : Option Nat),j = .raw d o → o.dst = d → (∀ k,d = some k → k < n) →
   (∀ (next : Act → World → Prop) (Q : Exit → Act → World → Prop),(∀ v w',K v w'.heap → Same w w' → next (a.put o.dst v) w') → o.wp P a w next Q) ∧ o.dst = j.dst ∧ ∀ k,j.dst = some k → k < n := by
  rintro d rfl hd hk
  refine ⟨fun next Q hn => ?_,hd,hk⟩
  obtain ⟨h1,h2,h3⟩ := he
  obtain ⟨r,v,w',hr,hrv,hs,hK⟩ := h3 w rfl
  have hcong : execOp a.eval o = execOp (fun x => (evO σ x).getD undef) o := execOp_congr o h2 fun x hx => by
   obtain ⟨u,hu⟩ := Option.isSome_iff_exists.1 (h1 x hx)
   rw [ha.eval hu,hu]; rfl
  unfold Oper.wp
  rw [hcong,hr]
  cases r <;> simp only [nextV,reduceCtorEq,Option.some.injEq] at hrv <;> subst hrv
  ·exact hn _ w' hK hs
  ·exact hn _ w' hK hs
 obtain ⟨dst,op,type,pos,after,guard⟩ := o
 have d1 : ∀ {d : Nat},dst1 n ⟨dst,op,type,pos,after,guard⟩ = some d → dst = some d ∧ ∀ k,some d = some k → k < n := fun hd => ⟨(dst1_some hd).1,fun k hk => by cases hk; exact (dst1_some hd).2⟩
 cases op <;> simp only [cmpJ,reduceCtorEq] at hj
 case move x => obtain ⟨d,hd,rfl⟩ := Option.map_eq_some_iff.1 hj; cases ht
 case assign x => obtain ⟨d,hd,rfl⟩ := Option.map_eq_some_iff.1 hj; cases ht
 case pick => obtain ⟨d,hd,rfl⟩ := Option.map_eq_some_iff.1 hj; cases ht
 case load =>
  simp only [Option.bind_eq_some_iff,Option.map_eq_some_iff] at hj
  obtain ⟨d,hd,s,hs,rfl⟩ := hj; cases ht
 case store t x v =>
  cases dst with
  | some d => cases hj
  | none =>
   obtain ⟨s,hs,rfl⟩ := Option.map_eq_some_iff.1 hj
   obtain ⟨p,hp,g1⟩ := bd_elim he
   obtain ⟨q,hq,g2⟩ := bd_elim g1
   obtain ⟨u,hu,hsz,hok,hK⟩ := bd_elim g2
   refine ⟨fun next Q hn => ?_,rfl,fun k hk => by cases hk⟩
   have hpp := asP_some hq
   have hr := run_storeCells_wr (P := P) u.cells.toList 0 q.1 q.2 w hok
   unfold Oper.wp
   have : (execOp a.eval ⟨none,.store t x v,type,pos,after,guard⟩).run P w = .ok .skip { w with heap := wr w.heap q.1 q.2 u.cells.toList } := by
    simp only [execOp,Instr.storeAt,Sem.run_bind,ha.eval hp,ha.eval hu,hpp,Instr.sureAddr,storeVar,run_sizeOf' hs,Result.andThen_ok,Sem.run_pure,Sem.run_ite,hsz,ne_eq,not_true_eq_false,if_false,Bool.false_eq_true]
    rw [hr]; rfl
   rw [this]
   exact hn undef _ hK ⟨rfl,rfl,rfl⟩
 case fieldAddr s x f =>
  obtain ⟨d,hd,hj⟩ := Option.bind_eq_some_iff.1 hj
  split at hj
  ·simp only [Option.bind_eq_some_iff] at hj
   obtain ⟨fl,hfl,z,hz,hj⟩ := hj
   split at hj
   ·cases hj
   ·cases hj; cases ht
  ·cases hj
 case indexAddr t x i =>
  obtain ⟨d,hd,hj⟩ := Option.bind_eq_some_iff.1 hj
  split at hj
  ·obtain ⟨z,hz,rfl⟩ := Option.map_eq_some_iff.1 hj; cases ht
  ·cases hj
 case slice t x lo hi mx =>
  obtain ⟨d,hd,hj⟩ := Option.bind_eq_some_iff.1 hj
  split at hj
  ·split at hj
   ·cases hj
   ·obtain ⟨z,hz,rfl⟩ := Option.map_eq_some_iff.1 hj; cases ht
  ·cases hj
 case extract => obtain ⟨d,hd,rfl⟩ := Option.map_eq_some_iff.1 hj; cases ht
 case unOp => obtain ⟨d,hd,rfl⟩ := Option.map_eq_some_iff.1 hj; cases ht
 case build t parts =>
  obtain ⟨d,hd,hj⟩ := Option.bind_eq_some_iff.1 hj
  split at hj
  ·simp only [Option.bind_eq_some_iff,Option.map_eq_some_iff] at hj
   obtain ⟨z,hz,ps,hps,rfl⟩ := hj; cases ht
  ·cases hj
 case makeFunc fn first caps =>
  cases fn <;> simp only [reduceCtorEq] at hj
  split at hj
  ·obtain ⟨d,hd,rfl⟩ := Option.map_eq_some_iff.1 hj; cases ht
  ·cases hj
 case nilCheck => obtain ⟨d,hd,rfl⟩ := Option.map_eq_some_iff.1 hj; cases ht
 case convert s t x =>
  obtain ⟨d,hd,hj⟩ := Option.bind_eq_some_iff.1 hj
  split at hj
  ·cases hj; cases ht
  ·cases hj; exact raw _ rfl (d1 hd).1 (d1 hd).2
  ·cases hj
 case binOp op t x y yt =>
  obtain ⟨d,hd,hj⟩ := Option.bind_eq_some_iff.1 hj
  generalize hu : P.underlying t = U at hj
  split at hj
  ·cases hj; cases ht
  ·cases hj; cases ht
  ·cases hj; cases ht
  ·cases hj; cases ht
  ·cases hj; cases ht
  ·cases hj; cases ht
  ·split at hj
   ·obtain ⟨ks,hks,rfl⟩ := Option.map_eq_some_iff.1 hj; cases ht
   ·cases hj
  ·split at hj
   ·obtain ⟨ks,hks,rfl⟩ := Option.map_eq_some_iff.1 hj; cases ht
   ·cases hj
  ·cases hj; exact raw _ rfl (d1 hd).1 (d1 hd).2
  ·cases hj; exact raw _ rfl (d1 hd).1 (d1 hd).2
  ·cases hj; exact raw _ rfl (d1 hd).1 (d1 hd).2
  ·cases hj; exact raw _ rfl (d1 hd).1 (d1 hd).2
  ·cases hj; cases ht
  ·cases hj; cases ht
  ·cases hj
 case alloc t =>
  simp only [Option.bind_eq_some_iff,Option.map_eq_some_iff] at hj
  obtain ⟨d,hd,z,hz,rfl⟩ := hj
  refine ⟨fun next Q hn => ?_,(d1 hd).1,(d1 hd).2⟩
  obtain ⟨zv,hzr,hzc⟩ := run_zeroValue' hz w
  unfold Oper.wp
  have : (execOp a.eval ⟨dst,.alloc t,type,pos,after,guard⟩).run P w = .ok (.value (ptr w.heap.size 0)) { w with heap := w.heap.push (.cells z.toArray t) } := by
   simp [execOp,Instr.alloc,hzr,hzc,newVar,newRow]
  rw [this]
  exact hn _ _ he ⟨rfl,rfl,rfl⟩
 case box t x =>
  obtain ⟨d,hd,rfl⟩ := Option.map_eq_some_iff.1 hj
  obtain ⟨v,hx,hK⟩ := bd_elim he
  refine ⟨fun next Q hn => ?_,(d1 hd).1,(d1 hd).2⟩
  unfold Oper.wp
  have : (execOp a.eval ⟨dst,.box t x,type,pos,after,guard⟩).run P w = .ok (.value (ptr w.heap.size 0)) { w with heap := w.heap.push (.cells v.cells t) } := by
   simp [execOp,Instr.box,ha.eval hx,newVar,newRow]
  rw [this]
  exact hn _ _ hK ⟨rfl,rfl,rfl⟩
 case buildSlice t len parts =>
  obtain ⟨d,hd,hj⟩ := Option.bind_eq_some_iff.1 hj
  split at hj
  ·rename_i e hu
   obtain ⟨z,hz,hj⟩ := Option.bind_eq_some_iff.1 hj
   split at hj
   ·rename_i hl0
    split at hj
    ·rename_i hp0
     cases hj
     have hK : K (sl w.heap.size 0 0 0) (w.heap.push (.cells #[] e)) := he
     refine ⟨fun next Q hn => ?_,(d1 hd).1,(d1 hd).2⟩
     subst hl0
     have hpe : parts = #[] := by simpa using hp0
     subst hpe
     unfold Oper.wp
     have : (execOp a.eval ⟨dst,.buildSlice t 0 #[],type,pos,after,guard⟩).run P w = .ok (.value (sl w.heap.size 0 0 0)) { w with heap := w.heap.push (.cells #[] e) } := by
      have hr0 : Array.range 0 = #[] := by apply Array.ext'; simp
      simp [execOp,Instr.buildSlice,run_underlying hu,run_sizeOf' hz,Instr.fill,newRow,hr0]
     rw [this]
     exact hn _ _ hK ⟨rfl,rfl,rfl⟩
    ·cases hj
   rename_i hl0
   split at hj
   ·cases hj
   ·rename_i hno
    obtain ⟨zc,hzc,hj⟩ := Option.bind_eq_some_iff.1 hj
    split at hj
    ·cases hj
    rename_i hzl
    cases hj
    obtain ⟨cs,hcs,hK⟩ := bd_elim he
    refine ⟨fun next Q hn => ?_,(d1 hd).1,(d1 hd).2⟩
    have hbig : ¬ len * z > 2 ^ 24 := fun h => hno (.inl h)
    have hz0 : z ≠ 0 := fun h => hno (.inr h)
    obtain ⟨zv,hzr,hzcells⟩ := run_zeroValue' hzc w
    have hlz : ¬ len * z = 0 := by
     intro h; rcases Nat.mul_eq_zero.1 h with h | h <;> contradiction
    have hrel : ∀ (ps : List (Nat × Operand)),All2 (fun (p : Nat × Operand) (q : Nat × Nat × Operand) => (fun i => some (i * z,z)) p.1 = some (q.1,q.2.1) ∧ p.2 = q.2.2) ps (partsSl z ps) := by
     intro ps
     induction ps with
     | nil => exact .nil
     | cons p ps ih => obtain ⟨i,x⟩ := p; exact .cons ⟨rfl,rfl⟩ ih
    have hfill := fill_eq ha (fun i => some (i * z,z)) parts.toList (partsSl z parts.toList) _ cs (hrel _) hcs
    have hzeros : ((Array.range (len * z)).map (fun x => zc.toArray[x % zc.toArray.size]!)) = ((List.range (len * z)).map fun i => zc.getD (i % zc.length) undef).toArray := by
     apply Array.ext'
     simp only [Array.toList_map,Array.toList_range]
     apply List.map_congr_left
     intro i _
     have hlt : i % zc.length < zc.length := Nat.mod_lt _ (by omega)
     simp [hlt]
    unfold Oper.wp
    have : (execOp a.eval ⟨dst,.buildSlice t len parts,type,pos,after,guard⟩).run P w = .ok (.value (sl w.heap.size 0 len len)) { w with heap := w.heap.push (.cells cs.toArray e) } := by
     simp only [execOp,Instr.buildSlice,Sem.run_bind,run_underlying hu,Result.andThen_ok,run_sizeOf' hz,Sem.run_ite,if_neg hbig,if_neg hlz,hzr,Sem.run_pure,hzcells,hzeros]
     rw [show (Array.map (fun x => match x with | (i,x) => (i,a.eval x)) parts).toList = parts.toList.map fun p => (p.1,a.eval p.2) from by simp]
     rw [hfill]
     simp [newRow]
    rw [this]
    exact hn _ _ hK ⟨rfl,rfl,rfl⟩
  ·cases hj
 case call c =>
  obtain ⟨callee,args,argTypes⟩ := c
  simp only at hj
  split at hj
  ·rename_i f
   split at hj
   ·rename_i hc
    obtain ⟨d,hd,rfl⟩ := Option.map_eq_some_iff.1 hj
    obtain ⟨vs,hvs,hK⟩ := bd_elim he
    refine ⟨fun next Q hn => ?_,(dst0_some hd).1,(dst0_some hd).2⟩
    unfold Oper.wp
    have hargs : args.map a.eval = vs.toArray := by apply Array.ext'; simpa using ha.evals hvs
    have : (execOp a.eval ⟨dst,.call ⟨.value (.func f),args,argTypes⟩,type,pos,after,guard⟩).run P w = .ok (.enter f vs.toArray) w := by
     simp [execOp,resolve,Act.eval,Deferred.ofValue,invoke,hargs,run_callFunc hc]
    rw [this,Oper.upon_enter]
    refine (hK w rfl).mono ?_
    rintro e w' ⟨v,rfl,hR,hs⟩
    exact hn v w' hR hs
   ·obtain ⟨d,hd,rfl⟩ := Option.map_eq_some_iff.1 hj
    exact raw _ rfl (dst0_some hd).1 (dst0_some hd).2
  ·rename_i x hx
   obtain ⟨d,hd,rfl⟩ := Option.map_eq_some_iff.1 hj
   obtain ⟨v,hv,g1⟩ := bd_elim he
   obtain ⟨vs,hvs,g2⟩ := bd_elim g1
   split at g2
   ·rename_i f first caps
    obtain ⟨hc,hK⟩ := g2
    refine ⟨fun next Q hn => ?_,(dst0_some hd).1,(dst0_some hd).2⟩
    unfold Oper.wp
    have hargs : args.map a.eval = vs.toArray := by apply Array.ext'; simpa using ha.evals hvs
    have : (execOp a.eval ⟨dst,.call ⟨.value x,args,argTypes⟩,type,pos,after,guard⟩).run P w = .ok (.enter f (first.toList ++ vs ++ caps.toList).toArray) w := by
     simp only [execOp,resolve,ha.eval hv,Deferred.ofValue,invoke,Sem.run_bind,Sem.run_pure,Result.andThen_ok,hargs,run_callFunc hc]
     congr 2
     apply Array.ext'
     simp
    rw [this,Oper.upon_enter]
    refine (hK w rfl).mono ?_
    rintro e w' ⟨v,rfl,hR,hs⟩
    exact hn v w' hR hs
   ·exact g2.elim
  ·obtain ⟨d,hd,hj⟩ := Option.bind_eq_some_iff.1 hj
   split at hj <;> first | (cases hj; cases ht) | cases hj
  ·obtain ⟨d,hd,hj⟩ := Option.bind_eq_some_iff.1 hj
   split at hj <;> first | (cases hj; cases ht) | cases hj
  ·obtain ⟨d,hd,hj⟩ := Option.bind_eq_some_iff.1 hj
   split at hj <;> first | (cases hj; cases ht) | cases hj
  ·obtain ⟨d,hd,hj⟩ := Option.bind_eq_some_iff.1 hj
   split at hj <;> first | (cases hj; cases ht) | cases hj
  all_goals first
   | (cases hj; done)
   | (obtain ⟨d,hd,rfl⟩ := Option.map_eq_some_iff.1 hj; exact raw _ rfl (dst0_some hd).1 (dst0_some hd).2)
 all_goals (obtain ⟨d,hd,rfl⟩ := Option.map_eq_some_iff.1 hj; exact raw _ rfl (dst0_some hd).1 (dst0_some hd).2)
end Go.AX
namespace Go.AX
open Go
/-- What is asked of an order in which a region that draws is gone through; fuel: how many operations may still come. -/
def ordOk (P : Program) (n : Nat) (ops : Array Oper) (fin : Nat → Array Bool → Bool) : Nat → Array Bool → List (Nat × Bool) → Bool
 | fuel,listed,[] => fin fuel listed
 | 0,_,_ :: _ => false
 | fuel + 1,listed,(i,now) :: r => (match (ops[i]?).bind (cmpJ P n) with
  | some j => if j.take && !now then Region.free .any ops listed i && (Region.ready .any ops listed).contains i else decide (Region.ready .any ops listed = [i])
  | none => false) && ordOk P n ops fin fuel (listed.setIfInBounds i true) r
def allIn (ops : Array Oper) (_ : Nat) (listed : Array Bool) : Bool := (Region.ready .any ops listed).isEmpty
def drwOk (P : Program) (n : Nat) (ops : Array Oper) (ord : List (Nat × Bool)) : Bool :=
 P.follows .mixedOrders && Region.noSelect ops && ordOk P n ops (allIn ops) ops.size (Array.replicate ops.size false) ord
/-- The plan of a region with several orders. -/
inductive PL where
 | nil
 | one (st : List St) (r : PL)
 | alt (a b : PL)
def heads : PL → List Nat
 | .one (.o i :: _) _ => [i]
 | .one (.x i :: _) _ => [i]
 | .alt a b => heads a ++ heads b
 | _ => []
def cmpT (P : Program) (n : Nat) (ops : Array Oper) : PL → Option L
 | .nil => some .nil
 | .one st r => (cmpL P n ops st).bind fun is => (cmpT P n ops r).map (.one is ·)
 | .alt a b => (cmpT P n ops a).bind fun x => (cmpT P n ops b).map (.alt x ·)
mutual
def treeOk (P : Program) (n : Nat) (ops : Array Oper) : PL → Nat → Array Bool → Bool
 | .nil,fuel,listed => allIn ops fuel listed
 | .one st r,fuel,listed => ordOk P n ops (treeOk P n ops r) fuel listed (ordX st)
 | .alt a b,fuel,listed => !(Region.ready .any ops listed).isEmpty && ((Region.ready .any ops listed).all fun i => (heads a ++ heads b).contains i) && altOk P n ops a fuel listed && altOk P n ops b fuel listed
def altOk (P : Program) (n : Nat) (ops : Array Oper) : PL → Nat → Array Bool → Bool
 | .one (.o i :: st) r,fuel + 1,listed => ((ops[i]?).map fun o => o.guard.isNone).getD false && ordOk P n ops (treeOk P n ops r) fuel (listed.setIfInBounds i true) (ordX st)
 | .one (.x i :: st) r,fuel + 1,listed => ((ops[i]?).map fun o => o.guard.isNone).getD false && ordOk P n ops (treeOk P n ops r) fuel (listed.setIfInBounds i true) (ordX st)
 | .alt a b,fuel,listed => altOk P n ops a fuel listed && altOk P n ops b fuel listed
 | _,_,_ => false
end
def drtOk (P : Program) (n : Nat) (ops : Array Oper) (t : PL) : Bool :=
 P.follows .mixedOrders && Region.noSelect ops && treeOk P n ops t ops.size (Array.replicate ops.size false)
/-- The plan of a region. -/
inductive RP where
 | l (st : List St)
 | t (p : PL)
def cmpC (P : Program) (n : Nat) : Code → List RP → Option (C × List RP)
 | .skip,pl => some (.skip,pl)
 | .region _ ops draw,.t p :: pl => if draw && drtOk P n ops p then (cmpT P n ops p).map fun t => (.drt t,pl) else none
 | .region _ ops draw,.l st :: pl =>
  if draw then (if drwOk P n ops (ordX st) then (cmpL P n ops st).map fun is => (.drw is,pl) else none)
  else if ordOf st = List.range ops.size then (cmpL P n ops st).map fun is => (.reg is,pl) else none
 | .seq a b,pl => (cmpC P n a pl).bind fun x => (cmpC P n b x.2).map fun y => (sq x.1 y.1,y.2)
 | .cond x a b,pl => (cmpC P n a pl).bind fun u => (cmpC P n b u.2).map fun y => (.cond x u.1 y.1,y.2)
 | .block id a,pl => (cmpC P n a pl).map fun x => (.block id x.1,x.2)
 | .loop a,pl => (cmpC P n a pl).map fun x => (.loop x.1,x.2)
 | .exit id,pl => some (.exit id,pl)
 | .ret,pl => some (.ret,pl)
 | _,_ => none
def cmpRs (P : Program) : List ResultVar → Option (List Rs)
 | [] => some []
 | .tmp t :: r => (cmpRs P r).map (.tmp t :: ·)
 | .cell a t :: r => match aggSz P t with
  | some (some n) => (cmpRs P r).map (.cell a n :: ·)
  | _ => none
theorem wanted_yes {ops : Array Oper} {o : Oper} {g c : Nat} {w : Bool} {n : Nat} {σ : Env} {a : Act} (ha : Agr n σ a) (hg : o.guard = some (g,w)) (hc : (ops[g]?).bind (·.dst) = some c) (hl : look σ c = some (.bool w)) :
  Region.wanted o (yielded ops a.tmps) = true := by
 have := ha.at_ c _ hl
 simp [Region.wanted,hg,yielded,hc,this]
theorem wanted_no {ops : Array Oper} {o : Oper} {g c : Nat} {w : Bool} {n : Nat} {σ : Env} {a : Act} (ha : Agr n σ a) (hg : o.guard = some (g,w)) (hc : (ops[g]?).bind (·.dst) = some c) {v : Value} (hl : look σ c = some v) (hn : notB v w = true) :
  Region.wanted o (yielded ops a.tmps) = false := by
 have := ha.at_ c _ hl
 cases v <;> simp [Region.wanted,hg,yielded,hc,this]
 simpa [notB] using hn
theorem wanted_none {ops : Array Oper} {o : Oper} (hg : o.guard = none) (tmps : Array Value) : Region.wanted o (yielded ops tmps) = true := by simp [Region.wanted,hg]
theorem cmpO_some {P : Program} {n : Nat} {ops : Array Oper} {i : Nat} {x : I} (h : cmpO P n ops i = some x) :
  ∃ o j,ops[i]? = some o ∧ cmpJ P n o = some j ∧ ((o.guard = none ∧ x = .op j) ∨ ∃ g w c,o.guard = some (g,w) ∧ (ops[g]?).bind (·.dst) = some c ∧ x = .g c w j) := by
 unfold cmpO at h
 simp only [Option.bind_eq_some_iff] at h
 obtain ⟨o,ho,j,hj,h⟩ := h
 refine ⟨o,j,ho,hj,?_⟩
 split at h
 ·cases h; exact .inl ⟨by assumption,rfl⟩
 ·rename_i g w hg
  obtain ⟨c,hc,rfl⟩ := Option.map_eq_some_iff.1 h
  exact .inr ⟨g,w,c,hg,hc,rfl⟩
section
variable {P : Program} {n : Nat} {ops : Array Oper} {Q : Exit → Act → World → Prop} {C : Env → Heap → Prop} {w0 : World}
theorem wJ_sound {o : Oper} {j : J} (hj : cmpJ P n o = some j) {σ : Env} {a : Act} {w : World} (ha : Agr n σ a) (hw0 : Same w0 w) {K : Env → Heap → Prop} {next : Act → World → Prop}
  (hJ : wJ P none j K σ w.heap) (hn : ∀ σ' a' w',Agr n σ' a' → Same w0 w' → K σ' w'.heap → next a' w') : o.wp P a w next Q := by
 unfold wJ at hJ
 cases ht : j.take with
 | true =>
  rw [ht,if_pos rfl] at hJ
  obtain ⟨v,hK,hr,hd,hk⟩ := take_ok hj ht (m := none) ha hJ
  unfold Oper.wp
  rw [hr w rfl]
  exact hn _ _ _ (hd ▸ ha.put hk v) hw0 hK
 | false =>
  rw [ht,if_neg (by simp)] at hJ
  obtain ⟨h1,hd,hk⟩ := eff_ok hj ht ha rfl hJ
  refine h1 next Q fun v w' hK hs => hn _ _ _ (hd ▸ ha.put hk v) (hw0.trans hs) hK.2
theorem skip_agr {o : Oper} {j : J} (hj : cmpJ P n o = some j) {σ : Env} {a : Act} (ha : Agr n σ a) (hd : o.dst = j.dst ∧ ∀ k,j.dst = some k → k < n) : Agr n (putE σ j.dst undef) (a.put o.dst undef) :=
 hd.1 ▸ ha.put hd.2 undef
theorem cmpJ_dst {o : Oper} {j : J} (hj : cmpJ P n o = some j) : o.dst = j.dst ∧ ∀ k,j.dst = some k → k < n := by
 obtain ⟨dst,op,type,pos,after,guard⟩ := o
 have d1 : ∀ {d : Nat},dst1 n ⟨dst,op,type,pos,after,guard⟩ = some d → dst = some d ∧ ∀ k,some d = some k → k < n := fun hd => ⟨(dst1_some hd).1,fun k hk => by cases hk; exact (dst1_some hd).2⟩
 cases op <;> simp only [cmpJ,reduceCtorEq] at hj
 case call c =>
  obtain ⟨callee,args,argTypes⟩ := c
  simp only at hj
  split at hj
  ·split at hj <;> (obtain ⟨d,hd,rfl⟩ := Option.map_eq_some_iff.1 hj; exact dst0_some hd)
  ·obtain ⟨d,hd,rfl⟩ := Option.map_eq_some_iff.1 hj; exact dst0_some hd
  ·obtain ⟨d,hd,hj⟩ := Option.bind_eq_some_iff.1 hj
   split at hj <;> first | (cases hj; exact d1 hd) | cases hj
  ·obtain ⟨d,hd,hj⟩ := Option.bind_eq_some_iff.1 hj
   split at hj <;> first | (cases hj; exact d1 hd) | cases hj
  ·obtain ⟨d,hd,hj⟩ := Option.bind_eq_some_iff.1 hj
   split at hj <;> first | (cases hj; exact d1 hd) | cases hj
  ·obtain ⟨d,hd,hj⟩ := Option.bind_eq_some_iff.1 hj
   split at hj <;> first | (cases hj; exact d1 hd) | cases hj
  all_goals first
   | (cases hj; done)
   | (obtain ⟨d,hd,rfl⟩ := Option.map_eq_some_iff.1 hj; exact dst0_some hd)
 case store t x v =>
  cases dst with
  | some d => cases hj
  | none => obtain ⟨s,hs,rfl⟩ := Option.map_eq_some_iff.1 hj; exact ⟨rfl,fun k hk => by cases hk⟩
 case makeFunc fn first caps =>
  cases fn <;> simp only [reduceCtorEq] at hj
  split at hj
  ·obtain ⟨d,hd,rfl⟩ := Option.map_eq_some_iff.1 hj; exact d1 hd
  ·cases hj
 case binOp op t x y yt =>
  obtain ⟨d,hd,hj⟩ := Option.bind_eq_some_iff.1 hj
  generalize hu : P.underlying t = U at hj
  split at hj <;> first
   | (cases hj; exact d1 hd)
   | (split at hj
      · obtain ⟨ks, hks, rfl⟩ := Option.map_eq_some_iff.1 hj; exact d1 hd
      · cases hj)
   | cases hj
 case move => obtain ⟨d,hd,rfl⟩ := Option.map_eq_some_iff.1 hj; exact d1 hd
 case assign => obtain ⟨d,hd,rfl⟩ := Option.map_eq_some_iff.1 hj; exact d1 hd
 case pick => obtain ⟨d,hd,rfl⟩ := Option.map_eq_some_iff.1 hj; exact d1 hd
 case extract => obtain ⟨d,hd,rfl⟩ := Option.map_eq_some_iff.1 hj; exact d1 hd
 case unOp => obtain ⟨d,hd,rfl⟩ := Option.map_eq_some_iff.1 hj; exact d1 hd
 case box => obtain ⟨d,hd,rfl⟩ := Option.map_eq_some_iff.1 hj; exact d1 hd
 case nilCheck => obtain ⟨d,hd,rfl⟩ := Option.map_eq_some_iff.1 hj; exact dst0_some hd
 case makeMap => obtain ⟨d,hd,rfl⟩ := Option.map_eq_some_iff.1 hj; exact dst0_some hd
 case lookup => obtain ⟨d,hd,rfl⟩ := Option.map_eq_some_iff.1 hj; exact dst0_some hd
 case entryStore => obtain ⟨d,hd,rfl⟩ := Option.map_eq_some_iff.1 hj; exact dst0_some hd
 case mapEntry => obtain ⟨d,hd,rfl⟩ := Option.map_eq_some_iff.1 hj; exact dst0_some hd
 case makeSlice => obtain ⟨d,hd,rfl⟩ := Option.map_eq_some_iff.1 hj; exact dst0_some hd
 case load =>
  simp only [Option.bind_eq_some_iff,Option.map_eq_some_iff] at hj
  obtain ⟨d,hd,s,hs,rfl⟩ := hj; exact d1 hd
 case alloc =>
  simp only [Option.bind_eq_some_iff,Option.map_eq_some_iff] at hj
  obtain ⟨d,hd,s,hs,rfl⟩ := hj; exact d1 hd
 case fieldAddr =>
  obtain ⟨d,hd,hj⟩ := Option.bind_eq_some_iff.1 hj
  split at hj
  ·simp only [Option.bind_eq_some_iff] at hj
   obtain ⟨fl,hfl,z,hz,hj⟩ := hj
   split at hj
   ·cases hj
   ·cases hj; exact d1 hd
  ·cases hj
 case indexAddr =>
  obtain ⟨d,hd,hj⟩ := Option.bind_eq_some_iff.1 hj
  split at hj
  ·obtain ⟨z,hz,rfl⟩ := Option.map_eq_some_iff.1 hj; exact d1 hd
  ·cases hj
 case slice =>
  obtain ⟨d,hd,hj⟩ := Option.bind_eq_some_iff.1 hj
  split at hj
  ·split at hj
   ·cases hj
   ·obtain ⟨z,hz,rfl⟩ := Option.map_eq_some_iff.1 hj; exact d1 hd
  ·cases hj
 case build =>
  obtain ⟨d,hd,hj⟩ := Option.bind_eq_some_iff.1 hj
  split at hj
  ·simp only [Option.bind_eq_some_iff,Option.map_eq_some_iff] at hj
   obtain ⟨z,hz,ps,hps,rfl⟩ := hj; exact d1 hd
  ·cases hj
 case convert =>
  obtain ⟨d,hd,hj⟩ := Option.bind_eq_some_iff.1 hj
  split at hj
  ·cases hj; exact d1 hd
  ·cases hj; exact d1 hd
  ·cases hj
 case buildSlice =>
  obtain ⟨d,hd,hj⟩ := Option.bind_eq_some_iff.1 hj
  split at hj
  ·obtain ⟨z,_,hj⟩ := Option.bind_eq_some_iff.1 hj
   split at hj
   ·split at hj
    ·cases hj; exact d1 hd
    ·cases hj
   split at hj
   ·cases hj
   ·obtain ⟨zc,_,hj⟩ := Option.bind_eq_some_iff.1 hj
    split at hj
    ·cases hj
    ·cases hj; exact d1 hd
  ·cases hj
theorem wL_sound (hC : ∀ σ a w,Agr n σ a → Same w0 w → C σ w.heap → Q .normal a w) : ∀ (st : List St) (is : List I) (k : Nat) (σ : Env) (a : Act) (w : World),
  cmpL P n ops st = some is → Agr n σ a → Same w0 w → wL P none is k C σ w.heap → wpOps P ops Q (ordOf st) a w
 | [],is,k, σ,a,w,hc,ha,hs,h => by
  cases hc
  have : C σ w.heap := by cases k <;> exact h
  exact hC _ _ _ ha hs this
 | .kp l :: r,is,k, σ,a,w,hc,ha,hs,h => by
  obtain ⟨is',hc',rfl⟩ := Option.map_eq_some_iff.1 hc
  cases k with
  | zero => exact wL_sound hC r is' 0 _ a w hc' (ha.keep l) hs h
  | succ k => exact wL_sound hC r is' k _ a w hc' ha hs h
 | .sc c b m :: r,is,k, σ,a,w,hc,ha,hs,h => by
  obtain ⟨is',hc',rfl⟩ := Option.map_eq_some_iff.1 hc
  cases k with
  | zero =>
   obtain ⟨v,hv,g1⟩ := bd_elim h
   obtain ⟨t,ht,g2⟩ := bd_elim g1
   have hvb := asB_some ht
   subst hvb
   cases htb : (t == b) with
   | true =>
    have e : t = b := by simpa using htb
    subst e
    rw [htb,br_true] at g2
    exact wL_sound hC r is' 0 _ a w hc' (ha.same hv) hs g2
   | false =>
    have e : t = !b := by cases t <;> cases b <;> simp_all
    subst e
    rw [htb,br_false] at g2
    exact wL_sound hC r is' m _ a w hc' (ha.same hv) hs g2
  | succ k => exact wL_sound hC r is' k _ a w hc' ha hs h
 | .x i :: r,is,k, σ,a,w,hc,ha,hs,h => by
  simp only [cmpL,Option.bind_eq_some_iff,Option.map_eq_some_iff] at hc
  obtain ⟨x,hx,is',hc',rfl⟩ := hc
  obtain ⟨o,j,ho,hj,hg,ht,rfl⟩ := cmpX_some hx
  simp only [ordOf,wpOps,ho]
  cases k with
  | zero =>
   rw [if_pos (wanted_none hg _)]
   have h' : wJ P none j (fun σ h => wL P none is' 0 C σ h) σ w.heap := by
    unfold wJ; rw [if_pos ht]; exact h
   exact .inl (wJ_sound hj ha hs h' fun σ' a' w' h1 h2 h3 => wL_sound hC r is' 0 σ' a' w' hc' h1 h2 h3)
  | succ k => exact h.elim
 | .o i :: r,is,k, σ,a,w,hc,ha,hs,h => by
  simp only [cmpL,Option.bind_eq_some_iff,Option.map_eq_some_iff] at hc
  obtain ⟨x,hx,is',hc',rfl⟩ := hc
  obtain ⟨o,j,ho,hj,hcase⟩ := cmpO_some hx
  simp only [ordOf,wpOps,ho]
  rcases hcase with ⟨hg,rfl⟩ | ⟨g,b,c,hg,hgc,rfl⟩
  ·cases k with
   | zero =>
    rw [if_pos (wanted_none hg _)]
    exact .inl (wJ_sound hj ha hs h fun σ' a' w' h1 h2 h3 => wL_sound hC r is' 0 σ' a' w' hc' h1 h2 h3)
   | succ k => exact h.elim
  ·cases k with
   | zero =>
    obtain ⟨hl,h⟩ := h
    rw [if_pos (wanted_yes ha hg hgc hl)]
    exact .inl (wJ_sound hj ha hs h fun σ' a' w' h1 h2 h3 => wL_sound hC r is' 0 σ' a' w' hc' h1 h2 h3)
   | succ k =>
    obtain ⟨v,hv,hn,g1⟩ := bd_elim h
    rw [if_neg (by rw [wanted_no ha hg hgc hv hn]; simp)]
    exact wL_sound hC r is' k _ _ w hc' (skip_agr hj ha (cmpJ_dst hj)) hs g1
/-- One operation of a region that draws: what it does, whether it is wanted or not. -/
theorem drw_step {p : Nat → Prop} {h0 : Heap} (hno : Region.noSelect ops = true) (hQp : ∀ c a w, ¬ Q (.panic c) a w) {i : Nat} {o : Oper} {j : J} (hoi : ops[i]? = some o) (hj : cmpJ P n o = some j)
  {σ : Env} {a : Act} {w : World} {fuel : Nat} {listed : Array Bool} (ha : Agr n σ a) (hs : Same w0 w) (hS : ∀ b,p b → w.heap[b]? = h0[b]?) {K : Env → Heap → Prop}
  (hK : ∀ σ' a' w',Agr n σ' a' → Same w0 w' → (∀ b,p b → w'.heap[b]? = h0[b]?) → K σ' w'.heap → wpAnyH P .any ops Q (fun w => ∀ b,p b → w.heap[b]? = h0[b]?) fuel (listed.setIfInBounds i true) a' w')
  (hcase : (Region.wanted o (yielded ops a.tmps) = true ∧ wJ P (some ⟨p,h0⟩) j K σ w.heap) ∨ (Region.wanted o (yielded ops a.tmps) = false ∧ K (putE σ j.dst undef) w.heap)) :
  wpOp P ops Q i (fun a' w' => (∀ b,p b → w'.heap[b]? = h0[b]?) ∧ wpAnyH P .any ops Q (fun w => ∀ b,p b → w.heap[b]? = h0[b]?) fuel (listed.setIfInBounds i true) a' w') a w ∧
  (j.take = true → Region.free .any ops listed i = true → (Region.ready .any ops listed).contains i = true → wpAnyH P .any ops Q (fun w => ∀ b,p b → w.heap[b]? = h0[b]?) (fuel + 1) listed a w) := by
 have hd := cmpJ_dst hj
 have hQ : ∀ (v : Value) c a w,Q (.panic c) (a.put o.dst v) w → Q (.panic c) a w := fun v c a w h => absurd h (hQp c _ w)
 cases ht : j.take with
 | true =>
  rcases hcase with ⟨hw,hJ⟩ | ⟨hw,hJ⟩
  ·unfold wJ at hJ
   rw [ht,if_pos rfl] at hJ
   obtain ⟨v,hKv,hr,hd',hk⟩ := take_ok hj ht (m := some ⟨p,h0⟩) ha hJ
   have hag : Agr n (putE σ j.dst v) (a.put o.dst v) := by rw [hd']; exact ha.put hk v
   have hnext := hK _ _ _ hag hs hS hKv
   refine ⟨?_,fun _ hf hc => wpAnyH_take hoi hno hf hc (hQ v) (.inl ⟨hw,fun w1 hw1 => hr w1 hw1⟩) hS hnext⟩
   unfold wpOp
   simp only [hoi]
   rw [if_pos hw]
   refine .inl ?_
   unfold Oper.wp
   rw [hr w hS]
   exact ⟨hS,hnext⟩
  ·have hnext := hK _ _ _ (skip_agr hj ha hd) hs hS hJ
   refine ⟨?_,fun _ hf hc => wpAnyH_take hoi hno hf hc (hQ undef) (.inr ⟨hw,rfl⟩) hS hnext⟩
   unfold wpOp
   simp only [hoi]
   rw [if_neg (by rw [hw]; simp)]
   exact ⟨hS,hnext⟩
 | false =>
  refine ⟨?_,fun h => absurd h (by simp)⟩
  unfold wpOp
  simp only [hoi]
  rcases hcase with ⟨hw,hJ⟩ | ⟨hw,hJ⟩
  ·rw [if_pos hw]
   unfold wJ at hJ
   rw [ht,if_neg (by simp)] at hJ
   obtain ⟨h1,hd',hk⟩ := eff_ok hj ht ha rfl hJ
   refine .inl (h1 _ Q fun v w' hKv hsw => ?_)
   have hS' : ∀ b,p b → w'.heap[b]? = h0[b]? := fun b hb => (hKv.1 b hb).trans (hS b hb)
   exact ⟨hS',hK _ _ _ (hd' ▸ ha.put hk v) (hs.trans hsw) hS' hKv.2⟩
  ·rw [if_neg (by rw [hw]; simp)]
   exact ⟨hS,hK _ _ _ (skip_agr hj ha hd) hs hS hJ⟩
/-- An operation that yields, carried out at its own time. -/
theorem now_step {p : Nat → Prop} {h0 : Heap} {i : Nat} {o : Oper} {j : J} (hoi : ops[i]? = some o) (hj : cmpJ P n o = some j) (ht : j.take = true) (hg : o.guard = none)
  {σ : Env} {a : Act} {w : World} {fuel : Nat} {listed : Array Bool} (ha : Agr n σ a) (hs : Same w0 w) (hS : ∀ b,p b → w.heap[b]? = h0[b]?) {K : Env → Heap → Prop}
  (hK : ∀ σ' a' w',Agr n σ' a' → Same w0 w' → (∀ b,p b → w'.heap[b]? = h0[b]?) → K σ' w'.heap → wpAnyH P .any ops Q (fun w => ∀ b,p b → w.heap[b]? = h0[b]?) fuel (listed.setIfInBounds i true) a' w')
  (hJ : wV none w.heap σ j fun v => K (putE σ j.dst v) w.heap) :
  wpOp P ops Q i (fun a' w' => (∀ b,p b → w'.heap[b]? = h0[b]?) ∧ wpAnyH P .any ops Q (fun w => ∀ b,p b → w.heap[b]? = h0[b]?) fuel (listed.setIfInBounds i true) a' w') a w := by
 obtain ⟨v,hKv,hr,hd',hk⟩ := take_ok hj ht (m := none) ha hJ
 have hag : Agr n (putE σ j.dst v) (a.put o.dst v) := by rw [hd']; exact ha.put hk v
 unfold wpOp
 simp only [hoi]
 rw [if_pos (wanted_none hg _)]
 refine .inl ?_
 unfold Oper.wp
 rw [hr w rfl]
 exact ⟨hS,hK _ _ _ hag hs hS hKv⟩
/-- A region that draws its order: a piece of it. -/
theorem drw_sound {p : Nat → Prop} {h0 : Heap} (hno : Region.noSelect ops = true) (hQp : ∀ c a w, ¬ Q (.panic c) a w) {fin : Nat → Array Bool → Bool}
  (hC : ∀ σ a w fuel listed,fin fuel listed = true → Agr n σ a → Same w0 w → (∀ b,p b → w.heap[b]? = h0[b]?) → C σ w.heap → wpAnyH P .any ops Q (fun w => ∀ b,p b → w.heap[b]? = h0[b]?) fuel listed a w) :
  ∀ (st : List St) (is : List I) (k : Nat) (σ : Env) (a : Act) (w : World) (fuel : Nat) (listed : Array Bool),
  cmpL P n ops st = some is → ordOk P n ops fin fuel listed (ordX st) = true → Agr n σ a → Same w0 w → (∀ b,p b → w.heap[b]? = h0[b]?) → wL P (some ⟨p,h0⟩) is k C σ w.heap →
  wpAnyH P .any ops Q (fun w => ∀ b,p b → w.heap[b]? = h0[b]?) fuel listed a w
 | [],is,k, σ,a,w,fuel,listed,hc,ho,ha,hs,hS,h => by
  cases hc
  have : C σ w.heap := by cases k <;> exact h
  exact hC σ a w fuel listed (by simpa [ordOk,ordX] using ho) ha hs hS this
 | .kp l :: r,is,k, σ,a,w,fuel,listed,hc,ho,ha,hs,hS,h => by
  obtain ⟨is',hc',rfl⟩ := Option.map_eq_some_iff.1 hc
  cases k with
  | zero => exact drw_sound hno hQp hC r is' 0 _ a w fuel listed hc' ho (ha.keep l) hs hS h
  | succ k => exact drw_sound hno hQp hC r is' k _ a w fuel listed hc' ho ha hs hS h
 | .sc c b m :: r,is,k, σ,a,w,fuel,listed,hc,ho,ha,hs,hS,h => by
  obtain ⟨is',hc',rfl⟩ := Option.map_eq_some_iff.1 hc
  cases k with
  | zero =>
   obtain ⟨v,hv,g1⟩ := bd_elim h
   obtain ⟨t,ht,g2⟩ := bd_elim g1
   have hvb := asB_some ht
   subst hvb
   cases htb : (t == b) with
   | true =>
    have e : t = b := by simpa using htb
    subst e
    rw [htb,br_true] at g2
    exact drw_sound hno hQp hC r is' 0 _ a w fuel listed hc' ho (ha.same hv) hs hS g2
   | false =>
    have e : t = !b := by cases t <;> cases b <;> simp_all
    subst e
    rw [htb,br_false] at g2
    exact drw_sound hno hQp hC r is' m _ a w fuel listed hc' ho (ha.same hv) hs hS g2
  | succ k => exact drw_sound hno hQp hC r is' k _ a w fuel listed hc' ho ha hs hS h
 | .x i :: r,is,k, σ,a,w,fuel,listed,hc,ho,ha,hs,hS,h => by
  simp only [cmpL,Option.bind_eq_some_iff,Option.map_eq_some_iff] at hc
  obtain ⟨x,hx,is',hc',rfl⟩ := hc
  obtain ⟨o,j,hoi,hj,hg,ht,rfl⟩ := cmpX_some hx
  cases fuel with
  | zero => simp [ordX,ordOk] at ho
  | succ fuel =>
  simp only [ordX,ordOk,hoi,Option.bind_some,hj,Bool.not_true,Bool.and_false,Bool.and_eq_true] at ho
  obtain ⟨ho1,ho2⟩ := ho
  rw [if_neg (by simp)] at ho1
  cases k with
  | zero =>
   refine wpAnyH_all (of_decide_eq_true ho1) (by simp) fun i' hi' => ?_
   have : i' = i := by simpa using hi'
   subst this
   exact now_step hoi hj ht hg ha hs hS (fun σ' a' w' h1 h2 h3 h4 => drw_sound hno hQp hC r is' 0 σ' a' w' fuel _ hc' ho2 h1 h2 h3 h4) h
  | succ k => exact h.elim
 | .o i :: r,is,k, σ,a,w,fuel,listed,hc,ho,ha,hs,hS,h => by
  simp only [cmpL,Option.bind_eq_some_iff,Option.map_eq_some_iff] at hc
  obtain ⟨x,hx,is',hc',rfl⟩ := hc
  obtain ⟨o,j,hoi,hj,hcase⟩ := cmpO_some hx
  cases fuel with
  | zero => simp [ordX,ordOk] at ho
  | succ fuel =>
  simp only [ordX,ordOk,hoi,Option.bind_some,hj,Bool.not_false,Bool.and_true,Bool.and_eq_true] at ho
  obtain ⟨ho1,ho2⟩ := ho
  have go : ∀ K : Env → Heap → Prop,(∀ σ' a' w',Agr n σ' a' → Same w0 w' → (∀ b,p b → w'.heap[b]? = h0[b]?) → K σ' w'.heap → wpAnyH P .any ops Q (fun w => ∀ b,p b → w.heap[b]? = h0[b]?) fuel (listed.setIfInBounds i true) a' w') →
    (Region.wanted o (yielded ops a.tmps) = true ∧ wJ P (some ⟨p,h0⟩) j K σ w.heap) ∨ (Region.wanted o (yielded ops a.tmps) = false ∧ K (putE σ j.dst undef) w.heap) →
    wpAnyH P .any ops Q (fun w => ∀ b,p b → w.heap[b]? = h0[b]?) (fuel + 1) listed a w := by
   intro K hK hcase
   obtain ⟨g1,g2⟩ := drw_step hno hQp hoi hj ha hs hS hK hcase
   cases ht : j.take with
   | true =>
    rw [ht,if_pos rfl,Bool.and_eq_true] at ho1
    exact g2 ht ho1.1 ho1.2
   | false =>
    rw [ht,if_neg (by simp)] at ho1
    refine wpAnyH_all (of_decide_eq_true ho1) (by simp) fun i' hi' => ?_
    have : i' = i := by simpa using hi'
    subst this
    exact g1
  rcases hcase with ⟨hg,rfl⟩ | ⟨g,b,c,hg,hgc,rfl⟩
  ·cases k with
   | zero => exact go _ (fun σ' a' w' h1 h2 h3 h4 => drw_sound hno hQp hC r is' 0 σ' a' w' fuel _ hc' ho2 h1 h2 h3 h4) (.inl ⟨wanted_none hg _,h⟩)
   | succ k => exact h.elim
  ·cases k with
   | zero =>
    obtain ⟨hl,h⟩ := h
    exact go _ (fun σ' a' w' h1 h2 h3 h4 => drw_sound hno hQp hC r is' 0 σ' a' w' fuel _ hc' ho2 h1 h2 h3 h4) (.inl ⟨wanted_yes ha hg hgc hl,h⟩)
   | succ k =>
    obtain ⟨v,hv,hn,g1⟩ := bd_elim h
    exact go _ (fun σ' a' w' h1 h2 h3 h4 => drw_sound hno hQp hC r is' k σ' a' w' fuel _ hc' ho2 h1 h2 h3 h4) (.inr ⟨wanted_no ha hg hgc hv hn,g1⟩)
mutual
theorem drt_sound {p : Nat → Prop} {h0 : Heap} (hno : Region.noSelect ops = true) (hQp : ∀ c a w, ¬ Q (.panic c) a w) (hC : ∀ σ a w,Agr n σ a → Same w0 w → C σ w.heap → Q .normal a w) :
  ∀ (t : PL) (k : L) (fuel : Nat) (listed : Array Bool),cmpT P n ops t = some k → treeOk P n ops t fuel listed = true → ∀ (σ : Env) (a : Act) (w : World),Agr n σ a → Same w0 w → (∀ b,p b → w.heap[b]? = h0[b]?) →
  wT P (some ⟨p,h0⟩) k C σ w.heap → wpAnyH P .any ops Q (fun w => ∀ b,p b → w.heap[b]? = h0[b]?) fuel listed a w
 | .nil,k,fuel,listed,hc,ho, σ,a,w,ha,hs,hS,h => by
  cases hc
  exact wpAnyH_done (by simpa [treeOk,allIn] using ho) (hC _ _ _ ha hs h) fuel
 | .one st r,k,fuel,listed,hc,ho, σ,a,w,ha,hs,hS,h => by
  simp only [cmpT,Option.bind_eq_some_iff,Option.map_eq_some_iff] at hc
  obtain ⟨is,his,kr,hkr,rfl⟩ := hc
  exact drw_sound hno hQp (fun σ a w fuel listed h1 h2 h3 h4 h5 => drt_sound hno hQp hC r kr fuel listed hkr h1 σ a w h2 h3 h4 h5) st is 0 σ a w fuel listed his ho ha hs hS h
 | .alt x y,k,fuel,listed,hc,ho, σ,a,w,ha,hs,hS,h => by
  simp only [cmpT,Option.bind_eq_some_iff,Option.map_eq_some_iff] at hc
  obtain ⟨kx,hx,ky,hy,rfl⟩ := hc
  simp only [treeOk,Bool.and_eq_true] at ho
  obtain ⟨⟨⟨h1,h2⟩,h3⟩,h4⟩ := ho
  cases fuel with
  | zero =>
   exfalso
   have key : ∀ t : PL,altOk P n ops t 0 listed = true → heads t = [] := by
    intro t ht
    induction t with
    | nil => rfl
    | one st r _ =>
     match st with
     | [] => rfl
     | .kp _ :: _ => rfl
     | .sc _ _ _ :: _ => rfl
     | .o _ :: _ => simp [altOk] at ht
     | .x _ :: _ => simp [altOk] at ht
    | alt a b iha ihb =>
     simp only [altOk,Bool.and_eq_true] at ht
     simp [heads,iha ht.1,ihb ht.2]
   rw [key x h3,key y h4] at h2
   cases hr : Region.ready .any ops listed with
   | nil => simp [hr] at h1
   | cons i r => simp [hr] at h2
  | succ fuel =>
   refine wpAnyH_all rfl (by intro e; simp [e] at h1) fun i hi => ?_
   have hin := List.all_eq_true.1 h2 i hi
   simp only [List.contains_eq_mem,List.mem_append,decide_eq_true_eq] at hin
   rcases hin with hin | hin
   ·exact alt_sound hno hQp hC x kx fuel listed hx h3 σ a w ha hs hS h.1 i hin
   ·exact alt_sound hno hQp hC y ky fuel listed hy h4 σ a w ha hs hS h.2 i hin
theorem alt_sound {p : Nat → Prop} {h0 : Heap} (hno : Region.noSelect ops = true) (hQp : ∀ c a w, ¬ Q (.panic c) a w) (hC : ∀ σ a w,Agr n σ a → Same w0 w → C σ w.heap → Q .normal a w) :
  ∀ (t : PL) (k : L) (fuel : Nat) (listed : Array Bool),cmpT P n ops t = some k → altOk P n ops t (fuel + 1) listed = true → ∀ (σ : Env) (a : Act) (w : World),Agr n σ a → Same w0 w → (∀ b,p b → w.heap[b]? = h0[b]?) →
  wT P (some ⟨p,h0⟩) k C σ w.heap → ∀ i ∈ heads t,wpOp P ops Q i (fun a' w' => (∀ b,p b → w'.heap[b]? = h0[b]?) ∧ wpAnyH P .any ops Q (fun w => ∀ b,p b → w.heap[b]? = h0[b]?) fuel (listed.setIfInBounds i true) a' w') a w
 | .nil,k,fuel,listed,hc,ho, σ,a,w,ha,hs,hS,h,i,hi => by cases hi
 | .one [] r,k,fuel,listed,hc,ho, σ,a,w,ha,hs,hS,h,i,hi => by cases hi
 | .one (.kp _ :: _) r,k,fuel,listed,hc,ho, σ,a,w,ha,hs,hS,h,i,hi => by cases hi
 | .one (.sc _ _ _ :: _) r,k,fuel,listed,hc,ho, σ,a,w,ha,hs,hS,h,i,hi => by cases hi
 | .one (.x j :: st) r,k,fuel,listed,hc,ho, σ,a,w,ha,hs,hS,h,i,hi => by
  have hij : i = j := by simpa [heads] using hi
  subst hij
  simp only [cmpT,Option.bind_eq_some_iff,Option.map_eq_some_iff] at hc
  obtain ⟨is0,his0,kr,hkr,rfl⟩ := hc
  simp only [cmpL,Option.bind_eq_some_iff,Option.map_eq_some_iff] at his0
  obtain ⟨x,hx,is,his,rfl⟩ := his0
  obtain ⟨o,jj,hoi,hj,hg,ht,rfl⟩ := cmpX_some hx
  simp only [altOk,Bool.and_eq_true,hoi,Option.map_some,Option.getD_some] at ho
  obtain ⟨hgn,ho2⟩ := ho
  exact now_step (K := fun σ h => wL P (some ⟨p,h0⟩) is 0 (fun σ h => wT P (some ⟨p,h0⟩) kr C σ h) σ h) hoi hj ht hg ha hs hS
    (fun σ' a' w' h1 h2 h3 h4 => drw_sound hno hQp (fun σ a w fuel listed h1 h2 h3 h4 h5 => drt_sound hno hQp hC r kr fuel listed hkr h1 σ a w h2 h3 h4 h5) st is 0 σ' a' w' fuel _ his ho2 h1 h2 h3 h4) h
 | .one (.o j :: st) r,k,fuel,listed,hc,ho, σ,a,w,ha,hs,hS,h,i,hi => by
  have hij : i = j := by simpa [heads] using hi
  subst hij
  simp only [cmpT,Option.bind_eq_some_iff,Option.map_eq_some_iff] at hc
  obtain ⟨is0,his0,kr,hkr,rfl⟩ := hc
  simp only [cmpL,Option.bind_eq_some_iff,Option.map_eq_some_iff] at his0
  obtain ⟨x,hx,is,his,rfl⟩ := his0
  obtain ⟨o,jj,hoi,hj,hcase⟩ := cmpO_some hx
  simp only [altOk,Bool.and_eq_true,hoi,Option.map_some,Option.getD_some] at ho
  obtain ⟨hgn,ho2⟩ := ho
  rcases hcase with ⟨hg,rfl⟩ | ⟨g,b,c,hg,hgc,rfl⟩
  ·exact (drw_step (K := fun σ h => wL P (some ⟨p,h0⟩) is 0 (fun σ h => wT P (some ⟨p,h0⟩) kr C σ h) σ h) hno hQp hoi hj ha hs hS
    (fun σ' a' w' h1 h2 h3 h4 => drw_sound hno hQp (fun σ a w fuel listed h1 h2 h3 h4 h5 => drt_sound hno hQp hC r kr fuel listed hkr h1 σ a w h2 h3 h4 h5) st is 0 σ' a' w' fuel _ his ho2 h1 h2 h3 h4) (.inl ⟨wanted_none hg _,h⟩)).1
  ·rw [hg] at hgn; cases hgn
 | .alt x y,k,fuel,listed,hc,ho, σ,a,w,ha,hs,hS,h,i,hi => by
  simp only [cmpT,Option.bind_eq_some_iff,Option.map_eq_some_iff] at hc
  obtain ⟨kx,hx,ky,hy,rfl⟩ := hc
  simp only [altOk,Bool.and_eq_true] at ho
  simp only [heads,List.mem_append] at hi
  rcases hi with hi | hi
  ·exact alt_sound hno hQp hC x kx fuel listed hx ho.1 σ a w ha hs hS h.1 i hi
  ·exact alt_sound hno hQp hC y ky fuel listed hy ho.2 σ a w ha hs hS h.2 i hi
end
end
def QL (n : Nat) (w0 : World) (Q : X → Env → Heap → Prop) : Exit → Act → World → Prop
 | .normal,a,w => ∃ σ,Agr n σ a ∧ Same w0 w ∧ Q .normal σ w.heap
 | .exit id,a,w => ∃ σ,Agr n σ a ∧ Same w0 w ∧ Q (.exit id) σ w.heap
 | .ret,a,w => ∃ σ,Agr n σ a ∧ Same w0 w ∧ Q .ret σ w.heap
 | _,_,_ => False
theorem sq_seq {P : Program} : ∀ (a b : C) (Q : X → Env → Heap → Prop) (σ : Env) (h : Heap),wC P (sq a b) Q σ h = wC P a (X.then (wC P b Q) Q) σ h
 | .skip,b,Q, σ,h => rfl
 | .seq x y,b,Q, σ,h => by
  have e : (fun σ h => wC P (sq y b) Q σ h) = (fun σ h => wC P y (X.then (wC P b Q) Q) σ h) := by funext σ h; exact sq_seq y b Q σ h
  show wC P x (X.then (wC P (sq y b) Q) Q) σ h = wC P x (X.then (wC P y (X.then (wC P b Q) Q)) (X.then (wC P b Q) Q)) σ h
  have e' : wC P (sq y b) Q = wC P y (X.then (wC P b Q) Q) := e
  rw [e']
  congr 1
  funext e σ h
  cases e <;> rfl
 | .reg _,_,_,_,_ => rfl
 | .drw _,_,_,_,_ => rfl
 | .drt _,_,_,_,_ => rfl
 | .cond _ _ _,_,_,_,_ => rfl
 | .block _ _,_,_,_,_ => rfl
 | .loop _,_,_,_,_ => rfl
 | .exit _,_,_,_,_ => rfl
 | .ret,_,_,_,_ => rfl
theorem wC_sound {P : Program} {n : Nat} : ∀ (c : Code) (pl : List RP) (k : C) (pl' : List RP),cmpC P n c pl = some (k,pl') → ∀ (Q : X → Env → Heap → Prop) (w0 : World) (σ : Env) (a : Act) (w : World),
  Agr n σ a → Same w0 w → wC P k Q σ w.heap → c.wp P (QL n w0 Q) a w
 | .skip,pl,k,pl',hc,Q,w0, σ,a,w,ha,hs,h => by
  cases hc
  exact wp_skip ⟨σ,ha,hs,h⟩
 | .region id ops draw,[],k,pl',hc,Q,w0, σ,a,w,ha,hs,h => by cases hc
 | .region id ops draw,.t p :: pl,k,pl',hc,Q,w0, σ,a,w,ha,hs,h => by
  unfold cmpC at hc
  split at hc
  ·rename_i hok
   obtain ⟨t,ht,he⟩ := Option.map_eq_some_iff.1 hc
   cases he
   obtain ⟨q,hq,hL⟩ := h
   simp only [drtOk,Bool.and_eq_true] at hok
   obtain ⟨hd,⟨hm,hno⟩,hord⟩ := hok
   have hd' : draw = true := hd
   subst hd'
   refine wp_region_held (S := fun w' => ∀ b,q b → w'.heap[b]? = w.heap[b]?) hm ?_
   exact drt_sound (w0 := w0) (Q := QL n w0 Q) hno (fun c a w h => h) (fun σ a w h1 h2 h3 => ⟨σ,h1,h2,h3⟩) p t ops.size _ ht hord σ a { w with drawn := w.drawn + 1 } ha (hs.trans ⟨rfl,rfl,rfl⟩) (fun b _ => rfl) hL
  ·cases hc
 | .region id ops draw,.l st :: pl,k,pl',hc,Q,w0, σ,a,w,ha,hs,h => by
  unfold cmpC at hc
  cases draw with
  | true =>
   rw [if_pos rfl] at hc
   split at hc
   ·rename_i hok
    obtain ⟨is,his,he⟩ := Option.map_eq_some_iff.1 hc
    cases he
    obtain ⟨p,hp,hL⟩ := h
    simp only [drwOk,Bool.and_eq_true] at hok
    obtain ⟨⟨hm,hno⟩,hord⟩ := hok
    refine wp_region_held (S := fun w' => ∀ b,p b → w'.heap[b]? = w.heap[b]?) hm ?_
    exact drw_sound (w0 := w0) (Q := QL n w0 Q) hno (fun c a w h => h) (fun σ a w fuel listed h0 h1 h2 _ h3 => wpAnyH_done (by simpa [allIn] using h0) ⟨σ,h1,h2,h3⟩ fuel) st is 0 σ a { w with drawn := w.drawn + 1 } ops.size _ his hord ha (hs.trans ⟨rfl,rfl,rfl⟩) (fun b _ => rfl) hL
   ·cases hc
  | false =>
   rw [if_neg (by simp)] at hc
   split at hc
   ·rename_i hord
    obtain ⟨is,his,he⟩ := Option.map_eq_some_iff.1 hc
    cases he
    refine wp_region ?_
    rw [← hord]
    exact wL_sound (Q := QL n w0 Q) (fun σ a w h1 h2 h3 => ⟨σ,h1,h2,h3⟩) st is 0 σ a w his ha hs h
   ·cases hc
 | .seq x y,pl,k,pl',hc,Q,w0, σ,a,w,ha,hs,h => by
  simp only [cmpC,Option.bind_eq_some_iff,Option.map_eq_some_iff] at hc
  obtain ⟨⟨kx,p1⟩,hx,⟨ky,p2⟩,hy,he⟩ := hc
  cases he
  rw [sq_seq] at h
  refine wp_seq (wp_mono (wC_sound x pl kx p1 hx _ w0 σ a w ha hs h) ?_)
  intro e a' w' hq
  cases e with
  | normal =>
   obtain ⟨σ',h1,h2,h3⟩ := hq
   exact wC_sound y p1 ky _ hy Q w0 σ' a' w' h1 h2 h3
  | exit id => exact hq
  | ret => exact hq
  | goto l => exact hq.elim
  | panic c => exact hq.elim
  | outgrown => exact hq.elim
 | .cond x y z,pl,k,pl',hc,Q,w0, σ,a,w,ha,hs,h => by
  simp only [cmpC,Option.bind_eq_some_iff,Option.map_eq_some_iff] at hc
  obtain ⟨⟨ky,p1⟩,hy,⟨kz,p2⟩,hz,he⟩ := hc
  cases he
  obtain ⟨v,hv,g1⟩ := bd_elim h
  obtain ⟨t,ht,g2⟩ := bd_elim g1
  have hvb := asB_some ht
  subst hvb
  refine wp_cond (ha.eval hv) ?_
  cases t with
  | true => rw [br_true] at g2; exact wC_sound y pl ky p1 hy Q w0 σ a w ha hs g2
  | false => rw [br_false] at g2; exact wC_sound z p1 kz _ hz Q w0 σ a w ha hs g2
 | .block id x,pl,k,pl',hc,Q,w0, σ,a,w,ha,hs,h => by
  obtain ⟨⟨kx,p1⟩,hx,he⟩ := Option.map_eq_some_iff.1 hc
  cases he
  refine wp_block (wp_mono (wC_sound x pl kx _ hx _ w0 σ a w ha hs h) ?_)
  intro e a' w' hq
  cases e with
  | normal => exact hq
  | exit i =>
   obtain ⟨σ',h1,h2,h3⟩ := hq
   simp only [X.inBlock] at h3
   by_cases hi : i = id
   ·subst hi
    rw [if_pos rfl] at h3
    simp only [Exit.inBlock,if_true]
    exact ⟨σ',h1,h2,h3⟩
   ·rw [if_neg hi] at h3
    simp only [Exit.inBlock,if_neg hi]
    exact ⟨σ',h1,h2,h3⟩
  | ret => exact hq
  | goto l => exact hq.elim
  | panic c => exact hq.elim
  | outgrown => exact hq.elim
 | .loop x,pl,k,pl',hc,Q,w0, σ,a,w,ha,hs,h => by
  obtain ⟨⟨kx,p1⟩,hx,he⟩ := Option.map_eq_some_iff.1 hc
  cases he
  obtain ⟨Inv,m,h0,hround⟩ := h
  refine wp_loop_ghost (fun m a w => ∃ σ,Agr n σ a ∧ Same w0 w ∧ Inv m σ w.heap) m ⟨σ,ha,hs,h0⟩ ?_
  rintro m a w ⟨σ,ha,hs,hI⟩
  refine wp_mono (wC_sound x pl kx _ hx _ w0 σ a w ha hs (hround m σ w.heap hI)) ?_
  intro e a' w' hq
  cases e with
  | normal =>
   obtain ⟨σ',h1,h2,m',hm,hI'⟩ := hq
   exact ⟨m',hm, σ',h1,h2,hI'⟩
  | exit id => exact hq
  | ret => exact hq
  | goto l => exact hq.elim
  | panic c => exact hq.elim
  | outgrown => exact hq.elim
 | .exit id,pl,k,pl',hc,Q,w0, σ,a,w,ha,hs,h => by
  cases hc
  exact wp_exit ⟨σ,ha,hs,h⟩
 | .ret,pl,k,pl',hc,Q,w0, σ,a,w,ha,hs,h => by
  cases hc
  exact wp_ret ⟨σ,ha,hs,h⟩
 | .rangeFunc ..,_,_,_,hc,_,_,_,_,_,_,_,_ => by cases hc
 | .scope _,_,_,_,hc,_,_,_,_,_,_,_,_ => by cases hc
 | .label _,_,_,_,hc,_,_,_,_,_,_,_,_ => by cases hc
 | .goto _,_,_,_,hc,_,_,_,_,_,_,_,_ => by cases hc
 | .refuse _,_,_,_,hc,_,_,_,_,_,_,_,_ => by cases hc
def resOne (tmps : Array Value) : ResultVar → Sem Value
 | .tmp t => pure (tmps.getD t undef)
 | .cell c t => do loadVar t (← asAddr (tmps.getD c undef))
theorem results_eq (fn : Func) (tmps : Array Value) : results fn tmps = (fn.results.mapM (resOne tmps)) >>= fun vs => pure (if h : vs.size = 1 then vs[0] else .tuple vs) := rfl
theorem run_results {P : Program} {n : Nat} {σ : Env} {a : Act} (ha : Agr n σ a) (w : World) : ∀ (rv : List ResultVar) (rs : List Rs) (vs : List Value),cmpRs P rv = some rs → resV w.heap σ rs = some vs →
  (rv.mapM (resOne a.tmps)).run P w = .ok vs w
 | [],rs,vs,hc,hv => by cases hc; cases hv; simp
 | .tmp t :: rv,rs,vs,hc,hv => by
  obtain ⟨rs',hc',rfl⟩ := Option.map_eq_some_iff.1 hc
  simp only [resV,Option.bind_eq_some_iff,Option.map_eq_some_iff] at hv
  obtain ⟨v,hv,vs',hvs',rfl⟩ := hv
  have ih := run_results ha w rv rs' vs' hc' hvs'
  have h1 : a.tmps.getD t undef = v := ha.eval (x := .tmp t) hv
  simp only [List.mapM_cons,Sem.run_bind,resOne,Sem.run_pure,Result.andThen_ok,h1,ih]
 | .cell c t :: rv,rs,vs,hc,hv => by
  unfold cmpRs at hc
  split at hc
  ·rename_i k hk
   obtain ⟨rs',hc',rfl⟩ := Option.map_eq_some_iff.1 hc
   simp only [resV,Option.bind_eq_some_iff,Option.map_eq_some_iff] at hv
   obtain ⟨v,hv,q,hq,l,hl,vs',hvs',rfl⟩ := hv
   have ih := run_results ha w rv rs' vs' hc' hvs'
   have h1 : a.tmps.getD c undef = v := ha.eval (x := .tmp c) hv
   have hp := asP_some hq
   have h2 : (resOne a.tmps (.cell c t)).run P w = .ok (.agg l.toArray) w := by
    simp only [resOne,Sem.run_bind,h1,hp,asAddr,Sem.run_pure,Result.andThen_ok,loadVar,(run_isAgg' hk w).1,Option.isSome_some,if_true,run_sizeOf' ((run_isAgg' hk w).2 k rfl),run_loadCells_rd w hl]
   simp only [List.mapM_cons,Sem.run_bind,h2,Sem.run_pure,Result.andThen_ok,ih]
  ·cases hc
theorem look_envOf : ∀ (vs : List Value) (i s : Nat) (v : Value),look (envOf i vs) s = some v → i ≤ s ∧ vs[s - i]? = some v
 | [],_,_,_,h => by cases h
 | u :: vs,i,s,v,h => by
  simp only [envOf,look] at h
  split at h
  ·rename_i e; subst e; cases h; simp
  ·rename_i e
   obtain ⟨h1,h2⟩ := look_envOf vs (i + 1) s v h
   refine ⟨by omega,?_⟩
   rw [show s - i = (s - (i + 1)) + 1 by omega]
   simpa using h2
theorem fn_ok {P : Program} {f : FuncId} {fn : Func} {c : Code} {pl : List RP} {k : C} {rs : List Rs} {args : List Value} {h : Heap} {R : Value → Heap → Prop}
  (hf : P.funcs[f]? = some fn) (hb : fn.body = some c) (hc : cmpC P fn.ntmps c pl = some (k,[])) (hr : cmpRs P fn.results.toList = some rs) (hn : args.length ≤ fn.ntmps)
  (H : wC P k (endW rs R) (envOf 0 args) h) : CallsH P f args h R := by
 intro w hw
 subst hw
 refine calls_of_wp hf hb ?_
 have ha : Agr fn.ntmps (envOf 0 args) { tmps := args.toArray ++ Array.replicate (fn.ntmps - args.toArray.size) undef,defers := [] } := by
  refine ⟨by simp; omega,rfl,fun s v hs => ?_⟩
  obtain ⟨_,h2⟩ := look_envOf args 0 s v hs
  have hlt : s < args.length := by
   rcases Nat.lt_or_ge s args.length with h | h
   ·exact h
   ·simp at h2; rw [List.getElem?_eq_none h] at h2; cases h2
  rw [Array.getElem?_append_left (by simpa using hlt)]
  simpa using h2
 refine wp_mono (wC_sound c pl k [] hc _ w _ _ w ha (Same.refl w) H) ?_
 have fin : ∀ σ a w',Agr fn.ntmps σ a → Same w w' → bd (resV w'.heap σ rs) (fun vs => R (one vs) w'.heap) →
   a.defers = [] ∧ ∃ v,(results fn a.tmps).run P w' = .ok v w' ∧ ∃ v',Ending.returned v = .returned v' ∧ R v' w'.heap ∧ Same w w' := by
  intro σ a w' ha hs hb
  obtain ⟨vs,hvs,hR⟩ := bd_elim hb
  refine ⟨ha.defers,one vs,?_,one vs,rfl,hR,hs⟩
  have := run_results ha w' fn.results.toList rs vs hr hvs
  rw [results_eq,Array.mapM_eq_mapM_toList]
  simp only [Sem.run_bind,Sem.run_map,this,Result.andThen_ok,Sem.run_pure]
  congr 1
  unfold one
  match vs with
  | [] => simp
  | [v] => simp
  | v :: u :: r => simp
 intro e a w' hq
 cases e with
 | normal => obtain ⟨σ,h1,h2,h3⟩ := hq; exact fin σ a w' h1 h2 h3
 | ret => obtain ⟨σ,h1,h2,h3⟩ := hq; exact fin σ a w' h1 h2 h3
 | exit id => obtain ⟨σ,h1,h2,h3⟩ := hq; exact h3.elim
 | goto l => exact hq.elim
 | panic c => exact hq.elim
 | outgrown => exact hq.elim
/-- A function in the small language. -/
def cmpF (P : Program) (fn : Func) (pl : List RP) : Option (C × List Rs) :=
 match fn.body with
 | some c => match cmpC P fn.ntmps c pl,cmpRs P fn.results.toList with
  | some (k,[]),some rs => some (k,rs)
  | _,_ => none
 | none => none
theorem fn_ok2 {P : Program} {f : FuncId} {fn : Func} {pl : List RP} {k : C} {rs : List Rs} {args : List Value} {h : Heap} {R : Value → Heap → Prop}
  (hf : P.funcs[f]? = some fn) (hc : cmpF P fn pl = some (k,rs)) (hn : args.length ≤ fn.ntmps) (H : wC P k (endW rs R) (envOf 0 args) h) : CallsH P f args h R := by
 unfold cmpF at hc
 split at hc
 ·rename_i c hb
  split at hc
  ·rename_i k' rs' h1 h2
   cases hc
   exact fn_ok hf hb h1 h2 hn H
  ·cases hc
 ·cases hc
end Go.AX
namespace Go.AX
open Go
section
variable {P : Program} {m : Option Md} {C : Env → Heap → Prop} {σ : Env} {h : Heap} {r : List I}
theorem wL_nil (k : Nat) : wL P m [] k C σ h = C σ h := by cases k <;> rfl
theorem wL_kp (l : List Nat) : wL P m (.kp l :: r) 0 C σ h = wL P m r 0 C (keep l σ) h := rfl
theorem wL_sc (c : Nat) (w : Bool) (n : Nat) : wL P m (.sc c w n :: r) 0 C σ h =
 (bd (look σ c) fun v => bd (asB v) fun t => br (t == w) (wL P m r 0 C ((c,.bool w) :: σ) h) (wL P m r n C ((c,.bool (!w)) :: σ) h)) := rfl
theorem wL_g (c : Nat) (w : Bool) (j : J) : wL P m (.g c w j :: r) 0 C σ h = (look σ c = some (.bool w) ∧ wL P m (.op j :: r) 0 C σ h) := rfl
theorem wL_kpS (l : List Nat) (k : Nat) : wL P m (.kp l :: r) (k + 1) C σ h = wL P m r k C σ h := rfl
theorem wL_scS (c : Nat) (w : Bool) (n k : Nat) : wL P m (.sc c w n :: r) (k + 1) C σ h = wL P m r k C σ h := rfl
theorem wL_gS (c : Nat) (w : Bool) (j : J) (k : Nat) : wL P m (.g c w j :: r) (k + 1) C σ h = (bd (look σ c) fun v => notB v w = true ∧ wL P m r k C (putE σ j.dst undef) h) := rfl
theorem wL_mov (d : Nat) (x : Operand) : wL P m (.op (.mov d x) :: r) 0 C σ h = (bd (evO σ x) fun v => wL P m r 0 C ((d,v) :: σ) h) := rfl
theorem wL_pick (d : Nat) (c a b : Operand) : wL P m (.op (.pick d c a b) :: r) 0 C σ h = (bd (evO σ c) fun v => bd (asB v) fun t => bd (evO σ (bif t then a else b)) fun v => wL P m r 0 C ((d,v) :: σ) h) := rfl
theorem wL_ld1 (d : Nat) (x : Operand) : wL P m (.op (.ld d none x) :: r) 0 C σ h = (bd (evO σ x) fun v => bd (asP v) fun q => ldOk m q.1 ∧ bd (cel (ldHeap m h) q.1 q.2) fun v => wL P m r 0 C ((d,v) :: σ) h) := rfl
theorem wL_ldn (d n : Nat) (x : Operand) : wL P m (.op (.ld d (some n) x) :: r) 0 C σ h = (bd (evO σ x) fun v => bd (asP v) fun q => ldOk m q.1 ∧ bd (rd (ldHeap m h) q.1 q.2 n) fun l => wL P m r 0 C ((d,.agg l.toArray) :: σ) h) := rfl
theorem wL_fad (d off : Nat) (x : Operand) : wL P m (.op (.fad d off x) :: r) 0 C σ h = (bd (evO σ x) fun v => bd (asP v) fun q => wL P m r 0 C ((d,ptr q.1 (q.2 + off)) :: σ) h) := rfl
theorem wL_iad (d sz : Nat) (x i : Operand) : wL P m (.op (.iad d sz x i) :: r) 0 C σ h =
 (bd (evO σ x) fun v => bd (evO σ i) fun u => bd (asSl v) fun q => bd (asI u) fun k => 0 ≤ k ∧ k < q.2.2.1 ∧ wL P m r 0 C ((d,ptr q.1 (q.2.1 + k.toNat * sz)) :: σ) h) := rfl
theorem wL_slc (d sz : Nat) (x : Operand) (lo hi mx : Option Operand) : wL P m (.op (.slc d sz x lo hi mx) :: r) 0 C σ h =
 (bd (evO σ x) fun v => bd (evOo σ lo) fun l => bd (evOo σ hi) fun hh => bd (evOo σ mx) fun mm => slcV sz v l hh mm fun v => wL P m r 0 C ((d,v) :: σ) h) := rfl
theorem wL_ext (d : Nat) (x : Operand) (i : Nat) : wL P m (.op (.ext d x i) :: r) 0 C σ h = (bd (evO σ x) fun v => bd (extV i v) fun v => wL P m r 0 C ((d,v) :: σ) h) := rfl
theorem wL_bin (d : Nat) (op : BinOp) (x y : Operand) : wL P m (.op (.bin d op x y) :: r) 0 C σ h = (bd (evO σ x) fun v => bd (evO σ y) fun u => bd (binV op v u) fun v => wL P m r 0 C ((d,v) :: σ) h) := rfl
theorem wL_eqb (d : Nat) (neg : Bool) (x y : Operand) : wL P m (.op (.eqb d neg x y) :: r) 0 C σ h = (bd (evO σ x) fun v => bd (evO σ y) fun u => bd (eqB neg v u) fun v => wL P m r 0 C ((d,v) :: σ) h) := rfl
theorem wL_eqn (d : Nat) (s neg : Bool) (x y : Operand) : wL P m (.op (.eqn d s neg x y) :: r) 0 C σ h = (bd (evO σ x) fun v => bd (evO σ y) fun u => bd (eqN s neg v u) fun v => wL P m r 0 C ((d,v) :: σ) h) := rfl
theorem wL_eqa (d : Nat) (neg : Bool) (ks : List Kd) (x y : Operand) : wL P m (.op (.eqa d neg ks x y) :: r) 0 C σ h = (bd (evO σ x) fun v => bd (evO σ y) fun u => bd (eqA neg ks v u) fun v => wL P m r 0 C ((d,v) :: σ) h) := rfl
theorem wL_un (d : Nat) (op : UnOp) (x : Operand) : wL P m (.op (.un d op x) :: r) 0 C σ h = (bd (evO σ x) fun v => bd (unV op v) fun v => wL P m r 0 C ((d,v) :: σ) h) := rfl
theorem wL_len (d : Nat) (s : Bool) (x : Operand) : wL P m (.op (.len d s x) :: r) 0 C σ h = (bd (evO σ x) fun v => bd (lenV s v) fun v => wL P m r 0 C ((d,v) :: σ) h) := rfl
theorem wL_cap (d : Nat) (x : Operand) : wL P m (.op (.cap d x) :: r) 0 C σ h = (bd (evO σ x) fun v => bd (capV v) fun v => wL P m r 0 C ((d,v) :: σ) h) := rfl
theorem wL_mm (d : Nat) (mx : Bool) (x y : Operand) : wL P m (.op (.mm d mx x y) :: r) 0 C σ h = (bd (evO σ x) fun v => bd (evO σ y) fun u => bd (maxV mx v u) fun v => wL P m r 0 C ((d,v) :: σ) h) := rfl
theorem wL_cvt (d : Nat) (k : IntKind) (x : Operand) : wL P m (.op (.cvt d k x) :: r) 0 C σ h = (bd (evO σ x) fun v => bd (cvtV k v) fun v => wL P m r 0 C ((d,v) :: σ) h) := rfl
theorem wL_bld (d : Nat) (zero : List Value) (parts : List (Nat × Nat × Operand)) : wL P m (.op (.bld d zero parts) :: r) 0 C σ h = (bd (fillL σ zero parts) fun cs => wL P m r 0 C ((d,.agg cs.toArray) :: σ) h) := rfl
theorem wL_fn (d f : Nat) (caps : List Operand) : wL P m (.op (.fn d f caps) :: r) 0 C σ h = (bd (evOs σ caps) fun cs => wL P m r 0 C ((d,.func (.func f) #[] cs.toArray) :: σ) h) := rfl
theorem wL_nch (d : Option Nat) (x : Operand) : wL P m (.op (.nch d x) :: r) 0 C σ h = (bd (evO σ x) fun v => bd (nchV v) fun v => wL P m r 0 C (putE σ d v) h) := rfl
theorem wL_new (d t : Nat) (zero : List Value) : wL P m (.op (.new d t zero) :: r) 0 C σ h = (kpOk m h (h.push (.cells zero.toArray t)) ∧ wL P m r 0 C ((d,ptr h.size 0) :: σ) (h.push (.cells zero.toArray t))) := rfl
theorem wL_box (d t : Nat) (x : Operand) : wL P m (.op (.box d t x) :: r) 0 C σ h = (bd (evO σ x) fun v => kpOk m h (h.push (.cells v.cells t)) ∧ wL P m r 0 C ((d,ptr h.size 0) :: σ) (h.push (.cells v.cells t))) := rfl
theorem wL_bsl (d t n : Nat) (zero : List Value) (parts : List (Nat × Nat × Operand)) : wL P m (.op (.bsl d t n zero parts) :: r) 0 C σ h =
 (bd (fillL σ zero parts) fun cs => kpOk m h (h.push (.cells cs.toArray t)) ∧ wL P m r 0 C ((d,sl h.size 0 n n) :: σ) (h.push (.cells cs.toArray t))) := rfl
theorem wL_st (n : Nat) (x v : Operand) : wL P m (.op (.st n x v) :: r) 0 C σ h =
 (bd (evO σ x) fun p => bd (asP p) fun q => bd (evO σ v) fun u => u.cells.size = n ∧ wrOk h q.1 q.2 u.cells.toList ∧ kpOk m h (wr h q.1 q.2 u.cells.toList) ∧ wL P m r 0 C σ (wr h q.1 q.2 u.cells.toList)) := rfl
theorem wL_call (d : Option Nat) (f : Nat) (args : List Operand) : wL P m (.op (.call d f args) :: r) 0 C σ h = (bd (evOs σ args) fun vs => CallsH P f vs h fun v h' => kpOk m h h' ∧ wL P m r 0 C (putE σ d v) h') := rfl
theorem wL_cav (d : Option Nat) (f : FuncId) (first caps : Array Value) (vs : List Value) (x : Operand) (args : List Operand) (hx : evO σ x = some (.func (.func f) first caps)) (hvs : evOs σ args = some vs) (hc : callable P f = true)
  (H : CallsH P f (first.toList ++ vs ++ caps.toList) h fun v h' => kpOk m h h' ∧ wL P m r 0 C (putE σ d v) h') : wL P m (.op (.cav d x args) :: r) 0 C σ h := by
 unfold wL wJ
 rw [if_neg (by simp [J.take])]
 unfold wE
 simp only [hx,hvs,bd_some]
 exact ⟨hc,H⟩
theorem wL_raw (d : Option Nat) (o : Oper) : wL P m (.op (.raw d o) :: r) 0 C σ h = RawW P o σ h fun v h' => kpOk m h h' ∧ wL P m r 0 C (putE σ d v) h' := rfl
end
theorem br_eqT (t : Bool) (A B : Prop) : br (t == true) A B = br t A B := by cases t <;> rfl
theorem br_eqF (t : Bool) (A B : Prop) : br (t == false) A B = br t B A := by cases t <;> simp [br]
theorem ldOk_none (b : Nat) : ldOk none b = True := rfl
theorem ldHeap_none (h : Heap) : ldHeap none h = h := rfl
theorem kpOk_none (h h' : Heap) : kpOk none h h' = True := rfl
theorem ldOk_some (p : Nat → Prop) (h0 : Heap) (b : Nat) : ldOk (some ⟨p,h0⟩) b = p b := rfl
theorem ldHeap_some (p : Nat → Prop) (h0 h : Heap) : ldHeap (some ⟨p,h0⟩) h = h0 := rfl
theorem then_normal (K : Env → Heap → Prop) (Q : X → Env → Heap → Prop) (σ : Env) (h : Heap) : X.then K Q .normal σ h = K σ h := rfl
theorem then_exit (K : Env → Heap → Prop) (Q : X → Env → Heap → Prop) (i : Nat) (σ : Env) (h : Heap) : X.then K Q (.exit i) σ h = Q (.exit i) σ h := rfl
theorem then_ret (K : Env → Heap → Prop) (Q : X → Env → Heap → Prop) (σ : Env) (h : Heap) : X.then K Q .ret σ h = Q .ret σ h := rfl
theorem inBlock_normal (i : Nat) (Q : X → Env → Heap → Prop) (σ : Env) (h : Heap) : X.inBlock i Q .normal σ h = Q .normal σ h := rfl
theorem inBlock_ret (i : Nat) (Q : X → Env → Heap → Prop) (σ : Env) (h : Heap) : X.inBlock i Q .ret σ h = Q .ret σ h := rfl
theorem inBlock_exit (i j : Nat) (Q : X → Env → Heap → Prop) (σ : Env) (h : Heap) : X.inBlock i Q (.exit j) σ h = if j = i then Q .normal σ h else Q (.exit j) σ h := rfl
theorem endW_ret (res : List Rs) (R : Value → Heap → Prop) (σ : Env) (h : Heap) : endW res R .ret σ h = bd (resV h σ res) fun vs => R (one vs) h := rfl
theorem endW_normal (res : List Rs) (R : Value → Heap → Prop) (σ : Env) (h : Heap) : endW res R .normal σ h = bd (resV h σ res) fun vs => R (one vs) h := rfl
theorem evO_tmp (σ : Env) (t : Nat) : evO σ (.tmp t) = look σ t := rfl
theorem evO_const (σ : Env) (v : Value) : evO σ (.const v) = some v := rfl
theorem evO_func (σ : Env) (f : Nat) : evO σ (.func f) = some (.func (.func f) #[] #[]) := rfl
theorem look_cons (m : Nat) (v : Value) (σ : Env) (n : Nat) : look ((m,v) :: σ) n = if n = m then some v else look σ n := rfl
theorem keep_cons (s : Nat) (l : List Nat) (σ : Env) : keep (s :: l) σ = kc (look σ s) s (keep l σ) := rfl
theorem keep_nil (σ : Env) : keep [] σ = [] := rfl
theorem kc_some (v : Value) (s : Nat) (r : Env) : kc (some v) s r = (s,v) :: r := rfl
theorem evOs_cons (σ : Env) (x : Operand) (xs : List Operand) : evOs σ (x :: xs) = (evO σ x).bind fun v => (evOs σ xs).map (v :: ·) := rfl
theorem evOs_nil (σ : Env) : evOs σ [] = some [] := rfl
theorem evOo_none (σ : Env) : evOo σ none = some none := rfl
theorem evOo_some (σ : Env) (x : Operand) : evOo σ (some x) = (evO σ x).map some := rfl
theorem asB_bool (b : Bool) : asB (.bool b) = some b := rfl
theorem asI_int (k : IntKind) (n : Int) : asI (.int k n) = some n := rfl
theorem asP_ptr (b o : Nat) : asP (.pointer (some ⟨b,o,none⟩)) = some (b,o) := rfl
theorem asSl_sl (b o n c : Nat) : asSl (.slice (some ⟨b,o,none⟩) n c) = some (b,o,n,c) := rfl
theorem extV_tuple (i : Nat) (vs : Array Value) : extV i (.tuple vs) = vs[i]? := rfl
theorem unV_not (b : Bool) : unV .not (.bool b) = some (.bool !b) := rfl
theorem lenV_sl (a : Option Addr) (n c : Nat) : lenV true (.slice a n c) = some (vi n) := rfl
theorem lenV_str (s : ByteArray) : lenV false (.string s) = some (vi s.size) := rfl
theorem capV_sl (a : Option Addr) (n c : Nat) : capV (.slice a n c) = some (vi c) := rfl
theorem eqB_bool (neg a b : Bool) : eqB neg (.bool a) (.bool b) = some (.bool (if neg then !(a == b) else a == b)) := rfl
theorem cvtV_int (k k' : IntKind) (n : Int) : cvtV k (.int k' n) = some (.int k (k.wrap n)) := rfl
theorem nchV_ptr (b o : Nat) : nchV (.pointer (some ⟨b,o,none⟩)) = some (.pointer (some ⟨b,o,none⟩)) := rfl
theorem maxV_int (mx : Bool) (k k' : IntKind) (x y : Int) : maxV mx (.int k x) (.int k' y) = some (.int k (if mx then (if y > x then y else x) else (if y < x then y else x))) := rfl
theorem notB_ft : notB (.bool false) true = true := rfl
theorem notB_tf : notB (.bool true) false = true := rfl
theorem notB_undef (w : Bool) : notB undef w = true := rfl
theorem putE_some (σ : Env) (d : Nat) (v : Value) : putE σ (some d) v = (d,v) :: σ := rfl
theorem putE_none (σ : Env) (v : Value) : putE σ none v = σ := rfl
theorem one_one (v : Value) : one [v] = v := rfl
theorem one_two (v u : Value) : one [v,u] = .tuple #[v,u] := rfl
theorem resV_nil (h : Heap) (σ : Env) : resV h σ [] = some [] := rfl
theorem resV_tmp (h : Heap) (σ : Env) (t : Nat) (r : List Rs) : resV h σ (.tmp t :: r) = (look σ t).bind fun v => (resV h σ r).map (v :: ·) := rfl
theorem resV_cell (h : Heap) (σ : Env) (t n : Nat) (r : List Rs) : resV h σ (.cell t n :: r) = (look σ t).bind fun v => (asP v).bind fun q => (rd h q.1 q.2 n).bind fun l => (resV h σ r).map (.agg l.toArray :: ·) := rfl
theorem envOf_nil (i : Nat) : envOf i [] = [] := rfl
theorem envOf_cons (i : Nat) (v : Value) (vs : List Value) : envOf i (v :: vs) = (i,v) :: envOf (i + 1) vs := rfl
theorem fillL_nil (σ : Env) (cs : List Value) : fillL σ cs [] = some cs := rfl
theorem fillL_cons (σ : Env) (cs : List Value) (off size : Nat) (x : Operand) (r : List (Nat × Nat × Operand)) :
  fillL σ cs ((off,size,x) :: r) = (evO σ x).bind fun v => if v.cells.size = size ∧ off + size ≤ cs.length then fillL σ (putL cs off v.cells.toList) r else none := rfl
theorem putL_nil (cs : List Value) (o : Nat) : putL cs o [] = cs := rfl
theorem putL_cons (cs : List Value) (o : Nat) (v : Value) (vs : List Value) : putL cs o (v :: vs) = putL (cs.set o v) (o + 1) vs := rfl
section
variable (k : IntKind) (a b : Int) (s t : ByteArray)
theorem binV_add : binV .add (.int k a) (.int k b) = some (.int k (k.wrap (a + b))) := by simp [binV]
theorem binV_sub : binV .sub (.int k a) (.int k b) = some (.int k (k.wrap (a - b))) := by simp [binV]
theorem binV_mul : binV .mul (.int k a) (.int k b) = some (.int k (k.wrap (a * b))) := by simp [binV]
theorem binV_eql : binV .eql (.int k a) (.int k b) = some (.bool (a == b)) := by simp [binV]
theorem binV_neq : binV .neq (.int k a) (.int k b) = some (.bool (a != b)) := by simp [binV]
theorem binV_lss : binV .lss (.int k a) (.int k b) = some (.bool (decide (a < b))) := by simp [binV]
theorem binV_leq : binV .leq (.int k a) (.int k b) = some (.bool (decide (a ≤ b))) := by simp [binV]
theorem binV_gtr : binV .gtr (.int k a) (.int k b) = some (.bool (decide (a > b))) := by simp [binV]
theorem binV_geq : binV .geq (.int k a) (.int k b) = some (.bool (decide (a ≥ b))) := by simp [binV]
theorem binS_eql : binV .eql (.string s) (.string t) = some (.bool (s.toList == t.toList)) := rfl
theorem binS_neq : binV .neq (.string s) (.string t) = some (.bool !(s.toList == t.toList)) := rfl
theorem binS_lss : binV .lss (.string s) (.string t) = some (.bool (Op.bytesLess s.toList t.toList)) := rfl
theorem binS_leq : binV .leq (.string s) (.string t) = some (.bool (Op.bytesLess s.toList t.toList || s.toList == t.toList)) := rfl
theorem binS_gtr : binV .gtr (.string s) (.string t) = some (.bool !(Op.bytesLess s.toList t.toList || s.toList == t.toList)) := rfl
theorem binS_geq : binV .geq (.string s) (.string t) = some (.bool !(Op.bytesLess s.toList t.toList)) := rfl
end
set_option linter.defProp false in
/-- All the rules as one. -/
def AXR := And.intro @bd_some <|
 And.intro @br_true <|
 And.intro @br_false <|
 And.intro @wL_nil <|
 And.intro @wL_kp <|
 And.intro @wL_sc <|
 And.intro @wL_g <|
 And.intro @wL_kpS <|
 And.intro @wL_scS <|
 And.intro @wL_gS <|
 And.intro @wL_mov <|
 And.intro @wL_pick <|
 And.intro @wL_ld1 <|
 And.intro @wL_ldn <|
 And.intro @wL_fad <|
 And.intro @wL_iad <|
 And.intro @wL_slc <|
 And.intro @wL_ext <|
 And.intro @wL_bin <|
 And.intro @wL_eqb <|
 And.intro @wL_eqn <|
 And.intro @wL_eqa <|
 And.intro @wL_un <|
 And.intro @wL_len <|
 And.intro @wL_cap <|
 And.intro @wL_mm <|
 And.intro @wL_cvt <|
 And.intro @wL_bld <|
 And.intro @wL_fn <|
 And.intro @wL_nch <|
 And.intro @wL_call <|
 And.intro @ldOk_none <|
 And.intro @ldHeap_none <|
 And.intro @kpOk_none <|
 And.intro @ldOk_some <|
 And.intro @ldHeap_some <|
 And.intro @then_normal <|
 And.intro @then_exit <|
 And.intro @then_ret <|
 And.intro @inBlock_normal <|
 And.intro @inBlock_ret <|
 And.intro @inBlock_exit <|
 And.intro @endW_ret <|
 And.intro @endW_normal <|
 And.intro @evO_tmp <|
 And.intro @evO_const <|
 And.intro @evO_func <|
 And.intro @look_cons <|
 And.intro @keep_cons <|
 And.intro @keep_nil <|
 And.intro @kc_some <|
 And.intro @evOs_cons <|
 And.intro @evOs_nil <|
 And.intro @evOo_none <|
 And.intro @evOo_some <|
 And.intro @asB_bool <|
 And.intro @asI_int <|
 And.intro @asP_ptr <|
 And.intro @asSl_sl <|
 And.intro @extV_tuple <|
 And.intro @unV_not <|
 And.intro @lenV_sl <|
 And.intro @lenV_str <|
 And.intro @capV_sl <|
 And.intro @eqB_bool <|
 And.intro @cvtV_int <|
 And.intro @maxV_int <|
 And.intro @notB_ft <|
 And.intro @notB_tf <|
 And.intro @br_eqT <|
 And.intro @br_eqF <|
 And.intro @notB_undef <|
 And.intro @putE_some <|
 And.intro @putE_none <|
 And.intro @one_one <|
 And.intro @one_two <|
 And.intro @resV_nil <|
 And.intro @resV_tmp <|
 And.intro @resV_cell <|
 And.intro @envOf_nil <|
 And.intro @envOf_cons <|
 And.intro @fillL_nil <|
 And.intro @fillL_cons <|
 And.intro @putL_nil <|
 And.intro @putL_cons <|
 And.intro @binV_add <|
 And.intro @binV_sub <|
 And.intro @binV_mul <|
 And.intro @binV_eql <|
 And.intro @binV_neq <|
 And.intro @binV_lss <|
 And.intro @binV_leq <|
 And.intro @binV_gtr <|
 And.intro @binV_geq <|
 And.intro @binS_eql <|
 And.intro @binS_neq <|
 And.intro @binS_lss <|
 And.intro @binS_leq <|
 And.intro @binS_gtr <|
 @binS_geq
end Go.AX
namespace Go.AX
open Go
/-- h' has all of h's blocks, as they were. -/
structure Ext (h h' : Heap) : Prop where
 size : h.size ≤ h'.size
 at_ : ∀ b,b < h.size → h'[b]? = h[b]?
theorem Ext.refl (h : Heap) : Ext h h := ⟨Nat.le_refl _,fun _ _ => rfl⟩
theorem Ext.trans {a b c : Heap} (h : Ext a b) (k : Ext b c) : Ext a c := ⟨Nat.le_trans h.size k.size,fun i hi => (k.at_ i (Nat.lt_of_lt_of_le hi h.size)).trans (h.at_ i hi)⟩
theorem Ext.push {a h : Heap} (e : Ext a h) (o : Obj) : Ext a (h.push o) := e.trans ⟨by simp,fun b hb => by rw [Array.getElem?_push,if_neg (by omega)]⟩
theorem wr_size (h : Heap) (b o : Nat) (vs : List Value) : (wr h b o vs).size = h.size := by simp [wr]
theorem wr_other {h : Heap} {b o c : Nat} {vs : List Value} (hb : c ≠ b) : (wr h b o vs)[c]? = h[c]? := by
 simp only [wr,Array.getElem?_modify]
 rw [if_neg (by omega)]
theorem cel_at {h h' : Heap} {b : Nat} (hb : h'[b]? = h[b]?) (o : Nat) : cel h' b o = cel h b o := by unfold cel; rw [hb]
theorem cel_lt {h : Heap} {b o : Nat} {v : Value} (hc : cel h b o = some v) : b < h.size := by
 unfold cel at hc
 rcases Nat.lt_or_ge b h.size with hl | hl
 ·exact hl
 ·rw [Array.getElem?_eq_none hl] at hc; cases hc
/-- A block of cells that may be written. -/
def Blk (h : Heap) (b : Nat) (t : TypeId) (l : List Value) : Prop := h[b]? = some (.cells l.toArray t (0,0))
theorem Blk.lt {h : Heap} {b t : Nat} {l : List Value} (hb : Blk h b t l) : b < h.size := by
 unfold Blk at hb
 rcases Nat.lt_or_ge b h.size with hl | hl
 ·exact hl
 ·rw [Array.getElem?_eq_none hl] at hb; cases hb
theorem Blk.ext {h h' : Heap} {b t : Nat} {l : List Value} (hb : Blk h b t l) (e : Ext h h') : Blk h' b t l := (e.at_ b hb.lt).trans hb
theorem Blk.cel {h : Heap} {b t : Nat} {l : List Value} (hb : Blk h b t l) (o : Nat) : cel h b o = l[o]? := by
 unfold Blk at hb; simp [AX.cel,hb]
theorem Blk.new (h : Heap) (t : TypeId) (c : Array Value) : Blk (h.push (.cells c t)) h.size t c.toList := by simp [Blk]
theorem patch_toList : ∀ (vs l : List Value) (o : Nat),(patch l.toArray o vs) = (putL l o vs).toArray
 | [],_,_ => rfl
 | v :: vs,l,o => by simp only [patch,putL,List.setIfInBounds_toArray,patch_toList vs]
theorem Blk.wr {h : Heap} {b t : Nat} {l : List Value} (hb : Blk h b t l) (o : Nat) (vs : List Value) : Blk (wr h b o vs) b t (putL l o vs) := by
 unfold Blk at hb ⊢
 simp [AX.wr,Array.getElem?_modify,hb,wrObj,patch_toList]
theorem Blk.wrOk {h : Heap} {b t : Nat} {l : List Value} (hb : Blk h b t l) {o : Nat} {vs : List Value} (hl : o + vs.length ≤ l.length) (h1 : ∀ v ∈ vs,v.oneCell' = true) : wrOk h b o vs :=
 ⟨_,_,hb,by simpa using hl,h1⟩
theorem drw_lt {P : Program} {is : List I} {Q : Env → Heap → Prop} {σ : Env} {h : Heap} (H : wL P (some ⟨(· < h.size),h⟩) is 0 Q σ h) : drwW P is Q σ h := ⟨_,fun _ hb => hb,H⟩
theorem drt_lt {P : Program} {t : L} {Q : Env → Heap → Prop} {σ : Env} {h : Heap} (H : wT P (some ⟨(· < h.size),h⟩) t Q σ h) : drtW P t Q σ h := ⟨_,fun _ hb => hb,H⟩
theorem kp_ext {h0 h h' : Heap} (hs : h0.size ≤ h.size) (e : Ext h h') : kpOk (some ⟨(· < h0.size),h0⟩) h h' := fun b hb => e.at_ b (Nat.lt_of_lt_of_le hb hs)
theorem kp_push {h0 h : Heap} (hs : h0.size ≤ h.size) (o : Obj) : kpOk (some ⟨(· < h0.size),h0⟩) h (h.push o) := kp_ext hs ((Ext.refl h).push o)
theorem cells_agg (c : Array Value) : (Value.agg c).cells = c := rfl
theorem cells_int (k : IntKind) (n : Int) : (Value.int k n).cells = #[.int k n] := rfl
theorem cells_bool (b : Bool) : (Value.bool b).cells = #[.bool b] := rfl
theorem cells_string (s : ByteArray) : (Value.string s).cells = #[.string s] := rfl
theorem cells_slice (a : Option Addr) (n c : Nat) : (Value.slice a n c).cells = #[.slice a n c] := rfl
theorem cells_pointer (a : Option Addr) : (Value.pointer a).cells = #[.pointer a] := rfl
/-- h' is h but for block b. -/
structure Upd (b : Nat) (h h' : Heap) : Prop where
 size : h'.size = h.size
 ne : ∀ c,c ≠ b → h'[c]? = h[c]?
theorem Upd.blk {b : Nat} {h h' : Heap} (u : Upd b h h') {c t : Nat} {l : List Value} (B : Blk h c t l) (hc : c ≠ b) : Blk h' c t l := (u.ne c hc).trans B
theorem Upd.ext {b : Nat} {a h h' : Heap} (u : Upd b h h') (e : Ext a h) (hb : a.size ≤ b) : Ext a h' := ⟨by rw [u.size]; exact e.size,fun c hc => (u.ne c (by omega)).trans (e.at_ c hc)⟩
theorem Upd.of_wr (h : Heap) (b o : Nat) (vs : List Value) : Upd b h (wr h b o vs) := ⟨wr_size h b o vs,fun _ hc => wr_other hc⟩
section
variable {P : Program} {C : Env → Heap → Prop} {σ : Env} {h h0 : Heap} {r : List I}
theorem wL_boxN {d t : Nat} {x : Operand} {v : Value} (hx : evO σ x = some v) (H : ∀ b h',Ext h h' → h'.size = h.size + 1 → b = h.size → Blk h' b t v.cells.toList → wL P none r 0 C ((d,ptr b 0) :: σ) h') :
  wL P none (.op (.box d t x) :: r) 0 C σ h := by
 rw [wL_box,hx,bd_some,kpOk_none,true_and]
 exact H _ _ ((Ext.refl h).push _) (by simp) rfl (Blk.new h t _)
theorem wL_newN {d t : Nat} {z : List Value} (H : ∀ b h',Ext h h' → h'.size = h.size + 1 → b = h.size → Blk h' b t z → wL P none r 0 C ((d,ptr b 0) :: σ) h') :
  wL P none (.op (.new d t z) :: r) 0 C σ h := by
 rw [wL_new,kpOk_none,true_and]
 exact H _ _ ((Ext.refl h).push _) (by simp) rfl (Blk.new h t _)
theorem wL_newD {d t : Nat} {z : List Value} (hs : h0.size ≤ h.size) (H : ∀ b h',Ext h h' → h'.size = h.size + 1 → b = h.size → Blk h' b t z → wL P (some ⟨(· < h0.size),h0⟩) r 0 C ((d,ptr b 0) :: σ) h') :
  wL P (some ⟨(· < h0.size),h0⟩) (.op (.new d t z) :: r) 0 C σ h := by
 rw [wL_new]
 exact ⟨kp_push hs _,H _ _ ((Ext.refl h).push _) (by simp) rfl (Blk.new h t _)⟩
theorem wL_bslN {d t n : Nat} {z cs : List Value} {parts : List (Nat × Nat × Operand)} (hx : fillL σ z parts = some cs) (H : ∀ b h',Ext h h' → h'.size = h.size + 1 → b = h.size → Blk h' b t cs → wL P none r 0 C ((d,sl b 0 n n) :: σ) h') :
  wL P none (.op (.bsl d t n z parts) :: r) 0 C σ h := by
 rw [wL_bsl,hx,bd_some,kpOk_none,true_and]
 exact H _ _ ((Ext.refl h).push _) (by simp) rfl (Blk.new h t _)
theorem wL_bslD {d t n : Nat} {z cs : List Value} {parts : List (Nat × Nat × Operand)} (hx : fillL σ z parts = some cs) (hs : h0.size ≤ h.size) (H : ∀ b h',Ext h h' → h'.size = h.size + 1 → b = h.size → Blk h' b t cs → wL P (some ⟨(· < h0.size),h0⟩) r 0 C ((d,sl b 0 n n) :: σ) h') :
  wL P (some ⟨(· < h0.size),h0⟩) (.op (.bsl d t n z parts) :: r) 0 C σ h := by
 rw [wL_bsl,hx,bd_some]
 exact ⟨kp_push hs _,H _ _ ((Ext.refl h).push _) (by simp) rfl (Blk.new h t _)⟩
theorem wL_stN {n : Nat} {x v : Operand} {b o t : Nat} {u : Value} {l : List Value} (hx : evO σ x = some (ptr b o)) (hv : evO σ v = some u) (hn : u.cells.size = n) (B : Blk h b t l) (hl : o + n ≤ l.length) (h1 : ∀ v ∈ u.cells.toList,v.oneCell' = true)
  (H : ∀ h',Upd b h h' → Blk h' b t (putL l o u.cells.toList) → wL P none r 0 C σ h') : wL P none (.op (.st n x v) :: r) 0 C σ h := by
 rw [wL_st,hx,bd_some,asP_ptr,bd_some,hv,bd_some]
 exact ⟨hn,B.wrOk (by simp [hn]; exact hl) h1,trivial,H _ (Upd.of_wr h b o _) (B.wr o _)⟩
theorem wL_stD {p : Nat → Prop} {n : Nat} {x v : Operand} {b o t : Nat} {u : Value} {l : List Value} (hx : evO σ x = some (ptr b o)) (hv : evO σ v = some u) (hp : ¬ p b) (hn : u.cells.size = n) (B : Blk h b t l) (hl : o + n ≤ l.length) (h1 : ∀ v ∈ u.cells.toList,v.oneCell' = true)
  (H : ∀ h',Upd b h h' → Blk h' b t (putL l o u.cells.toList) → wL P (some ⟨p,h0⟩) r 0 C σ h') : wL P (some ⟨p,h0⟩) (.op (.st n x v) :: r) 0 C σ h := by
 rw [wL_st,hx,bd_some,asP_ptr,bd_some,hv,bd_some]
 exact ⟨hn,B.wrOk (by simp [hn]; exact hl) h1,fun c hc => wr_other (by rintro rfl; exact hp hc),H _ (Upd.of_wr h b o _) (B.wr o _)⟩
end
theorem loop_in {P : Program} {B : C} {id : Nat} {M : Env → Heap → Prop} {Q : X → Env → Heap → Prop} {σ : Env} {h : Heap} (Inv : Nat → Env → Heap → Prop) (n : Nat) (h0 : Inv n σ h)
  (H : ∀ n σ h,Inv n σ h → ∀ Q' : X → Env → Heap → Prop,(∀ n' σ' h',n' < n → Inv n' σ' h' → Q' .normal σ' h') → (∀ σ' h',M σ' h' → Q' (.exit id) σ' h') → (∀ σ' h',Q .ret σ' h' → Q' .ret σ' h') →
   (∀ i σ' h',i ≠ id → Q (.exit i) σ' h' → Q' (.exit i) σ' h') → wC P B Q' σ h) :
  loopW (wC P B) (X.inBlock id (X.then M Q)) σ h := by
 refine ⟨Inv,n,h0,fun n σ h hI => H n σ h hI _ ?_ ?_ ?_ ?_⟩
 ·intro n' σ' h' hn hI'; exact ⟨n',hn,hI'⟩
 ·intro σ' h' hM; show (if id = id then M σ' h' else _); rw [if_pos rfl]; exact hM
 ·intro σ' h' hq; exact hq
 ·intro i σ' h' hi hq
  show (if i = id then M σ' h' else Q (.exit i) σ' h')
  rw [if_neg hi]; exact hq
set_option linter.defProp false in
/-- Lemmas of the library that every step uses. -/
def AXB := And.intro @cond_true.{1} <|
 And.intro @cond_false.{1} <|
 And.intro @eq_self.{1} <|
 And.intro @List.take_succ_cons.{0} <|
 And.intro @List.take_zero.{0} <|
 And.intro @List.drop_succ_cons.{0} <|
 And.intro @List.drop_zero.{0} <|
 And.intro @Option.bind_some.{0,0} <|
 And.intro @Option.map_some.{0,0} <|
 And.intro @List.length_cons.{0} <|
 And.intro @List.length_nil.{0} <|
 And.intro @List.getElem?_cons_zero.{0} <|
 And.intro @List.getElem?_cons_succ.{0} <|
 And.intro @List.size_toArray.{0} <|
 And.intro @Int.toNat_natCast <|
 And.intro @Bool.not_true <|
 And.intro @Bool.not_false <|
 And.intro @true_and <|
 And.intro @and_true <|
 And.intro @beq_self_eq_true.{0} <|
 And.intro @bne_self_eq_false.{0} <|
 And.intro @cells_agg <|
 And.intro @cells_int <|
 And.intro @cells_bool <|
 And.intro @cells_string <|
 And.intro @cells_slice <|
 And.intro @cells_pointer <|
 And.intro @List.getElem_toArray.{0} <|
 And.intro @List.getElem_cons_zero.{0} <|
 And.intro @List.getElem_cons_succ.{0} <|
 And.intro @List.getElem?_toArray.{0} <|
 And.intro @List.set_cons_zero.{0} <|
 And.intro @List.set_cons_succ.{0} <|
 @List.length_set.{0}
end Go.AX
namespace Go.AX
open Go
/-- From place o of block b on lie these cells. -/
def Row (h : Heap) (b o : Nat) (l : List Value) : Prop := ∀ j,j < l.length → cel h b (o + j) = l[j]?
theorem Row.nil (h : Heap) (b o : Nat) : Row h b o [] := fun j hj => by simp at hj
theorem rd_eq {h : Heap} {b : Nat} : ∀ (n o : Nat) (l : List Value),l.length = n → Row h b o l → rd h b o n = some l
 | 0,o,l,hl,_ => by
  have : l = [] := List.eq_nil_of_length_eq_zero hl
  subst this; rfl
 | n + 1,o,[],hl,_ => by simp at hl
 | n + 1,o,v :: l,hl,r => by
  have h0 : AX.cel h b o = some v := by simpa using r 0 (by simp)
  have ih := rd_eq n (o + 1) l (by simpa using hl) (fun j hj => by
   have := r (j + 1) (by simpa using hj)
   rw [show o + 1 + j = o + (j + 1) by omega,this]; simp)
  simp [AX.rd,h0,ih]
theorem Row.sub {h : Heap} {b o : Nat} {l : List Value} (r : Row h b o l) (j m : Nat) : Row h b (o + j) ((l.drop j).take m) := fun k hk => by
 simp only [List.length_take,List.length_drop] at hk
 have hk1 : k < m := by omega
 rw [Nat.add_assoc,r (j + k) (by omega),List.getElem?_take,if_pos hk1,List.getElem?_drop]
theorem Row.rd {h : Heap} {b o : Nat} {l : List Value} (r : Row h b o l) (j m : Nat) (hj : j + m ≤ l.length) : rd h b (o + j) m = some ((l.drop j).take m) :=
 rd_eq m (o + j) _ (by simp; omega) (r.sub j m)
theorem Row.rd0 {h : Heap} {b o : Nat} {l : List Value} (r : Row h b o l) (m : Nat) (hj : m ≤ l.length) : AX.rd h b o m = some (l.take m) := by
 have := r.rd 0 m (by omega); simpa using this
theorem Row.at_ {h h' : Heap} {b o : Nat} {l : List Value} (r : Row h b o l) (hb : h'[b]? = h[b]?) : Row h' b o l := fun j hj => (cel_at hb (o + j)).trans (r j hj)
theorem Row.lt {h : Heap} {b o : Nat} {l : List Value} (r : Row h b o l) (hl : 0 < l.length) : b < h.size := by
 have := r 0 hl
 rw [List.getElem?_eq_getElem hl] at this
 exact cel_lt this
theorem Row.ext {h h' : Heap} {b o : Nat} {l : List Value} (r : Row h b o l) (e : Ext h h') : Row h' b o l := by
 by_cases hl : 0 < l.length
 ·exact r.at_ (e.at_ b (r.lt hl))
 ·have : l = [] := List.eq_nil_of_length_eq_zero (by omega)
  subst this; exact Row.nil _ _ _
theorem Blk.row {h : Heap} {b t : Nat} {l : List Value} (B : Blk h b t l) : Row h b 0 l := fun j _ => by rw [Nat.zero_add,B.cel]
theorem Blk.rd {h : Heap} {b t : Nat} {l : List Value} (B : Blk h b t l) (o m : Nat) (hj : o + m ≤ l.length) : AX.rd h b o m = some ((l.drop o).take m) := by
 have := B.row.rd o m hj; simpa using this
theorem Row.append {h : Heap} {b o : Nat} {l m : List Value} (r : Row h b o l) (s : Row h b (o + l.length) m) : Row h b o (l ++ m) := fun j hj => by
 by_cases hlt : j < l.length
 ·rw [r j hlt,List.getElem?_append_left hlt]
 ·rw [List.length_append] at hj
  have := s (j - l.length) (by omega)
  rw [show o + j = o + l.length + (j - l.length) by omega,this,List.getElem?_append_right (by omega)]
/-- h' is h but for new blocks and for block row, if that is named. -/
structure Gr (row : Option Nat) (h h' : Heap) : Prop where
 size : h.size ≤ h'.size
 at_ : ∀ k,k < h.size → some k ≠ row → h'[k]? = h[k]?
def ob (a : Option Addr) : Option Nat := a.map (·.block)
theorem Gr.ext {row : Option Nat} {a h h' : Heap} (g : Gr row h h') (e : Ext a h) (hr : ∀ k,row = some k → a.size ≤ k) : Ext a h' :=
 ⟨Nat.le_trans e.size g.size,fun b hb => (g.at_ b (Nat.lt_of_lt_of_le hb e.size) (fun he => by have := hr b he.symm; omega)).trans (e.at_ b hb)⟩
theorem Gr.row {row : Option Nat} {h h' : Heap} (g : Gr row h h') {b o : Nat} {l : List Value} (r : Row h b o l) (hb : some b ≠ row) : Row h' b o l := by
 by_cases hl : 0 < l.length
 ·exact r.at_ (g.at_ b (r.lt hl) hb)
 ·have : l = [] := List.eq_nil_of_length_eq_zero (by omega)
  subst this; exact Row.nil _ _ _
theorem Gr.blk {row : Option Nat} {h h' : Heap} (g : Gr row h h') {b t : Nat} {l : List Value} (B : Blk h b t l) (hb : some b ≠ row) : Blk h' b t l := (g.at_ b B.lt hb).trans B
theorem Ext.gr {h h' : Heap} (e : Ext h h') (row : Option Nat) : Gr row h h' := ⟨e.size,fun k hk _ => e.at_ k hk⟩
theorem Upd.gr {b : Nat} {h h' : Heap} (u : Upd b h h') : Gr (some b) h h' := ⟨by rw [u.size]; exact Nat.le_refl _,fun k _ hk => u.ne k (fun e => hk (by rw [e]))⟩
theorem Gr.trans {row : Option Nat} {a b c : Heap} (g : Gr row a b) (k : Gr row b c) : Gr row a c := ⟨Nat.le_trans g.size k.size,fun i hi hr => (k.at_ i (Nat.lt_of_lt_of_le hi g.size) hr).trans (g.at_ i hi hr)⟩
/-- A slice (address a, n elements of s cells of type e, capacity c) that owns its row: these cells; its block is one from lo on. -/
def Own (lo : Nat) (h : Heap) (e s : Nat) (a : Option Addr) (n c : Nat) (xs : List Value) : Prop :=
 xs.length = n * s ∧ ((a = none ∧ n = 0 ∧ c = 0) ∨
  ∃ g cur,a = some ⟨g,0,none⟩ ∧ lo ≤ g ∧ h[g]? = some (.cells cur e (0,0)) ∧ n ≤ c ∧ c ≤ maxLen ∧ cur.size = c * s ∧ cur.toList.take (n * s) = xs)
theorem Own.nil (lo : Nat) (h : Heap) (e s : Nat) : Own lo h e s none 0 0 [] := ⟨by simp,.inl ⟨rfl,rfl,rfl⟩⟩
theorem Own.mono {lo lo' : Nat} {h : Heap} {e s : Nat} {a : Option Addr} {n c : Nat} {xs : List Value} (o : Own lo h e s a n c xs) (hl : lo' ≤ lo) : Own lo' h e s a n c xs := by
 refine ⟨o.1,o.2.imp id ?_⟩
 rintro ⟨g,cur,h1,h2,h3⟩
 exact ⟨g,cur,h1,Nat.le_trans hl h2,h3⟩
theorem Own.ob {lo : Nat} {h : Heap} {e s : Nat} {a : Option Addr} {n c : Nat} {xs : List Value} (o : Own lo h e s a n c xs) : ∀ k,ob a = some k → lo ≤ k ∧ k < h.size := by
 intro k hk
 rcases o.2 with ⟨rfl,_⟩ | ⟨g,cur,rfl,h1,h2,_⟩
 ·cases hk
 ·cases hk
  refine ⟨h1,?_⟩
  rcases Nat.lt_or_ge g h.size with hl | hl
  ·exact hl
  ·rw [Array.getElem?_eq_none hl] at h2; cases h2
theorem Own.gr {lo : Nat} {h h' : Heap} {e s : Nat} {a : Option Addr} {n c : Nat} {xs : List Value} (o : Own lo h e s a n c xs) {row : Option Nat} (g : Gr row h h') (hr : ∀ k,AX.ob a = some k → row ≠ some k) : Own lo h' e s a n c xs := by
 have hob := o.ob
 refine ⟨o.1,o.2.imp id ?_⟩
 rintro ⟨b,cur,rfl,h1,h2,h3⟩
 exact ⟨b,cur,rfl,h1,by rw [g.at_ b (hob b rfl).2 (fun e => hr b rfl e.symm)]; exact h2,h3⟩
theorem Own.ext {lo : Nat} {h h' : Heap} {e s : Nat} {a : Option Addr} {n c : Nat} {xs : List Value} (o : Own lo h e s a n c xs) (x : Ext h h') : Own lo h' e s a n c xs := o.gr (x.gr none) (fun _ _ h => by cases h)
/-- Where it is not empty, it has an address, and its cells lie there. -/
theorem Own.row {lo : Nat} {h : Heap} {e s : Nat} {a : Option Addr} {n c : Nat} {xs : List Value} (o : Own lo h e s a n c xs) (hn : 0 < n) : ∃ g,a = some ⟨g,0,none⟩ ∧ lo ≤ g ∧ Row h g 0 xs := by
 rcases o.2 with ⟨_,h0,_⟩ | ⟨g,cur,rfl,h1,h2,h3,h4,h5,h6⟩
 ·omega
 ·refine ⟨g,rfl,h1,fun j hj => ?_⟩
  rw [← h6] at hj ⊢
  simp only [List.length_take] at hj
  rw [List.getElem?_take,if_pos (by omega)]
  simp [AX.cel,h2]
theorem own_iff (w : World) (lo e s : Nat) (a : Option Addr) (n c : Nat) (xs : List Value) (h : Own lo w.heap e s a n c xs) : w.ownsRow lo e s (.slice a n c) n xs := by
 refine ⟨h.1,?_⟩
 rcases h.2 with ⟨rfl,rfl,rfl⟩ | ⟨g,cur,rfl,h1,h2,h3⟩
 ·exact .inl ⟨rfl,rfl⟩
 ·exact .inr ⟨g,c,cur,rfl,h1,h2,h3⟩
theorem own_of (w : World) (lo e s : Nat) (v : Value) (n : Nat) (xs : List Value) (h : w.ownsRow lo e s v n xs) : ∃ a c,v = .slice a n c ∧ Own lo w.heap e s a n c xs := by
 rcases h.2 with ⟨rfl,rfl⟩ | ⟨g,c,cur,rfl,h1,h2,h3⟩
 ·exact ⟨none,0,rfl,h.1,.inl ⟨rfl,rfl,rfl⟩⟩
 ·exact ⟨_,c,rfl,h.1,.inr ⟨g,cur,rfl,h1,h2,h3⟩⟩
/-- t is a slice type over e, whose elements have s cells, bytes bytes. -/
def slT (P : Program) (t e s bytes : Nat) : Bool :=
 match P.underlying t,P.info? e with
 | some (.slice e'),some i => e' == e && i.size == s && i.bytes == bytes && (match i.zero with | some z => z.cells.size == s | none => false) && decide (0 < s)
 | _,_ => false
theorem slT_spec {P : Program} {t e s bytes : Nat} (h : slT P t e s bytes = true) :
  ∃ i z,P.underlying t = some (.slice e) ∧ P.info? e = some i ∧ i.zero = some z ∧ i.size = s ∧ i.bytes = bytes ∧ z.cells.size = s ∧ 0 < s := by
 unfold slT at h
 split at h
 ·rename_i e' i hu hi
  simp only [Bool.and_eq_true,beq_iff_eq,decide_eq_true_eq] at h
  obtain ⟨⟨⟨⟨rfl,h2⟩,h3⟩,h4⟩,h5⟩ := h
  split at h4
  ·rename_i z hz
   exact ⟨i,z,hu,hi,hz,h2,h3,by simpa using h4,h5⟩
  ·cases h4
 ·cases h
/-- 'append(x, y...)', x a slice of the call's own, y any slice that reads as these cells. -/
theorem raw_append {P : Program} {o : Oper} {σ : Env} {h : Heap} {K : Value → Heap → Prop} {x y : Operand} {t e s bytes : Nat} (hT : slT P t e s bytes = true)
  (ho : o.op = .call ⟨.builtin .append, #[x,y], #[t,t]⟩) {a a2 : Option Addr} {n c n2 c2 lo : Nat} {xs news : List Value}
  (hx : evO σ x = some (.slice a n c)) (hy : evO σ y = some (.slice a2 n2 c2)) (O : Own lo h e s a n c xs) (hl : news.length = n2 * s)
  (hr : n2 = 0 ∨ ∃ b q,a2 = some ⟨b,q,none⟩ ∧ Row h b q news) (h1 : ∀ v ∈ news,v.oneCell' = true) (hlen : n + n2 ≤ maxLen) (hb : (n + n2) * bytes ≤ 140737488355328) (hlo : lo ≤ h.size)
  (H : ∀ a' c' h',Own lo h' e s a' (n + n2) c' (xs ++ news) → Gr (ob a) h h' → (ob a' = ob a ∨ ∃ k,ob a' = some k ∧ h.size ≤ k) → K (.slice a' (n + n2) c') h') : RawW P o σ h K := by
 obtain ⟨i,z,hu,hi,hz,hs,hby,hzs,hsp⟩ := slT_spec hT
 refine ⟨?_,?_,?_⟩
 ·rw [ho]; intro u hu'
  simp only [Op.operands,Call.operands,Array.mem_append,List.mem_toArray,List.mem_cons,List.not_mem_nil,or_false,false_or] at hu'
  rcases hu' with rfl | rfl
  ·rw [hx]; rfl
  ·rw [hy]; rfl
 ·rw [ho]; intro cs b hh; cases hh
 ·intro w hw
  subst hw
  have hown := own_iff w lo e s a n c xs O
  have key : ∃ v' w',(Builtin.append_ #[t,t] o.type #[.slice a n c,.slice a2 n2 c2]).run P w = .ok v' w' ∧ w'.ownsRow lo e s v' (n + n2) (xs ++ news) ∧ w.grownBy w' (Value.slice a n c).ownBlock ∧ (v'.ownBlock = (Value.slice a n c).ownBlock ∨ v'.ownBlock = some w.heap.size) := by
   rcases hr with rfl | ⟨b,q,rfl,r⟩
   ·have hn : news = [] := List.eq_nil_of_length_eq_zero (by simpa using hl)
    subst hn
    cases a2 with
    | some ad =>
     obtain ⟨v',w',h1,h2,h3,_,h5⟩ := run_append_own_at (P := P) w lo t o.type e i z s bytes hu hi hz hs hby hzs hsp _ n xs hown ad 0 c2 [] (by simp) (fun j u hj => by simp at hj) h1 hlen hb hlo
     exact ⟨v',w',h1,h2,h3,h5⟩
    | none =>
     refine ⟨.slice a n c,w,?_,by simpa using hown,World.grownBy.refl w _,.inl rfl⟩
     have hnc : n ≤ c := by
      rcases O.2 with ⟨_,h1,h2⟩ | ⟨g,cur,_,_,_,h1,_⟩ <;> omega
     cases a with
     | none => simp [Builtin.append_,run_underlying hu,sizeOf,typeInfo,hi,Builtin.lenOf,Builtin.firstCells,hnc]
     | some ad => simp [Builtin.append_,run_underlying hu,sizeOf,typeInfo,hi,Builtin.lenOf,Builtin.firstCells,hnc,storeCells]
   ·obtain ⟨v',w',h1,h2,h3,_,h5⟩ := run_append_own_at (P := P) w lo t o.type e i z s bytes hu hi hz hs hby hzs hsp _ n xs hown ⟨b,q,none⟩ n2 c2 news hl (fun j u hj => by
     have hjl : j < news.length := by
      rcases Nat.lt_or_ge j news.length with hlt | hlt
      ·exact hlt
      ·rw [List.getElem?_eq_none hlt] at hj; cases hj
     rw [add_mk,cel_cell,r j hjl]; exact hj) h1 hlen hb hlo
    exact ⟨v',w',h1,h2,h3,h5⟩
  obtain ⟨v',w',hrun,hown',hg,hat⟩ := key
  obtain ⟨a',c',rfl,O'⟩ := own_of w' lo e s v' (n + n2) (xs ++ news) hown'
  have hobs : (Value.slice a n c).ownBlock = ob a := by cases a <;> rfl
  have hg' : Gr (ob a) w.heap w'.heap := ⟨hg.size,fun k hk hne => hg.block k hk (by rw [hobs]; exact hne)⟩
  refine ⟨.value (.slice a' (n + n2) c'),_,w',?_,rfl,⟨hg.os,hg.tape,hg.output⟩,H a' c' w'.heap O' hg' ?_⟩
  ·simp only [execOp,ho,resolve,invoke,builtin,Sem.run_bind,Sem.run_pure,Result.andThen_ok,List.map_toArray,List.map_cons,List.map_nil,hx,hy,Option.getD_some,hrun]
  ·have hob' : (Value.slice a' (n + n2) c').ownBlock = ob a' := by cases a' <;> rfl
   rw [hob',hobs] at hat
   rcases hat with e | e
   ·exact .inl e
   ·exact .inr ⟨_,e,Nat.le_refl _⟩
end Go.AX
namespace Go.AX
open Go
structure Stamp where
 wall : Int
 tie : Int
structure Try4 where
 node : Int
 life : Int
 seq : Int
 attempt : Int
structure Ver where
 at_ : Stamp
 drop : Bool
 data : ByteArray
structure Lck where
 by_ : Try4
 home : Int
 at_ : Stamp
 drop : Bool
 data : ByteArray
structure Cell where
 key : ByteArray
 vers : List Ver
 locked : Bool
 lock : Lck
structure Wri where
 key : ByteArray
 drop : Bool
 data : ByteArray
structure Spn where
 lo : ByteArray
 hi : ByteArray
structure Pai where
 key : ByteArray
 data : ByteArray
deriving instance Inhabited for Stamp,Try4
instance : Inhabited ByteArray := ⟨⟨#[]⟩⟩
deriving instance Inhabited for Ver,Lck,Cell,Wri,Spn,Pai
deriving instance DecidableEq for Stamp,Try4
def eStamp (s : Stamp) : List Value := [vi s.wall,vi s.tie]
def eTry (t : Try4) : List Value := [vi t.node,vi t.life,vi t.seq,vi t.attempt]
def eVer (v : Ver) : List Value := [vi v.at_.wall,vi v.at_.tie,.bool v.drop,.string v.data]
def eLck (l : Lck) : List Value := [vi l.by_.node,vi l.by_.life,vi l.by_.seq,vi l.by_.attempt,vi l.home,vi l.at_.wall,vi l.at_.tie,.bool l.drop,.string l.data]
def eWri (w : Wri) : List Value := [.string w.key,.bool w.drop,.string w.data]
def eSpn (s : Spn) : List Value := [.string s.lo,.string s.hi]
def ePai (p : Pai) : List Value := [.string p.key,.string p.data]
def noLock : Lck := ⟨⟨0,0,0,0⟩,0,⟨0,0⟩,false,⟨#[]⟩⟩
/-- A cell as it lies in memory: its versions are elsewhere. -/
structure CV where
 key : ByteArray
 va : Option Addr
 vn : Nat
 vc : Nat
 locked : Bool
 lock : Lck
def eCV (c : CV) : List Value := [.string c.key,.slice c.va c.vn c.vc,.bool c.locked,vi c.lock.by_.node,vi c.lock.by_.life,vi c.lock.by_.seq,vi c.lock.by_.attempt,vi c.lock.home,vi c.lock.at_.wall,vi c.lock.at_.tie,.bool c.lock.drop,.string c.lock.data]
theorem eVer_len (s : Ver) : (eVer s).length = 4 := rfl
theorem eWri_len (s : Wri) : (eWri s).length = 3 := rfl
theorem eSpn_len (s : Spn) : (eSpn s).length = 2 := rfl
theorem ePai_len (s : Pai) : (ePai s).length = 2 := rfl
theorem eCV_len (s : CV) : (eCV s).length = 12 := rfl
theorem eVer_one (x : Ver) : ∀ v ∈ eVer x,v.oneCell' = true := by
 intro v hv; simp only [eVer,List.mem_cons,List.not_mem_nil,or_false] at hv
 rcases hv with rfl | rfl | rfl | rfl <;> rfl
theorem eCV_one (x : CV) : ∀ v ∈ eCV x,v.oneCell' = true := by
 intro v hv; simp only [eCV,List.mem_cons,List.not_mem_nil,or_false] at hv
 rcases hv with rfl | rfl | rfl | rfl | rfl | rfl | rfl | rfl | rfl | rfl | rfl | rfl <;> rfl
theorem ePai_one (x : Pai) : ∀ v ∈ ePai x,v.oneCell' = true := by
 intro v hv; simp only [ePai,List.mem_cons,List.not_mem_nil,or_false] at hv
 rcases hv with rfl | rfl <;> rfl
theorem one_flatMap {α : Type} {e : α → List Value} (he : ∀ x, ∀ v ∈ e x,v.oneCell' = true) (ds : List α) : ∀ v ∈ ds.flatMap e,v.oneCell' = true := by
 intro v hv
 obtain ⟨x,_,hx⟩ := List.mem_flatMap.1 hv
 exact he x v hx
theorem flatMap_length {α : Type} {e : α → List Value} {s : Nat} (he : ∀ x,(e x).length = s) : ∀ ds : List α,(ds.flatMap e).length = ds.length * s
 | [] => by simp
 | d :: ds => by simp [flatMap_length he ds,he,Nat.add_mul,Nat.add_comm]
theorem flatMap_at {α : Type} {e : α → List Value} {s : Nat} (he : ∀ x,(e x).length = s) : ∀ (ds : List α) (i : Nat) (d : α),ds[i]? = some d → ((ds.flatMap e).drop (i * s)).take s = e d
 | [],i,d,h => by simp at h
 | x :: ds,0,d,h => by
  simp at h; subst h
  simp [List.take_append_of_le_length,he,List.take_of_length_le]
 | x :: ds,i + 1,d,h => by
  have := flatMap_at he ds i d (by simpa using h)
  rw [← this]
  simp only [List.flatMap_cons]
  rw [show (i + 1) * s = s + i * s by rw [Nat.add_mul]; omega,← List.drop_drop,List.drop_append_of_le_length (by rw [he]; exact Nat.le_refl _)]
  congr 2
  rw [List.drop_of_length_le (by rw [he]; exact Nat.le_refl _),List.nil_append]
/-- A slice at a reads as these data; its block is one of B. -/
def SlF {α : Type} (B : Nat → Prop) (h : Heap) (e : α → List Value) (a : Option Addr) (ds : List α) : Prop :=
 ds ≠ [] → ∃ b o,a = some ⟨b,o,none⟩ ∧ B b ∧ Row h b o (ds.flatMap e)
section
variable {α : Type} {B B' : Nat → Prop} {h h' : Heap} {e : α → List Value} {a : Option Addr} {ds : List α}
theorem SlF.nil : SlF B h e a ([] : List α) := fun h => absurd rfl h
theorem SlF.imp (S : SlF B h e a ds) (hB : ∀ b,B b → B' b) : SlF B' h e a ds := fun hn => let ⟨b,o,h1,h2,h3⟩ := S hn; ⟨b,o,h1,hB b h2,h3⟩
theorem SlF.at_ (S : SlF B h e a ds) (hB : ∀ b,B b → h'[b]? = h[b]?) : SlF B h' e a ds := fun hn => let ⟨b,o,h1,h2,h3⟩ := S hn; ⟨b,o,h1,h2,h3.at_ (hB b h2)⟩
theorem SlF.ext (S : SlF B h e a ds) (x : Ext h h') : SlF B h' e a ds := fun hn => let ⟨b,o,h1,h2,h3⟩ := S hn; ⟨b,o,h1,h2,h3.ext x⟩
theorem SlF.elem (S : SlF B h e a ds) {s : Nat} (he : ∀ x,(e x).length = s) {i : Nat} {d : α} (hi : ds[i]? = some d) : ∃ b o,a = some ⟨b,o,none⟩ ∧ B b ∧ Row h b (o + i * s) (e d) := by
 obtain ⟨b,o,h1,h2,h3⟩ := S (by rintro rfl; simp at hi)
 refine ⟨b,o,h1,h2,?_⟩
 have := h3.sub (i * s) s
 rwa [flatMap_at he ds i d hi] at this
theorem SlF.of_own {lo t s n c : Nat} (O : Own lo h t s a n c (ds.flatMap e)) (hn : n = ds.length) : SlF (fun b => lo ≤ b ∧ b < h.size ∧ ob a = some b) h e a ds := by
 intro hne
 have hpos : 0 < n := by rw [hn]; exact List.length_pos_iff.2 hne
 obtain ⟨g,rfl,h1,h2⟩ := O.row hpos
 exact ⟨g,0,rfl,⟨h1,(O.ob g rfl).2,rfl⟩,h2⟩
end
theorem row_ver {h : Heap} {b o : Nat} {v : Ver} (r : Row h b o (eVer v)) : rd h b o 4 = some (eVer v) ∧ rd h b (o + 0) 2 = some (eStamp v.at_) ∧ cel h b (o + 2) = some (.bool v.drop) ∧ cel h b (o + 3) = some (.string v.data) :=
 ⟨r.rd0 4 (Nat.le_refl _),r.rd 0 2 (by rw [eVer_len]; omega),r 2 (by rw [eVer_len]; omega),r 3 (by rw [eVer_len]; omega)⟩
theorem row_cv {h : Heap} {b o : Nat} {v : CV} (r : Row h b o (eCV v)) : rd h b o 12 = some (eCV v) ∧ cel h b (o + 0) = some (.string v.key) ∧ cel h b (o + 1) = some (.slice v.va v.vn v.vc) ∧ cel h b (o + 2) = some (.bool v.locked) ∧
  rd h b (o + 3) 9 = some (eLck v.lock) ∧ rd h b (o + 3 + 0) 4 = some (eTry v.lock.by_) ∧ rd h b (o + 3 + 5) 2 = some (eStamp v.lock.at_) ∧ cel h b (o + 3 + 7) = some (.bool v.lock.drop) ∧ cel h b (o + 3 + 8) = some (.string v.lock.data) :=
 ⟨r.rd0 12 (Nat.le_refl _),r 0 (by rw [eCV_len]; omega),r 1 (by rw [eCV_len]; omega),r 2 (by rw [eCV_len]; omega),r.rd 3 9 (by rw [eCV_len]; omega),r.rd 3 4 (by rw [eCV_len]; omega),r.rd 8 2 (by rw [eCV_len]; omega),
  r 10 (by rw [eCV_len]; omega),r 11 (by rw [eCV_len]; omega)⟩
/-- The cell c lies as v, its versions in a block of B. -/
structure CR (B : Nat → Prop) (h : Heap) (v : CV) (c : Cell) : Prop where
 key : v.key = c.key
 locked : v.locked = c.locked
 lock : v.lock = c.lock
 vn : v.vn = c.vers.length
 cap : v.vn ≤ v.vc
 vers : SlF B h eVer v.va c.vers
theorem CR.imp {B B' : Nat → Prop} {h : Heap} {v : CV} {c : Cell} (r : CR B h v c) (hB : ∀ b,B b → B' b) : CR B' h v c := ⟨r.key,r.locked,r.lock,r.vn,r.cap,r.vers.imp hB⟩
theorem CR.at_ {B : Nat → Prop} {h h' : Heap} {v : CV} {c : Cell} (r : CR B h v c) (hB : ∀ b,B b → h'[b]? = h[b]?) : CR B h' v c := ⟨r.key,r.locked,r.lock,r.vn,r.cap,r.vers.at_ hB⟩
theorem CR.ext {B : Nat → Prop} {h h' : Heap} {v : CV} {c : Cell} (r : CR B h v c) (x : Ext h h') : CR B h' v c := ⟨r.key,r.locked,r.lock,r.vn,r.cap,r.vers.ext x⟩
theorem All2.get {α β : Type} {R : α → β → Prop} : ∀ {l : List α} {m : List β},All2 R l m → ∀ {i : Nat} {b : β},m[i]? = some b → ∃ a,l[i]? = some a ∧ R a b
 | _,_,.nil,i,b,h => by simp at h
 | _,_,.cons (a := a) r t,0,b,h => by simp at h; subst h; exact ⟨a,rfl,r⟩
 | _,_,.cons r t,i + 1,b,h => by obtain ⟨a,h1,h2⟩ := t.get (i := i) (by simpa using h); exact ⟨a,by simpa using h1,h2⟩
theorem All2.length {α β : Type} {R : α → β → Prop} : ∀ {l : List α} {m : List β},All2 R l m → l.length = m.length
 | _,_,.nil => rfl
 | _,_,.cons _ t => by simp [t.length]
theorem All2.append {α β : Type} {R : α → β → Prop} : ∀ {l : List α} {m : List β} {l' : List α} {m' : List β},All2 R l m → All2 R l' m' → All2 R (l ++ l') (m ++ m')
 | _,_,_,_,.nil,u => u
 | _,_,_,_,.cons r t,u => .cons r (t.append u)
/-- A slice of cells: its row's block is one of B, the versions' are. -/
def SlC (B : Nat → Prop) (h : Heap) (a : Option Addr) (cs : List Cell) : Prop := ∃ vs : List CV,All2 (CR B h) vs cs ∧ SlF B h eCV a vs
section
variable {B B' : Nat → Prop} {h h' : Heap} {a : Option Addr} {cs : List Cell}
theorem SlC.nil : SlC B h a [] := ⟨[],.nil,.nil⟩
theorem SlC.imp (S : SlC B h a cs) (hB : ∀ b,B b → B' b) : SlC B' h a cs := let ⟨vs,h1,h2⟩ := S; ⟨vs,h1.imp fun _ _ r => r.imp hB,h2.imp hB⟩
theorem SlC.at_ (S : SlC B h a cs) (hB : ∀ b,B b → h'[b]? = h[b]?) : SlC B h' a cs := let ⟨vs,h1,h2⟩ := S; ⟨vs,h1.imp fun _ _ r => r.at_ hB,h2.at_ hB⟩
theorem SlC.ext (S : SlC B h a cs) (x : Ext h h') : SlC B h' a cs := let ⟨vs,h1,h2⟩ := S; ⟨vs,h1.imp fun _ _ r => r.ext x,h2.ext x⟩
theorem SlC.elem (S : SlC B h a cs) {i : Nat} {c : Cell} (hi : cs[i]? = some c) : ∃ b o v,a = some ⟨b,o,none⟩ ∧ B b ∧ Row h b (o + i * 12) (eCV v) ∧ CR B h v c := by
 obtain ⟨vs,h1,h2⟩ := S
 obtain ⟨v,hv,hr⟩ := h1.get hi
 obtain ⟨b,o,e1,e2,e3⟩ := h2.elem eCV_len hv
 exact ⟨b,o,v,e1,e2,e3,hr⟩
end
theorem raw_ext {P : Program} {o : Oper} {σ : Env} {h : Heap} {K : Value → Heap → Prop} {f : FuncId} {fn : Func} {args : Array Operand} {at_ : Array TypeId} {e : Array Value → Sem Value} {vs : List Value} {v : Value}
  (ho : o.op = .call ⟨.value (.func f), args, at_⟩) (hf : P.funcs[f]? = some fn) (hb : fn.body.isNone = true) (hn : (fn.name == "runtime.NumGoroutine") = false) (h1 : (Extern.findNext fn).isNone = true) (h2 : Extern.find fn = some e)
  (hvs : evOs σ args.toList = some vs) (hr : ∀ w : World,w.heap = h → (e vs.toArray).run P w = .ok v w) (hK : K v h) : RawW P o σ h K := by
 have hall : ∀ (xs : List Operand) (vs : List Value),evOs σ xs = some vs → (∀ x ∈ xs,(evO σ x).isSome = true) ∧ xs.map (fun x => (evO σ x).getD undef) = vs := by
  intro xs
  induction xs with
  | nil => intro vs h; cases h; simp
  | cons x xs ih =>
   intro vs h
   simp only [evOs,Option.bind_eq_some_iff,Option.map_eq_some_iff] at h
   obtain ⟨u,hu,us,hus,rfl⟩ := h
   obtain ⟨i1,i2⟩ := ih us hus
   refine ⟨?_,by simp [hu,i2]⟩
   intro y hy
   rcases List.mem_cons.1 hy with rfl | hy
   ·rw [hu]; rfl
   ·exact i1 y hy
 obtain ⟨a1,a2⟩ := hall _ _ hvs
 refine ⟨?_,?_,?_⟩
 ·rw [ho]; intro u hu
  simp only [Op.operands,Call.operands,Array.mem_append,List.mem_toArray,List.mem_cons,List.not_mem_nil,or_false] at hu
  rcases hu with rfl | hu
  ·rfl
  ·exact a1 u (by simpa using hu)
 ·rw [ho]; intro cs b hh; cases hh
 ·intro w hw
  have hargs : args.map (fun x => (evO σ x).getD undef) = vs.toArray := by apply Array.ext'; simpa using a2
  refine ⟨.value v,v,w,?_,rfl,Same.refl w,by rw [hw]; exact hK⟩
  have hfn : Extern.findNext fn = none := by simpa using h1
  have hb' : fn.body = none := by simpa using hb
  have hn' : fn.name ≠ "runtime.NumGoroutine" := by simpa using hn
  have hfv : (evO σ (.func f)).getD undef = .func (.func f) #[] #[] := rfl
  simp [execOp,ho,resolve,hfv,Deferred.ofValue,invoke,hargs,callFunc,hf,hb',hn',hfn,h2,hr w hw]
end Go.AX
namespace Go.AX
open Go
/-- One key ahead of another. -/
def klt (a b : ByteArray) : Bool := Op.bytesLess a.toList b.toList
theorem bl_irrefl : ∀ x : List UInt8,Op.bytesLess x x = false
 | [] => rfl
 | a :: x => by simp [Op.bytesLess,bl_irrefl x]
theorem bl_trans : ∀ x y z : List UInt8,Op.bytesLess x y = true → Op.bytesLess y z = true → Op.bytesLess x z = true
 | _,[],_,h,_ => by cases ‹List UInt8› <;> simp [Op.bytesLess] at h
 | _,_ :: _,[],_,h => by simp [Op.bytesLess] at h
 | [],_ :: _,_ :: _,_,_ => by simp [Op.bytesLess]
 | a :: x,b :: y,c :: z,h,k => by
  simp only [Op.bytesLess,Bool.or_eq_true,decide_eq_true_eq,Bool.and_eq_true,beq_iff_eq] at h k ⊢
  rcases h with h | ⟨rfl,h⟩
  ·rcases k with k | ⟨rfl,k⟩
   ·exact .inl (UInt8.lt_trans h k)
   ·exact .inl h
  ·rcases k with k | ⟨rfl,k⟩
   ·exact .inl k
   ·exact .inr ⟨rfl,bl_trans x y z h k⟩
theorem u8_tri (a b : UInt8) : a < b ∨ a = b ∨ b < a := by
 simp only [UInt8.lt_iff_toNat_lt,← UInt8.toNat_inj]; omega
theorem bl_total : ∀ x y : List UInt8,Op.bytesLess x y = true ∨ x = y ∨ Op.bytesLess y x = true
 | [],[] => .inr (.inl rfl)
 | [],_ :: _ => .inl rfl
 | _ :: _,[] => .inr (.inr rfl)
 | a :: x,b :: y => by
  simp only [Op.bytesLess,Bool.or_eq_true,decide_eq_true_eq,Bool.and_eq_true,beq_iff_eq,List.cons.injEq]
  rcases u8_tri a b with h | h | h
  ·exact .inl (.inl h)
  ·subst h
   rcases bl_total x y with k | k | k
   ·exact .inl (.inr ⟨rfl,k⟩)
   ·exact .inr (.inl ⟨rfl,k⟩)
   ·exact .inr (.inr (.inr ⟨rfl,k⟩))
  ·exact .inr (.inr (.inl h))
theorem toList_inj {a b : ByteArray} (h : a.toList = b.toList) : a = b := by
 rw [ByteArray.toList_eq,ByteArray.toList_eq] at h
 cases a; cases b
 congr 1
 exact Array.ext' h
theorem keq_iff (a b : ByteArray) : (a.toList == b.toList) = decide (a = b) := by
 by_cases h : a = b
 ·subst h; simp
 ·rw [decide_eq_false h,beq_eq_false_iff_ne]
  exact fun e => h (toList_inj e)
theorem klt_irrefl (a : ByteArray) : klt a a = false := bl_irrefl _
theorem klt_trans {a b c : ByteArray} (h : klt a b = true) (k : klt b c = true) : klt a c = true := bl_trans _ _ _ h k
theorem klt_total (a b : ByteArray) : klt a b = true ∨ a = b ∨ klt b a = true := by
 rcases bl_total a.toList b.toList with h | h | h
 ·exact .inl h
 ·exact .inr (.inl (toList_inj h))
 ·exact .inr (.inr h)
theorem klt_asymm {a b : ByteArray} (h : klt a b = true) : klt b a = false := by
 cases hb : klt b a with
 | false => rfl
 | true => have := klt_trans h hb; rw [klt_irrefl] at this; cases this
theorem klt_ne {a b : ByteArray} (h : klt a b = true) : a ≠ b := by rintro rfl; rw [klt_irrefl] at h; cases h
/-- not ahead: at or behind -/
theorem kle_iff (a b : ByteArray) : (klt a b || decide (a = b)) = !klt b a := by
 rcases klt_total a b with h | h | h
 ·rw [h,klt_asymm h]; rfl
 ·subst h; simp [klt_irrefl]
 ·rw [h,klt_asymm h]; simp [(klt_ne h).symm]
/-- What strings.Compare tells. -/
def kcmp (a b : ByteArray) : Int := if klt a b then -1 else if klt b a then 1 else 0
theorem cmp_kcmp : ∀ x y : List UInt8,Lib.compareBytes x y = if Op.bytesLess x y then -1 else if Op.bytesLess y x then 1 else 0
 | [],[] => rfl
 | [],_ :: _ => rfl
 | _ :: _,[] => rfl
 | a :: x,b :: y => by
  simp only [Lib.compareBytes,Op.bytesLess,cmp_kcmp x y]
  by_cases h : a < b
  ·simp [h]
  ·by_cases k : b < a
   ·have hne : a ≠ b := by rintro rfl; exact absurd k h
    simp [h,k,hne]
   ·have he : a = b := by
     rcases u8_tri a b with h' | h' | h'
     ·exact absurd h' h
     ·exact h'
     ·exact absurd h' k
    subst he
    simp [h]
def Stamp.lt (a b : Stamp) : Bool := decide (a.wall < b.wall) || (decide (a.wall = b.wall) && decide (a.tie < b.tie))
theorem Stamp.lt_iff (a b : Stamp) : Stamp.lt a b = true ↔ a.wall < b.wall ∨ (a.wall = b.wall ∧ a.tie < b.tie) := by simp [Stamp.lt]
theorem Stamp.ext_iff' (a b : Stamp) : a = b ↔ a.wall = b.wall ∧ a.tie = b.tie := by cases a; cases b; simp
theorem Stamp.lt_irrefl (a : Stamp) : Stamp.lt a a = false := by simp [Stamp.lt]
theorem Stamp.lt_trans {a b c : Stamp} (h : Stamp.lt a b = true) (k : Stamp.lt b c = true) : Stamp.lt a c = true := by
 rw [Stamp.lt_iff] at *; omega
theorem Stamp.lt_total (a b : Stamp) : Stamp.lt a b = true ∨ a = b ∨ Stamp.lt b a = true := by
 simp only [Stamp.lt_iff,Stamp.ext_iff']; omega
theorem Stamp.lt_asymm {a b : Stamp} (h : Stamp.lt a b = true) : Stamp.lt b a = false := by
 cases hb : Stamp.lt b a with
 | false => rfl
 | true => have := Stamp.lt_trans h hb; rw [Stamp.lt_irrefl] at this; cases this
def lastK (vs : List Ver) (t : Stamp) : Nat → Int
 | 0 => -1
 | k + 1 => if Stamp.lt t (vs.getD k default).at_ then lastK vs t k else k
/-- The place of the last version that is not above a stamp; -1: none. -/
def lastV (vs : List Ver) (t : Stamp) : Int := lastK vs t vs.length
theorem lastK_le (vs : List Ver) (t : Stamp) : ∀ k, -1 ≤ lastK vs t k ∧ lastK vs t k < k
 | 0 => by simp [lastK]
 | k + 1 => by
  have := lastK_le vs t k
  unfold lastK; split <;> omega
theorem lastV_le (vs : List Ver) (t : Stamp) : -1 ≤ lastV vs t ∧ lastV vs t < vs.length := lastK_le vs t _
def noB : ByteArray := ⟨#[]⟩
/-- What versions tell at a stamp. -/
def tellV (vs : List Ver) (t : Stamp) : ByteArray × Bool :=
 if lastV vs t < 0 then (noB,false) else
 let v := vs.getD (lastV vs t).toNat default
 if v.drop then (noB,false) else (v.data,true)
/-- The reference's loop: the last one in the list's order that is not above the stamp. -/
def ofK (vs : List Ver) (t : Stamp) : Nat → ByteArray × Bool
 | 0 => (noB,false)
 | k + 1 => let v := vs.getD k default; if Stamp.lt t v.at_ then ofK vs t k else (v.data, !v.drop)
def ofV (vs : List Ver) (t : Stamp) : ByteArray × Bool := let r := ofK vs t vs.length; if r.2 then r else (noB,false)
theorem ofK_eq (vs : List Ver) (t : Stamp) : ∀ k,(let r := ofK vs t k; if r.2 then r else (noB,false)) = (if lastK vs t k < 0 then (noB,false) else
  let v := vs.getD (lastK vs t k).toNat default
  if v.drop then (noB,false) else (v.data,true))
 | 0 => rfl
 | k + 1 => by
  unfold ofK lastK
  simp only
  split
  ·rename_i h; have := ofK_eq vs t k; simpa using this
  ·rw [if_neg (by omega : ¬ ((k : Nat) : Int) < 0)]
   simp only [Int.toNat_natCast]
   cases (vs.getD k default).drop <;> simp
theorem ofV_eq (vs : List Ver) (t : Stamp) : ofV vs t = tellV vs t := ofK_eq vs t _
/-- The keys rise. -/
def Sorted (cs : List Cell) : Prop := cs.Pairwise fun a b => klt a.key b.key = true
/-- The first place whose key is the key; -1: none. -/
def findK (cs : List Cell) (key : ByteArray) : Int := match cs.findIdx? (fun c => decide (c.key = key)) with | some i => i | none => -1
/-- How many keys are ahead. -/
def lbK (cs : List Cell) (key : ByteArray) : Nat := (cs.takeWhile fun c => klt c.key key).length
def hasK (cs : List Cell) (key : ByteArray) : Bool := match cs[lbK cs key]? with | some c => decide (c.key = key) | none => false
end Go.AX
namespace Go.AX
open Go
theorem slc_lo {sz b o n c l : Nat} {K : Value → Prop} (h1 : l ≤ n) (h2 : n ≤ c) (h3 : l < c) (H : K (.slice (some ⟨b,o + l * sz,none⟩) (n - l) (c - l))) : slcV sz (.slice (some ⟨b,o,none⟩) n c) (some (vi l)) none none K := by
 simp only [slcV,asI_int,bd_some,Int.toNat_natCast]
 refine ⟨by omega,by omega,by omega,by omega,?_⟩
 rw [if_neg (by omega),Option.map_some,add_mk]
 exact H
theorem slc_hi {sz b o n c u : Nat} {K : Value → Prop} (h2 : u ≤ c) (H : K (.slice (some ⟨b,o,none⟩) u c)) : slcV sz (.slice (some ⟨b,o,none⟩) n c) none (some (vi u)) none K := by
 simp only [slcV,asI_int,bd_some,Int.toNat_natCast]
 refine ⟨by omega,by omega,by omega,by omega,?_⟩
 have e : (if c = (0 : Int).toNat then some (⟨b,o,none⟩ : Addr) else (some (⟨b,o,none⟩ : Addr)).map (·.add ((0 : Int).toNat * sz))) = some ⟨b,o,none⟩ := by
  split
  ·rfl
  ·simp [add_mk]
 rw [e]
 exact H
/-- where the first bound is the end of what there is. -/
theorem slc_lo' {sz n c l : Nat} {a : Option Addr} {K : Value → Prop} (h1 : l ≤ n) (h2 : n ≤ c) (H : ∀ a',(l < c → a' = a.map (·.add (l * sz))) → K (.slice a' (n - l) (c - l))) : slcV sz (.slice a n c) (some (vi l)) none none K := by
 simp only [slcV,asI_int,bd_some,Int.toNat_natCast]
 refine ⟨by omega,by omega,by omega,by omega,H _ ?_⟩
 intro hl
 rw [if_neg (by omega)]
/-- 'copy(d, s)', d in a block that may be written. -/
theorem raw_copy {P : Program} {o : Oper} {σ : Env} {h : Heap} {K : Value → Heap → Prop} {x y : Operand} {t t' e s bytes : Nat} (hT : slT P t e s bytes = true)
  (ho : o.op = .call ⟨.builtin .copy, #[x,y], #[t,t']⟩) {g og n c b q n2 c2 te : Nat} {cur cs : List Value}
  (hx : evO σ x = some (.slice (some ⟨g,og,none⟩) n c)) (hy : evO σ y = some (.slice (some ⟨b,q,none⟩) n2 c2)) (B : Blk h g te cur) (hn : cs.length = min n2 n * s)
  (hs : Row h b q cs) (hfit : og + cs.length ≤ cur.length) (h1 : ∀ v ∈ cs,v.oneCell' = true)
  (H : ∀ h',Upd g h h' → Blk h' g te (cur.take og ++ cs ++ cur.drop (og + cs.length)) → K (vi (min n2 n : Nat)) h') : RawW P o σ h K := by
 obtain ⟨i,z,hu,hi,hz,hsz,hby,hzs,hsp⟩ := slT_spec hT
 refine ⟨?_,?_,?_⟩
 ·rw [ho]; intro u hu'
  simp only [Op.operands,Call.operands,Array.mem_append,List.mem_toArray,List.mem_cons,List.not_mem_nil,or_false,false_or] at hu'
  rcases hu' with rfl | rfl
  ·rw [hx]; rfl
  ·rw [hy]; rfl
 ·rw [ho]; intro cs b hh; cases hh
 ·intro w hw
  subst hw
  have hsrc : ∀ j v,cs[j]? = some v → w.cell? ((⟨b,q,none⟩ : Addr).add j) = some v := fun j v hj => by
   have hjl : j < cs.length := (List.getElem?_eq_some_iff.1 hj).1
   rw [add_mk,cel_cell,hs j hjl]; exact hj
  have hl := run_firstCells_some (P := P) w s (Nat.min n2 n) ⟨b,q,none⟩ n2 c2 cs hn hsrc
  have hst := run_storeCells_at P g og te cs 0 cur.toArray w B (by simpa using hfit) h1
  have hrun : (Builtin.copy_ #[t,t'] o.type #[.slice (some ⟨g,og,none⟩) n c,.slice (some ⟨b,q,none⟩) n2 c2]).run P w = .ok (goInt (Nat.min n2 n)) (w.setRow g (cur.take og ++ cs ++ cur.drop (og + cs.length)).toArray) := by
   simp [Builtin.copy_,run_underlying hu,Builtin.lenOf,sizeOf,typeInfo,hi,hsz,hl,hst]
  refine ⟨.value (goInt (Nat.min n2 n)),vi (Nat.min n2 n),w.setRow g (cur.take og ++ cs ++ cur.drop (og + cs.length)).toArray,?_,rfl,⟨rfl,rfl,rfl⟩,H _ ⟨size_setRow w g _,fun k hk => setRow_other w g k _ hk⟩ (setRow_heap w g _ _ _ _ B)⟩
  simp only [execOp,ho,resolve,invoke,builtin,Sem.run_bind,Sem.run_pure,Result.andThen_ok,List.map_toArray,List.map_cons,List.map_nil,hx,hy,Option.getD_some,hrun]
/-- 'append(x, make(.., k)...)' without room. -/
theorem raw_zeros {P : Program} {o : Oper} {σ : Env} {h : Heap} {K : Value → Heap → Prop} {x y : Operand} {t tn e s bytes : Nat} {kn kq : IntKind} (hT : slT P t e s bytes = true) (htn : P.underlying tn = some (.int kn))
  (ho : o.op = .call ⟨.builtin .append, #[x,y], #[t,tn]⟩) {g og n c k : Nat} {olds : List Value}
  (hx : evO σ x = some (.slice (some ⟨g,og,none⟩) n c)) (hy : evO σ y = some (.int kq k)) (hr : Row h g og olds) (hl : olds.length = n * s) (h0 : 0 < k) (hg : c < n + k) (hlen : n + k ≤ maxLen) (hb : (n + k) * bytes ≤ 140737488355328)
  (H : ∀ h' c' zs,Ext h h' → h'.size = h.size + 1 → n + k ≤ c' → c' ≤ maxLen → zs.length = (c' - n) * s → Blk h' h.size e (olds ++ zs) → K (.slice (some ⟨h.size,0,none⟩) (n + k) c') h') : RawW P o σ h K := by
 obtain ⟨i,z,hu,hi,hz,hsz,hby,hzs,hsp⟩ := slT_spec hT
 refine ⟨?_,?_,?_⟩
 ·rw [ho]; intro u hu'
  simp only [Op.operands,Call.operands,Array.mem_append,List.mem_toArray,List.mem_cons,List.not_mem_nil,or_false,false_or] at hu'
  rcases hu' with rfl | rfl
  ·rw [hx]; rfl
  ·rw [hy]; rfl
 ·rw [ho]; intro cs b hh; cases hh
 ·intro w hw
  subst hw
  have hsrc : ∀ j v,olds[j]? = some v → w.drew.cell? ((⟨g,og,none⟩ : Addr).add j) = some v := fun j v hj => by
   have hjl : j < olds.length := (List.getElem?_eq_some_iff.1 hj).1
   show w.cell? _ = _
   rw [add_mk,cel_cell,hr j hjl]; exact hj
  have hold := run_firstCells_some (P := P) w.drew i.size n ⟨g,og,none⟩ n c olds (by rw [hsz]; exact hl) hsrc
  have hrun := Lib.run_append_grow_zeros (P := P) w t tn o.type e i z kq kn hu htn hi hz (some ⟨g,og,none⟩) n c olds hold k h0 (by omega) hg (by unfold maxLen at hlen; omega)
   (by rw [hby]; have : k * bytes ≤ (n + k) * bytes := Nat.mul_le_mul_right _ (by omega); omega) (by rw [hby]; exact growslice_fits hg hb)
  have hge := grownCap_ge w (n + k) c e
  have hle := grownCap_le_maxLen w (n + k) c e hlen
  have hzc : ∀ m,(Builtin.zeroCells z.cells m).size = m * s := fun m => by simp [Builtin.zeroCells,hzs]
  refine ⟨.value (.slice (some ⟨w.heap.size,0,none⟩) (n + k) (grownCap w (n + k) c e)),.slice (some ⟨w.heap.size,0,none⟩) (n + k) (grownCap w (n + k) c e),(w.drew.alloc (.cells (olds.toArray ++ Builtin.zeroCells z.cells k ++ Builtin.zeroCells z.cells (grownCap w (n + k) c e - (n + k))) e)),?_,rfl,⟨rfl,rfl,rfl⟩,H (w.drew.alloc (.cells (olds.toArray ++ Builtin.zeroCells z.cells k ++ Builtin.zeroCells z.cells (grownCap w (n + k) c e - (n + k))) e)).heap (grownCap w (n + k) c e)
   ((Builtin.zeroCells z.cells k).toList ++ (Builtin.zeroCells z.cells (grownCap w (n + k) c e - (n + k))).toList) ((Ext.refl _).push _) (Array.size_push _) hge hle ?_ ?_⟩
  ·simp only [execOp,ho,resolve,invoke,builtin,Sem.run_bind,Sem.run_pure,Result.andThen_ok,List.map_toArray,List.map_cons,List.map_nil,hx,hy,Option.getD_some,hrun]
  ·rw [List.length_append,Array.length_toList,Array.length_toList,hzc,hzc,← Nat.add_mul]
   congr 1; omega
  ·show (w.heap.push _)[w.heap.size]? = _
   rw [Array.getElem?_push_size]
   congr 2
   simp
/-- slices.overlaps of two blocks. -/
theorem raw_overlaps {P : Program} {o : Oper} {σ : Env} {h : Heap} {K : Value → Heap → Prop} {x y : Operand} {t t2 t3 e s bytes : Nat} (hT : slT P t e s bytes = true) {f : FuncId} {fn : Func}
  (ho : o.op = .call ⟨.value (.func f), #[x, y], #[t2, t3]⟩) (hf : P.funcs[f]? = some fn) (hb : fn.body.isNone = true) (hn : (fn.name == "runtime.NumGoroutine") = false) (hx1 : (Extern.findNext fn).isNone = true)
  {tR : TypeId} (h2 : Extern.find fn = some (Extern.SlicesOverlaps.overlaps #[t,t] #[tR])) {a b la ca lb cb oa o2 ta tb : Nat} {l m : List Value}
  (hx : evO σ x = some (.slice (some ⟨a,oa,none⟩) la ca)) (hy : evO σ y = some (.slice (some ⟨b,o2,none⟩) lb cb)) (A : Blk h a ta l) (B : Blk h b tb m) (hab : a ≠ b) (hm : 0 < m.length) (H : K (.bool false) h) : RawW P o σ h K := by
 obtain ⟨i,z,hu,hi,hz,hsz,hby,hzs,hsp⟩ := slT_spec hT
 refine raw_ext ho hf hb hn hx1 h2 (vs := [.slice (some ⟨a,oa,none⟩) la ca,.slice (some ⟨b,o2,none⟩) lb cb]) (v := .bool false) ?_ ?_ H
 ·simp [evOs,hx,hy]
 ·intro w hw
  subst hw
  unfold Blk at A B
  exact Lib.run_overlaps_apart w t tR e hu s (fun w => by simp [sizeOf,typeInfo,hi,hsz]) ⟨a,oa,none⟩ ⟨b,o2,none⟩ la ca lb cb hab ta tb l.length m.length
   (by simp [World.shape?,A]) (by simp [World.shape?,B]) (by omega) (by simp [World.frozen?,A]) (by simp [World.frozen?,A])
end Go.AX
namespace Go.AX
open Go
theorem br_andL (c : Bool) (p A B : Prop) : br c (p ∧ A) B = ((c = true → p) ∧ br c A B) := by cases c <;> simp [br]
theorem br_andR (c : Bool) (p A B : Prop) : br c A (p ∧ B) = ((c = false → p) ∧ br c A B) := by cases c <;> simp [br]
theorem br_join (c x y : Bool) (P : Program) (m : Option Md) (r : List I) (C : Env → Heap → Prop) (d : Nat) (σ : Env) (h : Heap) :
  br c (wL P m r 0 C ((d,.bool x) :: σ) h) (wL P m r 0 C ((d,.bool y) :: σ) h) = wL P m r 0 C ((d,.bool (bif c then x else y)) :: σ) h := by cases c <;> simp [br]
theorem br_joinC (c x y : Bool) (P : Program) (e : C) (Q : X → Env → Heap → Prop) (d : Nat) (σ : Env) (h : Heap) :
  br c (wC P e Q ((d,.bool x) :: σ) h) (wC P e Q ((d,.bool y) :: σ) h) = wC P e Q ((d,.bool (bif c then x else y)) :: σ) h := by cases c <;> simp [br]
/-- A loop that stands last in its block. -/
theorem loop_in1 {P : Program} {B : C} {id : Nat} {Q : X → Env → Heap → Prop} {σ : Env} {h : Heap} (Inv : Nat → Env → Heap → Prop) (n : Nat) (h0 : Inv n σ h)
  (H : ∀ n σ h,Inv n σ h → ∀ Q' : X → Env → Heap → Prop,(∀ n' σ' h',n' < n → Inv n' σ' h' → Q' .normal σ' h') → (∀ σ' h',Q .normal σ' h' → Q' (.exit id) σ' h') → (∀ σ' h',Q .ret σ' h' → Q' .ret σ' h') →
   (∀ i σ' h',i ≠ id → Q (.exit i) σ' h' → Q' (.exit i) σ' h') → wC P B Q' σ h) :
  loopW (wC P B) (X.inBlock id Q) σ h := by
 refine ⟨Inv,n,h0,fun n σ h hI => H n σ h hI _ ?_ ?_ ?_ ?_⟩
 ·intro n' σ' h' hn hI'; exact ⟨n',hn,hI'⟩
 ·intro σ' h' hM; show (if id = id then Q .normal σ' h' else _); rw [if_pos rfl]; exact hM
 ·intro σ' h' hq; exact hq
 ·intro i σ' h' hi hq
  show (if i = id then Q .normal σ' h' else Q (.exit i) σ' h')
  rw [if_neg hi]; exact hq
theorem br_not (c : Bool) (A B : Prop) : br (!c) A B = br c B A := by cases c <;> simp [br]
theorem cond_tr (c x : Bool) : (bif c then true else x) = (c || x) := by cases c <;> rfl
theorem cond_fr (c x : Bool) : (bif c then x else false) = (c && x) := by cases c <;> simp
theorem cond_xt (c x : Bool) : (bif c then x else true) = (!c || x) := by cases c <;> simp
theorem cond_fx (c x : Bool) : (bif c then false else x) = (!c && x) := by cases c <;> simp
set_option linter.defProp false in
def AXJ := And.intro @beq_true <| And.intro @beq_false <| And.intro @Bool.not_not <| And.intro @decide_eq_true_eq <| And.intro @decide_eq_false_iff_not <| And.intro @br_not <| And.intro @br_andL <| And.intro @br_andR <| And.intro @br_join <| And.intro @br_joinC <| And.intro @cond_tr <| And.intro @cond_fr <| And.intro @cond_xt <| @cond_fx
end Go.AX
namespace Go.AX
open Go
section
variable (P : Program) (m : Option Md) (r : List I) (C : Env → Heap → Prop) (d : Nat) (σ : Env) (h : Heap)
def K1 (v : Value) : Prop := wL P m r 0 C ((d,v) :: σ) h
theorem K1_eq (v : Value) : K1 P m r C d σ h v = wL P m r 0 C ((d,v) :: σ) h := rfl
def Kld1 (q : Nat × Nat) : Prop := ldOk m q.1 ∧ bd (cel (ldHeap m h) q.1 q.2) (K1 P m r C d σ h)
theorem Kld1_eq (b o : Nat) : Kld1 P m r C d σ h (b,o) = (ldOk m b ∧ bd (cel (ldHeap m h) b o) (K1 P m r C d σ h)) := rfl
def Kldn (n : Nat) (q : Nat × Nat) : Prop := ldOk m q.1 ∧ bd ((rd (ldHeap m h) q.1 q.2 n).map fun l => .agg l.toArray) (K1 P m r C d σ h)
theorem Kldn_eq (n b o : Nat) : Kldn P m r C d σ h n (b,o) = (ldOk m b ∧ bd ((rd (ldHeap m h) b o n).map fun l => .agg l.toArray) (K1 P m r C d σ h)) := rfl
def Kiad (sz : Nat) (q : (Nat × Nat × Nat × Nat) × Int) : Prop := 0 ≤ q.2 ∧ q.2 < q.1.2.2.1 ∧ wL P m r 0 C ((d,ptr q.1.1 (q.1.2.1 + q.2.toNat * sz)) :: σ) h
theorem Kiad_eq (sz b o n c : Nat) (k : Int) : Kiad P m r C d σ h sz ((b,o,n,c),k) = (0 ≤ k ∧ k < n ∧ wL P m r 0 C ((d,ptr b (o + k.toNat * sz)) :: σ) h) := rfl
def Ksc (c : Nat) (w : Bool) (n : Nat) (t : Bool) : Prop := br (t == w) (wL P m r 0 C ((c,.bool w) :: σ) h) (wL P m r n C ((c,.bool (!w)) :: σ) h)
theorem Ksc_eq (c : Nat) (w : Bool) (n : Nat) (t : Bool) : Ksc P m r C σ h c w n t = br (t == w) (wL P m r 0 C ((c,.bool w) :: σ) h) (wL P m r n C ((c,.bool (!w)) :: σ) h) := rfl
def KgS (w : Bool) (k : Nat) (d : Option Nat) (v : Value) : Prop := notB v w = true ∧ wL P m r k C (putE σ d undef) h
theorem KgS_eq (w : Bool) (k : Nat) (d : Option Nat) (v : Value) : KgS P m r C σ h w k d v = (notB v w = true ∧ wL P m r k C (putE σ d undef) h) := rfl
@[reducible] def Kret (d : Option Nat) (v : Value) (h' : Heap) : Prop := kpOk m h h' ∧ wL P m r 0 C (putE σ d v) h'
theorem Kret_eq (d : Option Nat) (v : Value) (h' : Heap) : Kret P m r C σ h d v h' = (kpOk m h h' ∧ wL P m r 0 C (putE σ d v) h') := rfl
def Kcall (f : Nat) (d : Option Nat) (vs : List Value) : Prop := CallsH P f vs h (Kret P m r C σ h d)
theorem Kcall_eq (f : Nat) (d : Option Nat) (vs : List Value) : Kcall P m r C σ h f d vs = CallsH P f vs h (Kret P m r C σ h d) := rfl
end
def Kx1 (P : Program) (m : Option Md) (r : List I) (C : Env → Heap → Prop) (d : Nat) (σ : Env) (h : Heap) (q : Nat × Nat) : Prop := bd (cel h q.1 q.2) (K1 P m r C d σ h)
theorem Kx1_eq (P : Program) (m : Option Md) (r : List I) (C : Env → Heap → Prop) (d : Nat) (σ : Env) (h : Heap) (b o : Nat) : Kx1 P m r C d σ h (b,o) = bd (cel h b o) (K1 P m r C d σ h) := rfl
def Kxn (P : Program) (m : Option Md) (r : List I) (C : Env → Heap → Prop) (d : Nat) (σ : Env) (h : Heap) (n : Nat) (q : Nat × Nat) : Prop := bd ((rd h q.1 q.2 n).map fun l => .agg l.toArray) (K1 P m r C d σ h)
theorem Kxn_eq (P : Program) (m : Option Md) (r : List I) (C : Env → Heap → Prop) (d : Nat) (σ : Env) (h : Heap) (n b o : Nat) : Kxn P m r C d σ h n (b,o) = bd ((rd h b o n).map fun l => .agg l.toArray) (K1 P m r C d σ h) := rfl
def iadV (x i : Option Value) : Option ((Nat × Nat × Nat × Nat) × Int) := (x.bind asSl).bind fun q => (i.bind asI).map fun k => (q,k)
section
variable {P : Program} {m : Option Md} {C : Env → Heap → Prop} {σ : Env} {h : Heap} {r : List I}
theorem bd_b {α β : Type} (o : Option α) (f : α → Option β) (k : β → Prop) : (bd o fun v => bd (f v) k) = bd (o.bind f) k := by cases o <;> rfl
theorem xL_sc (c : Nat) (w : Bool) (n : Nat) : wL P m (.sc c w n :: r) 0 C σ h = bd ((look σ c).bind asB) (Ksc P m r C σ h c w n) := by rw [← bd_b]; rfl
theorem xL_gS (c : Nat) (w : Bool) (j : J) (k : Nat) : wL P m (.g c w j :: r) (k + 1) C σ h = bd (look σ c) (KgS P m r C σ h w k j.dst) := rfl
theorem xL_mov (d : Nat) (x : Operand) : wL P m (.op (.mov d x) :: r) 0 C σ h = bd (evO σ x) (K1 P m r C d σ h) := rfl
theorem xL_pick (d : Nat) (c a b : Operand) : wL P m (.op (.pick d c a b) :: r) 0 C σ h = bd (((evO σ c).bind asB).bind fun t => evO σ (bif t then a else b)) (K1 P m r C d σ h) := by rw [← bd_b,← bd_b]; rfl
theorem xL_ld1 (d : Nat) (x : Operand) : wL P m (.op (.ld d none x) :: r) 0 C σ h = bd ((evO σ x).bind asP) (Kld1 P m r C d σ h) := by rw [← bd_b]; rfl
theorem bd_m {α β : Type} (o : Option α) (f : α → β) (k : β → Prop) : (bd o fun v => k (f v)) = bd (o.map f) k := by cases o <;> rfl
theorem xL_ldn (d n : Nat) (x : Operand) : wL P m (.op (.ld d (some n) x) :: r) 0 C σ h = bd ((evO σ x).bind asP) (Kldn P m r C d σ h n) := by
 rw [← bd_b]; unfold Kldn; simp only [← bd_m]; rfl
theorem xL_opn1 (d : Nat) (x : Operand) : wL P m (.opn (.ld d none x) :: r) 0 C σ h = bd ((evO σ x).bind asP) (Kx1 P m r C d σ h) := by
 rw [← bd_b]
 show wV none h σ (.ld d none x) (fun v => wL P m r 0 C (putE σ (J.ld d none x).dst v) h) = _
 unfold wV Kx1
 simp only [ldOk,ldHeap,true_and]
 rfl
theorem xL_opnn (d n : Nat) (x : Operand) : wL P m (.opn (.ld d (some n) x) :: r) 0 C σ h = bd ((evO σ x).bind asP) (Kxn P m r C d σ h n) := by
 rw [← bd_b]
 show wV none h σ (.ld d (some n) x) (fun v => wL P m r 0 C (putE σ (J.ld d (some n) x).dst v) h) = _
 unfold wV Kxn
 simp only [ldOk,ldHeap,true_and,← bd_m]
 rfl
theorem xL_fad (d off : Nat) (x : Operand) : wL P m (.op (.fad d off x) :: r) 0 C σ h = bd (((evO σ x).bind asP).map fun q => ptr q.1 (q.2 + off)) (K1 P m r C d σ h) := by rw [← bd_m,← bd_b]; rfl
theorem xL_iad (d sz : Nat) (x i : Operand) : wL P m (.op (.iad d sz x i) :: r) 0 C σ h = bd (iadV (evO σ x) (evO σ i)) (Kiad P m r C d σ h sz) := by
 rw [wL_iad]
 unfold iadV
 cases evO σ x with
 | none => rfl
 | some v =>
  cases evO σ i with
  | none => simp only [bd_some,Option.bind_some,Option.bind_none,Option.map_none]; cases asSl v <;> rfl
  | some u =>
   simp only [bd_some,Option.bind_some]
   cases asSl v with
   | none => rfl
   | some q => cases asI u <;> rfl
theorem xL_ext (d : Nat) (x : Operand) (i : Nat) : wL P m (.op (.ext d x i) :: r) 0 C σ h = bd ((evO σ x).bind (extV i)) (K1 P m r C d σ h) := by rw [← bd_b]; rfl
theorem bd_2 (x y : Option Value) (f : Value → Value → Option Value) (k : Value → Prop) : (bd x fun v => bd y fun u => bd (f v u) k) = bd (x.bind fun v => y.bind fun u => f v u) k := by cases x <;> cases y <;> rfl
theorem xL_bin (d : Nat) (op : BinOp) (x y : Operand) : wL P m (.op (.bin d op x y) :: r) 0 C σ h = bd ((evO σ x).bind fun v => (evO σ y).bind fun u => binV op v u) (K1 P m r C d σ h) := by rw [← bd_2]; rfl
theorem xL_eqb (d : Nat) (neg : Bool) (x y : Operand) : wL P m (.op (.eqb d neg x y) :: r) 0 C σ h = bd ((evO σ x).bind fun v => (evO σ y).bind fun u => eqB neg v u) (K1 P m r C d σ h) := by rw [← bd_2]; rfl
theorem xL_eqn (d : Nat) (s neg : Bool) (x y : Operand) : wL P m (.op (.eqn d s neg x y) :: r) 0 C σ h = bd ((evO σ x).bind fun v => (evO σ y).bind fun u => eqN s neg v u) (K1 P m r C d σ h) := by rw [← bd_2]; rfl
theorem xL_eqa (d : Nat) (neg : Bool) (ks : List Kd) (x y : Operand) : wL P m (.op (.eqa d neg ks x y) :: r) 0 C σ h = bd ((evO σ x).bind fun v => (evO σ y).bind fun u => eqA neg ks v u) (K1 P m r C d σ h) := by rw [← bd_2]; rfl
theorem xL_un (d : Nat) (op : UnOp) (x : Operand) : wL P m (.op (.un d op x) :: r) 0 C σ h = bd ((evO σ x).bind (unV op)) (K1 P m r C d σ h) := by rw [← bd_b]; rfl
theorem xL_len (d : Nat) (s : Bool) (x : Operand) : wL P m (.op (.len d s x) :: r) 0 C σ h = bd ((evO σ x).bind (lenV s)) (K1 P m r C d σ h) := by rw [← bd_b]; rfl
theorem xL_cap (d : Nat) (x : Operand) : wL P m (.op (.cap d x) :: r) 0 C σ h = bd ((evO σ x).bind capV) (K1 P m r C d σ h) := by rw [← bd_b]; rfl
theorem xL_mm (d : Nat) (mx : Bool) (x y : Operand) : wL P m (.op (.mm d mx x y) :: r) 0 C σ h = bd ((evO σ x).bind fun v => (evO σ y).bind fun u => maxV mx v u) (K1 P m r C d σ h) := by rw [← bd_2]; rfl
theorem xL_cvt (d : Nat) (k : IntKind) (x : Operand) : wL P m (.op (.cvt d k x) :: r) 0 C σ h = bd ((evO σ x).bind (cvtV k)) (K1 P m r C d σ h) := by rw [← bd_b]; rfl
theorem xL_bld (d : Nat) (zero : List Value) (parts : List (Nat × Nat × Operand)) : wL P m (.op (.bld d zero parts) :: r) 0 C σ h = bd ((fillL σ zero parts).map fun cs => .agg cs.toArray) (K1 P m r C d σ h) := by rw [← bd_m]; rfl
theorem xL_fn (d f : Nat) (caps : List Operand) : wL P m (.op (.fn d f caps) :: r) 0 C σ h = bd ((evOs σ caps).map fun cs => .func (.func f) #[] cs.toArray) (K1 P m r C d σ h) := by rw [← bd_m]; rfl
theorem xL_call (d : Option Nat) (f : Nat) (args : List Operand) : wL P m (.op (.call d f args) :: r) 0 C σ h = bd (evOs σ args) (Kcall P m r C σ h f d) := rfl
end
theorem iadV_some (b o n c : Nat) (t : IntKind) (k : Int) : iadV (some (.slice (some ⟨b,o,none⟩) n c)) (some (.int t k)) = some ((b,o,n,c),k) := rfl
def Kslc (P : Program) (m : Option Md) (r : List I) (C : Env → Heap → Prop) (d : Nat) (σ : Env) (h : Heap) (sz : Nat) (q : Value × Option Value × Option Value × Option Value) : Prop := slcV sz q.1 q.2.1 q.2.2.1 q.2.2.2 (K1 P m r C d σ h)
theorem Kslc_eq (P : Program) (m : Option Md) (r : List I) (C : Env → Heap → Prop) (d : Nat) (σ : Env) (h : Heap) (sz : Nat) (v : Value) (a b c : Option Value) : Kslc P m r C d σ h sz (v,a,b,c) = slcV sz v a b c (K1 P m r C d σ h) := rfl
theorem xL_slc {P : Program} {m : Option Md} {C : Env → Heap → Prop} {σ : Env} {h : Heap} {r : List I} (d sz : Nat) (x : Operand) (lo hi mx : Option Operand) : wL P m (.op (.slc d sz x lo hi mx) :: r) 0 C σ h =
  bd ((evO σ x).bind fun v => (evOo σ lo).bind fun l => (evOo σ hi).bind fun u => (evOo σ mx).map fun m => (v,l,u,m)) (Kslc P m r C d σ h sz) := by
 rw [wL_slc]
 cases evO σ x with
 | none => rfl
 | some v =>
  cases evOo σ lo with
  | none => rfl
  | some l =>
   cases evOo σ hi with
   | none => rfl
   | some u => cases evOo σ mx <;> rfl
set_option linter.defProp false in
/-- All the rules as one. -/
def AXS := And.intro @bd_some <|
 And.intro @br_true <|
 And.intro @br_false <|
 And.intro @wL_nil <|
 And.intro @wL_kp <|
 And.intro @wL_g <|
 And.intro @wL_kpS <|
 And.intro @wL_scS <|
 And.intro @wL_nch <|
 And.intro @ldOk_none <|
 And.intro @ldHeap_none <|
 And.intro @kpOk_none <|
 And.intro @ldOk_some <|
 And.intro @ldHeap_some <|
 And.intro @then_normal <|
 And.intro @then_exit <|
 And.intro @then_ret <|
 And.intro @inBlock_normal <|
 And.intro @inBlock_ret <|
 And.intro @inBlock_exit <|
 And.intro @endW_ret <|
 And.intro @endW_normal <|
 And.intro @evO_tmp <|
 And.intro @evO_const <|
 And.intro @evO_func <|
 And.intro @look_cons <|
 And.intro @keep_cons <|
 And.intro @keep_nil <|
 And.intro @kc_some <|
 And.intro @evOs_cons <|
 And.intro @evOs_nil <|
 And.intro @evOo_none <|
 And.intro @evOo_some <|
 And.intro @asB_bool <|
 And.intro @asI_int <|
 And.intro @asP_ptr <|
 And.intro @asSl_sl <|
 And.intro @extV_tuple <|
 And.intro @unV_not <|
 And.intro @lenV_sl <|
 And.intro @lenV_str <|
 And.intro @capV_sl <|
 And.intro @eqB_bool <|
 And.intro @cvtV_int <|
 And.intro @maxV_int <|
 And.intro @notB_ft <|
 And.intro @notB_tf <|
 And.intro @br_eqT <|
 And.intro @br_eqF <|
 And.intro @notB_undef <|
 And.intro @putE_some <|
 And.intro @putE_none <|
 And.intro @one_one <|
 And.intro @one_two <|
 And.intro @resV_nil <|
 And.intro @resV_tmp <|
 And.intro @resV_cell <|
 And.intro @envOf_nil <|
 And.intro @envOf_cons <|
 And.intro @fillL_nil <|
 And.intro @fillL_cons <|
 And.intro @putL_nil <|
 And.intro @putL_cons <|
 And.intro @binV_add <|
 And.intro @binV_sub <|
 And.intro @binV_mul <|
 And.intro @binV_eql <|
 And.intro @binV_neq <|
 And.intro @binV_lss <|
 And.intro @binV_leq <|
 And.intro @binV_gtr <|
 And.intro @binV_geq <|
 And.intro @binS_eql <|
 And.intro @binS_neq <|
 And.intro @binS_lss <|
 And.intro @binS_leq <|
 And.intro @binS_gtr <|
 And.intro @binS_geq <|
 And.intro @xL_sc <|
 And.intro @xL_gS <|
 And.intro @xL_mov <|
 And.intro @xL_pick <|
 And.intro @xL_ld1 <|
 And.intro @nchV_ptr <|
 And.intro @xL_opn1 <|
 And.intro @xL_opnn <|
 And.intro @Kx1_eq <|
 And.intro @Kxn_eq <|
 And.intro @xL_ldn <|
 And.intro @xL_fad <|
 And.intro @xL_iad <|
 And.intro @xL_ext <|
 And.intro @xL_bin <|
 And.intro @xL_eqb <|
 And.intro @xL_eqn <|
 And.intro @xL_eqa <|
 And.intro @xL_un <|
 And.intro @xL_len <|
 And.intro @xL_cap <|
 And.intro @xL_mm <|
 And.intro @xL_cvt <|
 And.intro @xL_bld <|
 And.intro @xL_fn <|
 And.intro @xL_call <|
 And.intro @xL_slc <|
 And.intro @iadV_some <|
 And.intro @K1_eq <|
 And.intro @Kld1_eq <|
 And.intro @Kldn_eq <|
 And.intro @Kiad_eq <|
 And.intro @Ksc_eq <|
 And.intro @KgS_eq <|
 And.intro @Kret_eq <|
 And.intro @Kcall_eq <|
 @Kslc_eq
end Go.AX
