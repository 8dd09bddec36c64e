/-
  A small instruction language over the model's code: what a region, a branch, a loop does to a partial environment of temporaries and to the heap alone (the draws are hidden). Here: the definitions, and that a function's code is compiled to it.
-/
import Derived.WalkKit
import Derived.WalkLawsBesides
import Derived.OrdersHeld
import Derived.KernelRfl
import Derived.Deep.LoopGhost
set_option linter.unusedSimpArgs false
set_option linter.unusedVariables false
namespace Go.AX
open Go

abbrev Heap := Array Obj
abbrev Env := List (Nat × Value)

/-- Of the world all is as it was but the heap and the number of draws. -/
structure Same (w w' : World) : Prop where
  os : w'.os = w.os
  tape : w'.tape = w.tape
  output : w'.output = w.output

theorem Same.refl (w : World) : Same w w := ⟨rfl, rfl, rfl⟩
theorem Same.trans {a b c : World} (h : Same a b) (k : Same b c) : Same a c := ⟨k.os.trans h.os, k.tape.trans h.tape, k.output.trans h.output⟩

/-- A call that returns a value, said of the heap alone. -/
def CallsH (P : Program) (f : FuncId) (args : List Value) (h : Heap) (R : Value → Heap → Prop) : Prop :=
  ∀ w : World, w.heap = h → Calls P f args.toArray w fun e w' => ∃ v, e = .returned v ∧ R v w'.heap ∧ Same w w'

theorem CallsH.mono {P : Program} {f : FuncId} {args : List Value} {h : Heap} {R R' : Value → Heap → Prop} (H : CallsH P f args h R) (k : ∀ v h', R v h' → R' v h') :
    CallsH P f args h R' := fun w hw => (H w hw).mono fun _ _ ⟨v, he, hr, hs⟩ => ⟨v, he, k _ _ hr, hs⟩

def bd {α : Type} (o : Option α) (k : α → Prop) : Prop := match o with | some v => k v | none => False
theorem bd_some {α : Type} (v : α) (k : α → Prop) : bd (some v) k = k v := rfl
theorem bd_elim {α : Type} {o : Option α} {k : α → Prop} (h : bd o k) : ∃ v, o = some v ∧ k v := by
  cases o with
  | none => exact h.elim
  | some v => exact ⟨v, rfl, h⟩

def look : Env → Nat → Option Value
  | [], _ => none
  | (m, v) :: σ, n => if n = m then some v else look σ n

def kc (o : Option Value) (s : Nat) (r : Env) : Env := match o with | some v => (s, v) :: r | none => r
/-- These temporaries alone, in this order. -/
def keep : List Nat → Env → Env
  | [], _ => []
  | s :: l, σ => kc (look σ s) s (keep l σ)

theorem look_keep : ∀ (l : List Nat) (σ : Env) (n : Nat) (v : Value), look (keep l σ) n = some v → look σ n = some v
  | [], _, _, _, h => by cases h
  | s :: l, σ, n, v, h => by
    simp only [keep, kc] at h
    split at h
    · rename_i u hu
      simp only [look] at h
      split at h
      · rename_i e; subst e; rw [hu]; exact h
      · exact look_keep l σ n v h
    · exact look_keep l σ n v h

def evO (σ : Env) : Operand → Option Value
  | .tmp t => look σ t
  | .const v => some v
  | .global g => some (.pointer (some ⟨g, 0, none⟩))
  | .func f => some (.func (.func f) #[] #[])

def evOs (σ : Env) : List Operand → Option (List Value)
  | [] => some []
  | x :: xs => (evO σ x).bind fun v => (evOs σ xs).map (v :: ·)

/-- An operand that need not be there. -/
def evOo (σ : Env) : Option Operand → Option (Option Value)
  | none => some none
  | some x => (evO σ x).map some

/-- A cell, cells in a row. -/
def cel (h : Heap) (b o : Nat) : Option Value :=
  match h[b]? with
  | some (.cells c _ _) => c[o]?
  | _ => none
def rd (h : Heap) (b : Nat) : (o n : Nat) → Option (List Value)
  | _, 0 => some []
  | o, n + 1 => (cel h b o).bind fun v => (rd h b (o + 1) n).map (v :: ·)

def patch (c : Array Value) (o : Nat) : List Value → Array Value
  | [] => c
  | v :: vs => patch (c.setIfInBounds o v) (o + 1) vs
def wrObj (o : Nat) (vs : List Value) : Obj → Obj
  | .cells c t f => .cells (patch c o vs) t f
  | x => x
/-- The heap with cells written. -/
def wr (h : Heap) (b o : Nat) (vs : List Value) : Heap := h.modify b (wrObj o vs)
def wrOk (h : Heap) (b o : Nat) (vs : List Value) : Prop :=
  ∃ c t, h[b]? = some (.cells c t (0, 0)) ∧ o + vs.length ≤ c.size ∧ ∀ v ∈ vs, v.oneCell' = true

def asB : Value → Option Bool | .bool b => some b | _ => none
def asI : Value → Option Int | .int _ n => some n | _ => none
def asP : Value → Option (Nat × Nat) | .pointer (some ⟨b, o, none⟩) => some (b, o) | _ => none
/-- A slice that has an address. -/
def asSl : Value → Option (Nat × Nat × Nat × Nat) | .slice (some ⟨b, o, none⟩) n c => some (b, o, n, c) | _ => none
/-- The value of a pointer into a block. -/
abbrev ptr (b o : Nat) : Value := .pointer (some ⟨b, o, none⟩)
abbrev vi (n : Int) : Value := .int .i64 n
abbrev sl (b o n c : Nat) : Value := .slice (some ⟨b, o, none⟩) n c

/-- In a region that draws its order: the blocks whose cells are read, and the heap from which they are. -/
structure Md where
  p : Nat → Prop
  h0 : Heap
def ldHeap (m : Option Md) (h : Heap) : Heap := match m with | none => h | some m => m.h0
def ldOk (m : Option Md) (b : Nat) : Prop := match m with | none => True | some m => m.p b
def kpOk (m : Option Md) (h h' : Heap) : Prop := match m with | none => True | some m => ∀ b, m.p b → h'[b]? = h[b]?
/-- May this heap be the one at hand? -/
def heapOk (m : Option Md) (h hp : Heap) : Prop := match m with | none => hp = h | some m => ∀ b, m.p b → hp[b]? = m.h0[b]?

/-- Operators on two values that look at nothing else. -/
def binV (op : BinOp) (x y : Value) : Option Value :=
  match x, y with
  | .int k a, .int k' b =>
    if k ≠ k' then none else
    match op with
    | .add => some (.int k (k.wrap (a + b)))
    | .sub => some (.int k (k.wrap (a - b)))
    | .mul => some (.int k (k.wrap (a * b)))
    | .eql => some (.bool (a == b))
    | .neq => some (.bool (a != b))
    | .lss => some (.bool (a < b))
    | .leq => some (.bool (a ≤ b))
    | .gtr => some (.bool (a > b))
    | .geq => some (.bool (a ≥ b))
    | _ => none
  | .string a, .string b =>
    match op with
    | .eql => some (.bool (a.toList == b.toList))
    | .neq => some (.bool !(a.toList == b.toList))
    | .lss => some (.bool (Op.bytesLess a.toList b.toList))
    | .leq => some (.bool (Op.bytesLess a.toList b.toList || a.toList == b.toList))
    | .gtr => some (.bool !(Op.bytesLess a.toList b.toList || a.toList == b.toList))
    | .geq => some (.bool !(Op.bytesLess a.toList b.toList))
    | _ => none
  | _, _ => none

/-- Two bools of type bool. -/
def eqB (neg : Bool) (x y : Value) : Option Value :=
  match x, y with
  | .bool a, .bool b => some (.bool (if neg then !(a == b) else a == b))
  | _, _ => none

/-- A pointer or a slice against nil. -/
def eqN (sl neg : Bool) (x y : Value) : Option Value :=
  match sl, x, y with
  | false, .pointer none, .pointer b => some (.bool (if neg then !b.isNone else b.isNone))
  | false, .pointer (some _), .pointer none => some (.bool neg)
  | true, .slice none _ _, .slice b _ _ => some (.bool (if neg then !b.isNone else b.isNone))
  | true, .slice (some _) _ _, .slice none _ _ => some (.bool neg)
  | _, _, _ => none

/-- The kinds of the cells of a struct without memory behind it. -/
inductive Kd where
  | i (k : IntKind) | b | s
  deriving DecidableEq
def kdOk : Kd → Value → Bool
  | .i k, .int k' _ => k == k'
  | .b, .bool _ => true
  | .s, .string _ => true
  | _, _ => false
def eqKd : Kd → Value → Value → Option Bool
  | .i k, .int k1 a, .int k2 b => if k1 = k ∧ k2 = k then some (a == b) else none
  | .b, .bool a, .bool b => some (a == b)
  | .s, .string a, .string b => some (a.toList == b.toList)
  | _, _, _ => none
/-- Two rows of cells, cell by cell. -/
def eqKds : List Kd → List Value → List Value → Option Bool
  | [], [], [] => some true
  | k :: ks, x :: xs, y :: ys => (eqKd k x y).bind fun a => (eqKds ks xs ys).map (a && ·)
  | _, _, _ => none
def eqA (neg : Bool) (ks : List Kd) (x y : Value) : Option Value :=
  match x, y with
  | .agg xs, .agg ys => (eqKds ks xs.toList ys.toList).map fun b => .bool (if neg then !b else b)
  | _, _ => none

def unV (op : UnOp) (x : Value) : Option Value :=
  match op, x with
  | .not, .bool b => some (.bool !b)
  | .neg, .int k n => some (.int k (k.wrap (0 - n)))
  | _, _ => none

def lenV (sl : Bool) (x : Value) : Option Value :=
  match sl, x with
  | true, .slice _ n _ => some (vi n)
  | false, .string s => some (vi s.size)
  | _, _ => none
def capV : Value → Option Value
  | .slice _ _ n => some (vi n)
  | _ => none
def maxV (mx : Bool) : Value → Value → Option Value
  | .int k x, .int _ y => some (.int k (if mx then (if y > x then y else x) else (if y < x then y else x)))
  | _, _ => none
def cvtV (k : IntKind) : Value → Option Value
  | .int _ n => some (.int k (k.wrap n))
  | _ => none
def extV (i : Nat) : Value → Option Value
  | .tuple vs => vs[i]?
  | _ => none
def nchV : Value → Option Value
  | .pointer (some a) => some (.pointer (some a))
  | .slice a n c => some (.slice a n c)
  | _ => none

/-- Parts laid into cells: place, size, value. -/
def putL (cs : List Value) (o : Nat) : List Value → List Value
  | [] => cs
  | v :: vs => putL (cs.set o v) (o + 1) vs
def fillL (σ : Env) : List Value → List (Nat × Nat × Operand) → Option (List Value)
  | cs, [] => some cs
  | cs, (off, size, x) :: r => (evO σ x).bind fun v => if v.cells.size = size ∧ off + size ≤ cs.length then fillL σ (putL cs off v.cells.toList) r else none

inductive J where
  | mov (d : Nat) (x : Operand)
  | pick (d : Nat) (c a b : Operand)
  | ld (d : Nat) (n : Option Nat) (x : Operand)
  | fad (d off : Nat) (x : Operand)
  | iad (d sz : Nat) (x i : Operand)
  | slc (d sz : Nat) (x : Operand) (lo hi mx : Option Operand)
  | ext (d : Nat) (x : Operand) (i : Nat)
  | bin (d : Nat) (op : BinOp) (x y : Operand)
  | eqb (d : Nat) (neg : Bool) (x y : Operand)
  | eqn (d : Nat) (sl neg : Bool) (x y : Operand)
  | eqa (d : Nat) (neg : Bool) (ks : List Kd) (x y : Operand)
  | un (d : Nat) (op : UnOp) (x : Operand)
  | len (d : Nat) (sl : Bool) (x : Operand)
  | cap (d : Nat) (x : Operand)
  | mm (d : Nat) (mx : Bool) (x y : Operand)
  | cvt (d : Nat) (k : IntKind) (x : Operand)
  | bld (d : Nat) (zero : List Value) (parts : List (Nat × Nat × Operand))
  | fn (d : Nat) (f : FuncId) (caps : List Operand)
  | nch (d : Option Nat) (x : Operand)
  | new (d : Nat) (t : TypeId) (zero : List Value)
  | box (d : Nat) (t : TypeId) (x : Operand)
  | bsl (d : Nat) (t n : Nat) (zero : List Value) (parts : List (Nat × Nat × Operand))
  | st (n : Nat) (x v : Operand)
  | call (d : Option Nat) (f : FuncId) (args : List Operand)
  | cav (d : Option Nat) (x : Operand) (args : List Operand)
  | raw (d : Option Nat) (o : Oper)
  deriving Inhabited

def J.dst : J → Option Nat
  | .mov d _ | .pick d .. | .ld d .. | .fad d .. | .iad d .. | .slc d .. | .ext d .. | .bin d .. | .eqb d .. | .eqn d .. | .eqa d .. | .un d .. | .len d .. | .cap d _ | .mm d .. | .cvt d .. | .bld d ..
  | .fn d .. | .new d .. | .box d .. | .bsl d .. => some d
  | .nch d _ | .call d .. | .cav d .. | .raw d _ => d
  | .st .. => none

/-- Does it yield a value and leave the heap alone? -/
def J.take : J → Bool
  | .new .. | .box .. | .bsl .. | .st .. | .call .. | .cav .. | .raw .. => false
  | _ => true

def putE (σ : Env) : Option Nat → Value → Env
  | some d, v => (d, v) :: σ
  | none, _ => σ

/-- The result of a slice expression over a slice. -/
def slcV (sz : Nat) (x : Value) (lo hi mx : Option Value) (K : Value → Prop) : Prop :=
  match x with
  | .slice a n c =>
    bd (match mx with | some v => asI v | none => some (c : Int)) fun m =>
    bd (match hi with | some v => asI v | none => some (n : Int)) fun h =>
    bd (match lo with | some v => asI v | none => some (0 : Int)) fun l =>
    0 ≤ l ∧ l ≤ h ∧ h ≤ m ∧ m ≤ c ∧
    K (.slice (if m.toNat = l.toNat then a else a.map (·.add (l.toNat * sz))) (h.toNat - l.toNat) (m.toNat - l.toNat))
  | _ => False

/-- What an instruction that leaves the heap alone yields. -/
def wV (m : Option Md) (h : Heap) (σ : Env) (j : J) (K : Value → Prop) : Prop :=
  match j with
  | .mov _ x => bd (evO σ x) K
  | .pick _ c a b => bd (evO σ c) fun v => bd (asB v) fun t => bd (evO σ (bif t then a else b)) K
  | .ld _ n x => bd (evO σ x) fun v => bd (asP v) fun q => ldOk m q.1 ∧ match n with
    | none => bd (cel (ldHeap m h) q.1 q.2) K
    | some n => bd (rd (ldHeap m h) q.1 q.2 n) fun l => K (.agg l.toArray)
  | .fad _ off x => bd (evO σ x) fun v => bd (asP v) fun q => K (ptr q.1 (q.2 + off))
  | .iad _ sz x i => bd (evO σ x) fun v => bd (evO σ i) fun u => bd (asSl v) fun q => bd (asI u) fun k => 0 ≤ k ∧ k < q.2.2.1 ∧ K (ptr q.1 (q.2.1 + k.toNat * sz))
  | .slc _ sz x lo hi mx => bd (evO σ x) fun v => bd (evOo σ lo) fun l => bd (evOo σ hi) fun h => bd (evOo σ mx) fun m => slcV sz v l h m K
  | .ext _ x i => bd (evO σ x) fun v => bd (extV i v) K
  | .bin _ op x y => bd (evO σ x) fun v => bd (evO σ y) fun u => bd (binV op v u) K
  | .eqb _ neg x y => bd (evO σ x) fun v => bd (evO σ y) fun u => bd (eqB neg v u) K
  | .eqn _ sl neg x y => bd (evO σ x) fun v => bd (evO σ y) fun u => bd (eqN sl neg v u) K
  | .eqa _ neg ks x y => bd (evO σ x) fun v => bd (evO σ y) fun u => bd (eqA neg ks v u) K
  | .un _ op x => bd (evO σ x) fun v => bd (unV op v) K
  | .len _ sl x => bd (evO σ x) fun v => bd (lenV sl v) K
  | .cap _ x => bd (evO σ x) fun v => bd (capV v) K
  | .mm _ mx x y => bd (evO σ x) fun v => bd (evO σ y) fun u => bd (maxV mx v u) K
  | .cvt _ k x => bd (evO σ x) fun v => bd (cvtV k v) K
  | .bld _ zero parts => bd (fillL σ zero parts) fun cs => K (.agg cs.toArray)
  | .fn _ f caps => bd (evOs σ caps) fun cs => K (.func (.func f) #[] cs.toArray)
  | .nch _ x => bd (evO σ x) fun v => bd (nchV v) K
  | _ => False

/-- What an operation that is over leaves. -/
def nextV : Next → Option Value
  | .value v => some v
  | .skip => some undef
  | _ => none

/-- Any operation, as the model runs it: it must yield a value, or nothing. -/
def RawW (P : Program) (o : Oper) (σ : Env) (h : Heap) (K : Value → Heap → Prop) : Prop :=
  (∀ x ∈ o.op.operands, (evO σ x).isSome = true) ∧ (∀ cs b, o.op ≠ .select cs b) ∧
  ∀ w : World, w.heap = h → ∃ r v w', (execOp (fun x => (evO σ x).getD undef) o).run P w = .ok r w' ∧ nextV r = some v ∧ Same w w' ∧ K v w'.heap

/-- A function that has a body. -/
def callable (P : Program) (f : FuncId) : Bool := match P.funcs[f]? with | some fn => !(fn.body.isNone || fn.name == "runtime.NumGoroutine") | none => false

/-- What an instruction that may turn the heap does. -/
def wE (P : Program) (h : Heap) (σ : Env) (j : J) (K : Value → Heap → Prop) : Prop :=
  match j with
  | .new _ t zero => K (ptr h.size 0) (h.push (.cells zero.toArray t))
  | .box _ t x => bd (evO σ x) fun v => K (ptr h.size 0) (h.push (.cells v.cells t))
  | .bsl _ t n zero parts => bd (fillL σ zero parts) fun cs => K (sl h.size 0 n n) (h.push (.cells cs.toArray t))
  | .st n x v => bd (evO σ x) fun p => bd (asP p) fun q => bd (evO σ v) fun u => u.cells.size = n ∧ wrOk h q.1 q.2 u.cells.toList ∧ K undef (wr h q.1 q.2 u.cells.toList)
  | .call _ f args => bd (evOs σ args) fun vs => CallsH P f vs h K
  | .cav _ x args => bd (evO σ x) fun v => bd (evOs σ args) fun vs => match v with
    | .func (.func f) first caps => callable P f = true ∧ CallsH P f (first.toList ++ vs ++ caps.toList) h K
    | _ => False
  | .raw _ o => RawW P o σ h K
  | _ => False

def wJ (P : Program) (m : Option Md) (j : J) (C : Env → Heap → Prop) (σ : Env) (h : Heap) : Prop :=
  if j.take then wV m h σ j fun v => C (putE σ j.dst v) h
  else wE P h σ j fun v h' => kpOk m h h' ∧ C (putE σ j.dst v) h'

inductive I where
  /-- forget all temporaries but these -/
  | kp (l : List Nat)
  /-- 'a && b', 'a || b': if temporary c is not w, the next n instructions are not carried out -/
  | sc (c : Nat) (w : Bool) (n : Nat)
  | g (c : Nat) (w : Bool) (j : J)
  | op (j : J)
  deriving Inhabited

def notB (v : Value) (w : Bool) : Bool := match v with | .bool t => t != w | _ => true

/-- Two ways. -/
def br (t : Bool) (A B : Prop) : Prop := (t = true → A) ∧ (t = false → B)
theorem br_true (A B : Prop) : br true A B = A := by simp [br]
theorem br_false (A B : Prop) : br false A B = B := by simp [br]

def wL (P : Program) (m : Option Md) : List I → Nat → (Env → Heap → Prop) → Env → Heap → Prop
  | [], _, C, σ, h => C σ h
  | .kp l :: r, 0, C, σ, h => wL P m r 0 C (keep l σ) h
  | .sc c w n :: r, 0, C, σ, h => bd (look σ c) fun v => bd (asB v) fun t => br (t == w) (wL P m r 0 C ((c, .bool w) :: σ) h) (wL P m r n C ((c, .bool (!w)) :: σ) h)
  | .op j :: r, 0, C, σ, h => wJ P m j (fun σ h => wL P m r 0 C σ h) σ h
  | .g c w j :: r, 0, C, σ, h => look σ c = some (.bool w) ∧ wJ P m j (fun σ h => wL P m r 0 C σ h) σ h
  | .kp _ :: r, k + 1, C, σ, h => wL P m r k C σ h
  | .sc _ _ _ :: r, k + 1, C, σ, h => wL P m r k C σ h
  | .op _ :: _, _ + 1, _, _, _ => False
  | .g c w j :: r, k + 1, C, σ, h => bd (look σ c) fun v => notB v w = true ∧ wL P m r k C (putE σ j.dst undef) h

/-- The ways through a region that draws, where which operation comes next is open. -/
inductive L where
  | nil
  | one (is : List I) (r : L)
  | alt (a b : L)
  deriving Inhabited

/-- Code. -/
inductive C where
  | skip
  /-- a region that keeps the text's order -/
  | reg (is : List I)
  /-- a region that draws its order: the operations may be taken in this order -/
  | drw (is : List I)
  /-- the same, with several orders -/
  | drt (t : L)
  | seq (a b : C)
  | cond (x : Operand) (a b : C)
  | block (id : Nat) (a : C)
  | loop (a : C)
  | exit (id : Nat)
  | ret
  deriving Inhabited

inductive X where
  | normal | exit (id : Nat) | ret
  deriving DecidableEq

def X.then (next : Env → Heap → Prop) (Q : X → Env → Heap → Prop) : X → Env → Heap → Prop
  | .normal, σ, h => next σ h
  | e, σ, h => Q e σ h
def X.inBlock (id : Nat) (Q : X → Env → Heap → Prop) : X → Env → Heap → Prop
  | .exit i, σ, h => if i = id then Q .normal σ h else Q (.exit i) σ h
  | e, σ, h => Q e σ h

/-- A loop, by an invariant that bears a number, which every round lowers. -/
def loopW (body : (X → Env → Heap → Prop) → Env → Heap → Prop) (Q : X → Env → Heap → Prop) (σ : Env) (h : Heap) : Prop :=
  ∃ (Inv : Nat → Env → Heap → Prop) (n : Nat), Inv n σ h ∧ ∀ n σ h, Inv n σ h → body (X.then (fun σ' h' => ∃ n', n' < n ∧ Inv n' σ' h') Q) σ h

/-- A region that draws: the blocks that are read are chosen. -/
def drwW (P : Program) (is : List I) (Q : Env → Heap → Prop) (σ : Env) (h : Heap) : Prop :=
  ∃ p : Nat → Prop, (∀ b, p b → b < h.size) ∧ wL P (some ⟨p, h⟩) is 0 Q σ h

def wT (P : Program) (m : Option Md) : L → (Env → Heap → Prop) → Env → Heap → Prop
  | .nil, C, σ, h => C σ h
  | .one is r, C, σ, h => wL P m is 0 (fun σ h => wT P m r C σ h) σ h
  | .alt a b, C, σ, h => wT P m a C σ h ∧ wT P m b C σ h
def drtW (P : Program) (t : L) (Q : Env → Heap → Prop) (σ : Env) (h : Heap) : Prop :=
  ∃ p : Nat → Prop, (∀ b, p b → b < h.size) ∧ wT P (some ⟨p, h⟩) t Q σ h

/-- One behind the other, the first one's parts first. -/
def sq : C → C → C
  | .skip, c => c
  | .seq a b, c => .seq a (sq b c)
  | a, c => .seq a c

def wC (P : Program) : C → (X → Env → Heap → Prop) → Env → Heap → Prop
  | .skip, Q, σ, h => Q .normal σ h
  | .reg is, Q, σ, h => wL P none is 0 (Q .normal) σ h
  | .drw is, Q, σ, h => drwW P is (Q .normal) σ h
  | .drt t, Q, σ, h => drtW P t (Q .normal) σ h
  | .seq a b, Q, σ, h => wC P a (X.then (wC P b Q) Q) σ h
  | .cond x a b, Q, σ, h => bd (evO σ x) fun v => bd (asB v) fun t => br t (wC P a Q σ h) (wC P b Q σ h)
  | .block id a, Q, σ, h => wC P a (X.inBlock id Q) σ h
  | .loop a, Q, σ, h => loopW (wC P a) Q σ h
  | .exit id, Q, σ, h => Q (.exit id) σ h
  | .ret, Q, σ, h => Q .ret σ h

inductive Rs where
  | tmp (t : Nat)
  | cell (t : Nat) (n : Nat)      -- a struct of n cells in memory
def resV (h : Heap) (σ : Env) : List Rs → Option (List Value)
  | [] => some []
  | .tmp t :: r => (look σ t).bind fun v => (resV h σ r).map (v :: ·)
  | .cell t n :: r => (look σ t).bind fun v => (asP v).bind fun q => (rd h q.1 q.2 n).bind fun l => (resV h σ r).map (.agg l.toArray :: ·)
def one : List Value → Value
  | [v] => v
  | vs => .tuple vs.toArray

/-- The end of a function. -/
def endW (res : List Rs) (R : Value → Heap → Prop) : X → Env → Heap → Prop
  | .exit _, _, _ => False
  | _, σ, h => bd (resV h σ res) fun vs => R (one vs) h

def envOf : Nat → List Value → Env
  | _, [] => []
  | i, v :: vs => (i, v) :: envOf (i + 1) vs

/-! ### From the model's operations -/

def dst1 (n : Nat) (o : Oper) : Option Nat := match o.dst with | some d => if d < n then some d else none | none => none
def dst0 (n : Nat) (o : Oper) : Option (Option Nat) := match o.dst with | some d => if d < n then some (some d) else none | none => some none

/-- How many cells, if it is a struct or an array. -/
def aggSz (P : Program) (t : TypeId) : Option (Option Nat) :=
  match P.underlying t with
  | some (.struct _) | some (.array _ _) => (P.info? t).map fun i => some i.size
  | some _ => some none
  | none => none
def sizeT (P : Program) (t : TypeId) : Option Nat := (P.info? t).map (·.size)
def zeroT (P : Program) (t : TypeId) : Option (List Value) := (P.info? t).bind fun i => i.zero.map fun z => z.cells.toList

/-- The kinds of the cells of fields that lie one behind the other from o on. -/
def flatFs (ft : TypeId → Option (List Kd)) : Nat → List Field → Option (List Kd)
  | _, [] => some []
  | o, f :: fs => if f.name = "_" ∨ f.offset ≠ o then none else (ft f.type).bind fun a => if a.length = 0 then none else (flatFs ft (o + a.length) fs).map (a ++ ·)
/-- The kinds of the cells of a type of numbers, bools, strings and structs of them; d: a depth. -/
def flatT (P : Program) : Nat → TypeId → Option (List Kd)
  | 0, _ => none
  | d + 1, t =>
    match P.underlying t with
    | some (.int k) => some [.i k]
    | some .bool => some [.b]
    | some .string => some [.s]
    | some (.struct fs) => if P.stoodInHeld t then none else (flatFs (flatT P d) 0 fs.toList).bind fun ks => if sizeT P t = some ks.length then some ks else none
    | _ => none

def partsOf (P : Program) (t : TypeId) : List (Nat × Operand) → Option (List (Nat × Nat × Operand))
  | [] => some []
  | (i, x) :: r =>
    match P.underlying t with
    | some (.struct fs) => (fs[i]?).bind fun f => (sizeT P f.type).bind fun s => (partsOf P t r).map ((f.offset, s, x) :: ·)
    | _ => none
/-- Is it a struct whose fields' sizes are known? -/
def fieldsOk (P : Program) (t : TypeId) : Bool :=
  match P.underlying t with
  | some (.struct fs) => fs.toList.all fun f => (sizeT P f.type).isSome
  | _ => false
def partsSl (sz : Nat) : List (Nat × Operand) → List (Nat × Nat × Operand)
  | [] => []
  | (i, x) :: r => (i * sz, sz, x) :: partsSl sz r

def cmpJ (P : Program) (n : Nat) (o : Oper) : Option J :=
  match o.op with
  | .move x | .assign x => (dst1 n o).map (.mov · x)
  | .pick c a b => (dst1 n o).map (.pick · c a b)
  | .load t x => (dst1 n o).bind fun d => (aggSz P t).map fun s => .ld d s x
  | .store t x v => match o.dst with | none => (sizeT P t).map fun s => .st s x v | some _ => none
  | .fieldAddr s x f => (dst1 n o).bind fun d => match P.underlying s with
    | some (.struct fs) => (fs[f]?).bind fun fl => (sizeT P fl.type).bind fun z => if z = 0 then none else some (.fad d fl.offset x)
    | _ => none
  | .indexAddr t x i => (dst1 n o).bind fun d => match P.underlying t with
    | some (.slice e) => (sizeT P e).map fun z => .iad d z x i
    | _ => none
  | .slice t x lo hi mx => (dst1 n o).bind fun d => match P.underlying t with
    | some (.slice e) => if (mx.isSome && hi.isNone) then none else (sizeT P e).map fun z => .slc d z x lo hi mx
    | _ => none
  | .extract x i => (dst1 n o).map (.ext · x i)
  | .binOp op t x y _ => (dst1 n o).bind fun d => match op, P.underlying t with
    | .eql, some .bool => some (.eqb d false x y)
    | .neq, some .bool => some (.eqb d true x y)
    | .eql, some (.pointer _) => some (.eqn d false false x y)
    | .eql, some (.slice _) => some (.eqn d true false x y)
    | .neq, some (.pointer _) => some (.eqn d false true x y)
    | .neq, some (.slice _) => some (.eqn d true true x y)
    | .eql, some (.struct _) => if P.eqGuardType P.depth t = false then (flatT P 20 t).map fun ks => .eqa d false ks x y else none
    | .neq, some (.struct _) => if P.eqGuardType P.depth t = false then (flatT P 20 t).map fun ks => .eqa d true ks x y else none
    | .shl, _ | .shr, _ | .quo, _ | .rem, _ => some (.raw (some d) o)
    | _, some (.int _) | _, some .string => some (.bin d op x y)
    | _, _ => none
  | .unOp op _ x => (dst1 n o).map (.un · op x)
  | .build t parts => (dst1 n o).bind fun d => if fieldsOk P t = true then (zeroT P t).bind fun z => (partsOf P t parts.toList).map fun ps => .bld d z ps else none
  | .makeFunc (.func f) first caps => if first.size = 0 then (dst1 n o).map (.fn · f caps.toList) else none
  | .nilCheck x => (dst0 n o).map (.nch · x)
  | .alloc t => (dst1 n o).bind fun d => (zeroT P t).map fun z => .new d t z
  | .box t x => (dst1 n o).map (.box · t x)
  | .buildSlice t len parts => (dst1 n o).bind fun d => match P.underlying t with
    | some (.slice e) => (sizeT P e).bind fun z => if len = 0 then (if parts.size = 0 then some (.bsl d e 0 [] []) else none) else if len * z > 2 ^ 24 ∨ z = 0 then none else (zeroT P e).bind fun zc => if zc.length = 0 then none else
        some (.bsl d e len ((List.range (len * z)).map fun i => zc.getD (i % zc.length) undef) (partsSl z parts.toList))
    | _ => none
  | .convert s t x => (dst1 n o).bind fun d => match P.underlying s, P.underlying t with
    | some (.int _), some (.int k) => some (.cvt d k x)
    | some _, some _ => some (.raw (some d) o)
    | _, _ => none
  | .call c => match c.callee with
    | .value (.func f) => if callable P f = true then (dst0 n o).map (.call · f c.args.toList) else (dst0 n o).map (.raw · o)
    | .value x => (dst0 n o).map (.cav · x c.args.toList)
    | .builtin .len => (dst1 n o).bind fun d => match (c.argTypes[0]?).bind P.underlying, c.args.toList with
      | some .string, [x] => some (.len d false x)
      | some (.slice _), [x] => some (.len d true x)
      | _, _ => none
    | .builtin .cap => (dst1 n o).bind fun d => match (c.argTypes[0]?).bind P.underlying, c.args.toList with
      | some (.slice _), [x] => some (.cap d x)
      | _, _ => none
    | .builtin .max => (dst1 n o).bind fun d => match c.args.toList with
      | [x, y] => some (.mm d true x y)
      | _ => none
    | .builtin .min => (dst1 n o).bind fun d => match c.args.toList with
      | [x, y] => some (.mm d false x y)
      | _ => none
    | .builtin .append | .builtin .copy | .builtin .clear => (dst0 n o).map (.raw · o)
    | _ => none
  | .makeMap .. | .lookup .. | .mapEntry .. | .entryStore .. | .makeSlice .. => (dst0 n o).map (.raw · o)
  | _ => none

/-- What the printed plan says of each step: operation number i of the region; forget; a guard. -/
inductive St where
  | o (i : Nat)
  | kp (l : List Nat)
  | sc (c : Nat) (w : Bool) (n : Nat)

def cmpO (P : Program) (n : Nat) (ops : Array Oper) (i : Nat) : Option I :=
  (ops[i]?).bind fun o => (cmpJ P n o).bind fun j => match o.guard with
    | none => some (.op j)
    | some (g, w) => ((ops[g]?).bind (·.dst)).map fun c => .g c w j

def cmpL (P : Program) (n : Nat) (ops : Array Oper) : List St → Option (List I)
  | [] => some []
  | .kp l :: r => (cmpL P n ops r).map (.kp l :: ·)
  | .sc c w k :: r => (cmpL P n ops r).map (.sc c w k :: ·)
  | .o i :: r => (cmpO P n ops i).bind fun x => (cmpL P n ops r).map (x :: ·)

def ordOf : List St → List Nat
  | [] => []
  | .o i :: r => i :: ordOf r
  | _ :: r => ordOf r

end Go.AX
/-
  The small instruction language: what it says of an operation is what the model does.
-/
namespace Go.AX
open Go

/-! ### The frame and the partial environment -/

structure Agr (n : Nat) (σ : Env) (a : Act) : Prop where
  size : a.tmps.size = n
  defers : a.defers = []
  at_ : ∀ s v, look σ s = some v → a.tmps[s]? = some v

theorem Agr.eval {n : Nat} {σ : Env} {a : Act} (h : Agr n σ a) {x : Operand} {v : Value} (hx : evO σ x = some v) : a.eval x = v := by
  cases x with
  | tmp t =>
    have := h.at_ t v hx
    simp [Act.eval, Array.getD_eq_getD_getElem?, this]
  | const u => simpa [evO, Act.eval] using hx
  | global g => simpa [evO, Act.eval] using hx
  | func f => simpa [evO, Act.eval] using hx

theorem Agr.evals {n : Nat} {σ : Env} {a : Act} (h : Agr n σ a) : ∀ {xs : List Operand} {vs : List Value}, evOs σ xs = some vs → xs.map a.eval = vs
  | [], vs, hx => by simpa [evOs] using hx
  | x :: xs, vs, hx => by
    simp only [evOs, Option.bind_eq_some_iff, Option.map_eq_some_iff] at hx
    obtain ⟨v, hv, us, hus, rfl⟩ := hx
    simp [h.eval hv, Agr.evals h hus]

theorem Agr.evalo {n : Nat} {σ : Env} {a : Act} (h : Agr n σ a) {x : Option Operand} {v : Option Value} (hx : evOo σ x = some v) : x.map a.eval = v := by
  cases x with
  | none => simpa [evOo] using hx
  | some x =>
    simp only [evOo, Option.map_eq_some_iff] at hx
    obtain ⟨u, hu, rfl⟩ := hx
    simp [h.eval hu]

theorem Agr.put {n : Nat} {σ : Env} {a : Act} (h : Agr n σ a) {d : Option Nat} (hd : ∀ k, d = some k → k < n) (v : Value) : Agr n (putE σ d v) (a.put d v) := by
  cases d with
  | none => exact h
  | some d =>
    have hdn := hd d rfl
    refine ⟨by simp [Act.put, h.size], h.defers, fun s u hs => ?_⟩
    simp only [putE, look] at hs
    split at hs
    · rename_i e
      subst e
      cases hs
      simp [Act.put, h.size, hdn]
    · rename_i e
      simp only [Act.put]
      rw [Array.getElem?_setIfInBounds_ne (by omega)]
      exact h.at_ s u hs

theorem Agr.keep {n : Nat} {σ : Env} {a : Act} (h : Agr n σ a) (l : List Nat) : Agr n (keep l σ) a :=
  ⟨h.size, h.defers, fun s v hs => h.at_ s v (look_keep l σ s v hs)⟩

theorem Agr.same {n : Nat} {σ : Env} {a : Act} (h : Agr n σ a) {c : Nat} {v : Value} (hc : look σ c = some v) : Agr n ((c, v) :: σ) a :=
  ⟨h.size, h.defers, fun s u hs => by
    simp only [look] at hs
    split at hs
    · rename_i e; subst e; cases hs; exact h.at_ _ _ hc
    · exact h.at_ s u hs⟩

/-! ### Cells -/

theorem cel_cell (w : World) (b o : Nat) : w.cell? ⟨b, o, none⟩ = cel w.heap b o := by
  unfold World.cell? cel
  split <;> simp_all

theorem add_mk (b o n : Nat) : (⟨b, o, none⟩ : Addr).add n = ⟨b, o + n, none⟩ := by
  unfold Addr.add
  split
  · subst_vars; rfl
  · rfl

theorem rd_at {h : Heap} {b : Nat} : ∀ {n o : Nat} {l : List Value}, rd h b o n = some l → l.length = n ∧ ∀ j v, l[j]? = some v → cel h b (o + j) = some v
  | 0, o, l, hl => by simp only [rd, Option.some.injEq] at hl; subst hl; simp
  | n + 1, o, l, hl => by
    simp only [rd, Option.bind_eq_some_iff, Option.map_eq_some_iff] at hl
    obtain ⟨v, hv, vs, hvs, rfl⟩ := hl
    obtain ⟨h1, h2⟩ := rd_at hvs
    refine ⟨by simp [h1], fun j u hj => ?_⟩
    cases j with
    | zero => simp at hj; subst hj; simpa using hv
    | succ j =>
      have := h2 j u (by simpa using hj)
      rw [← this]; congr 1; omega

theorem run_loadCells_rd {P : Program} (w : World) {b o n : Nat} {l : List Value} (h : rd w.heap b o n = some l) :
    (loadCells ⟨b, o, none⟩ n).run P w = .ok l.toArray w := by
  obtain ⟨h1, h2⟩ := rd_at h
  subst h1
  exact run_loadCells_list w _ l fun j v hj => by rw [add_mk, cel_cell]; exact h2 j v hj

theorem cel_of_heapOk {m : Option Md} {h hp : Heap} (hk : heapOk m h hp) {b : Nat} (hb : ldOk m b) (o : Nat) : cel hp b o = cel (ldHeap m h) b o := by
  cases m with
  | none => have e : hp = h := hk; subst e; rfl
  | some m => unfold cel; rw [hk b hb]; rfl

theorem rd_of_heapOk {m : Option Md} {h hp : Heap} (hk : heapOk m h hp) {b : Nat} (hb : ldOk m b) : ∀ (n o : Nat), rd hp b o n = rd (ldHeap m h) b o n
  | 0, _ => rfl
  | n + 1, o => by simp only [rd, cel_of_heapOk hk hb, rd_of_heapOk hk hb n]

theorem patch_size : ∀ (vs : List Value) (c : Array Value) (o : Nat), (patch c o vs).size = c.size
  | [], _, _ => rfl
  | v :: vs, c, o => by simp [patch, patch_size vs]

theorem run_storeCells_wr {P : Program} : ∀ (vs : List Value) (i b o : Nat) (w : World), wrOk w.heap b (o + i) vs →
    (storeCells ⟨b, o, none⟩ vs i).run P w = .ok () { w with heap := wr w.heap b (o + i) vs }
  | [], i, b, o, w, _ => by
    simp only [storeCells, Sem.run_pure, wr]
    have : w.heap.modify b (wrObj (o + i) []) = w.heap := by
      apply Array.ext_getElem?
      intro k
      rw [Array.getElem?_modify]
      split
      · cases w.heap[k]? with
        | none => rfl
        | some x => cases x <;> rfl
      · rfl
    rw [this]
  | v :: vs, i, b, o, w, ⟨c, t, hc, hl, h1⟩ => by
    have hi : o + i < c.size := by simp at hl; omega
    have hcell : w.cell? ⟨b, o + i, none⟩ = some c[o + i] := by simp [World.cell?, hc, hi]
    have hfro : w.frozen? ⟨b, o + i, none⟩ = false := by simp [World.frozen?, hc]
    have hset : w.setCell ⟨b, o + i, none⟩ v = { w with heap := wr w.heap b (o + i) [v] } := by
      unfold World.setCell wr
      congr 1
    have hst : (store ((⟨b, o, none⟩ : Addr).add i) v).run P w = .ok () { w with heap := wr w.heap b (o + i) [v] } := by
      rw [add_mk, run_store P w _ v _ (h1 v (by simp)), hcell]
      simp [hfro, hset]
    simp only [storeCells, Sem.run_bind, hst, Result.andThen_ok]
    have hb : b < w.heap.size := (Array.getElem?_eq_some_iff.1 hc).1
    rw [run_storeCells_wr vs (i + 1) b o _ ⟨c.setIfInBounds (o + i) v, t, by simp [wr, Array.getElem?_modify, hc, wrObj, patch], by simp at hl ⊢; omega, fun u hu => h1 u (by simp [hu])⟩]
    congr 2
    apply Array.ext_getElem?
    intro k
    simp only [wr, Array.getElem?_modify]
    split
    · cases w.heap[k]? with
      | none => rfl
      | some x => cases x <;> rfl
    · rfl

/-! ### Types -/

theorem dst1_some {n : Nat} {o : Oper} {d : Nat} (h : dst1 n o = some d) : o.dst = some d ∧ d < n := by
  unfold dst1 at h
  split at h
  · split at h
    · cases h; exact ⟨by assumption, by assumption⟩
    · cases h
  · cases h
theorem dst0_some {n : Nat} {o : Oper} {d : Option Nat} (h : dst0 n o = some d) : o.dst = d ∧ ∀ k, d = some k → k < n := by
  unfold dst0 at h
  split at h
  · split at h
    · cases h
      refine ⟨by assumption, fun k hk => ?_⟩
      cases hk; assumption
    · cases h
  · cases h
    exact ⟨by assumption, fun k hk => by cases hk⟩

theorem run_sizeOf' {P : Program} {t : TypeId} {s : Nat} (h : sizeT P t = some s) (w : World) : (sizeOf t).run P w = .ok s w := by
  unfold sizeT at h
  obtain ⟨i, hi, rfl⟩ := Option.map_eq_some_iff.1 h
  simp [sizeOf, typeInfo, hi]
theorem run_zeroValue' {P : Program} {t : TypeId} {z : List Value} (h : zeroT P t = some z) (w : World) : ∃ v, (zeroValue t).run P w = .ok v w ∧ v.cells = z.toArray := by
  unfold zeroT at h
  simp only [Option.bind_eq_some_iff, Option.map_eq_some_iff] at h
  obtain ⟨i, hi, v, hv, rfl⟩ := h
  exact ⟨v, by simp [zeroValue, typeInfo, hi, hv], by simp⟩
theorem run_isAgg' {P : Program} {t : TypeId} {s : Option Nat} (h : aggSz P t = some s) (w : World) : (isAgg t).run P w = .ok s.isSome w ∧ ∀ n, s = some n → sizeT P t = some n := by
  unfold aggSz at h
  split at h
  · rename_i hu
    obtain ⟨i, hi, rfl⟩ := Option.map_eq_some_iff.1 h
    refine ⟨by simp [isAgg, run_underlying hu], fun n hn => ?_⟩
    cases hn; simp [sizeT, hi]
  · rename_i hu
    obtain ⟨i, hi, rfl⟩ := Option.map_eq_some_iff.1 h
    refine ⟨by simp [isAgg, run_underlying hu], fun n hn => ?_⟩
    cases hn; simp [sizeT, hi]
  · rename_i d h1 h2 hu
    cases h
    refine ⟨?_, fun n hn => by cases hn⟩
    simp only [isAgg, Sem.run_bind, run_underlying hu, Result.andThen_ok]
    cases d <;> first | rfl | exact absurd hu (h1 _) | exact absurd hu (h2 _ _)
  · cases h

theorem asP_some {v : Value} {q : Nat × Nat} (h : asP v = some q) : v = ptr q.1 q.2 := by
  unfold asP at h
  split at h
  · cases h; rfl
  · cases h
theorem asSl_some {v : Value} {q : Nat × Nat × Nat × Nat} (h : asSl v = some q) : v = sl q.1 q.2.1 q.2.2.1 q.2.2.2 := by
  unfold asSl at h
  split at h
  · cases h; rfl
  · cases h
theorem asI_some {v : Value} {n : Int} (h : asI v = some n) : ∃ k, v = .int k n := by
  unfold asI at h
  split at h
  · cases h; exact ⟨_, rfl⟩
  · cases h
theorem asB_some {v : Value} {b : Bool} (h : asB v = some b) : v = .bool b := by
  unfold asB at h
  split at h
  · cases h; rfl
  · cases h

end Go.AX
/-
  The small instruction language: the operations that leave the heap alone.
-/
namespace Go.AX
open Go

/-! ### '==' of structs of numbers, bools and strings -/

/-- The value of a type whose cells these are. -/
def mkV (P : Program) (t : TypeId) (xs : List Value) : Value :=
  match P.underlying t with
  | some (.struct _) => .agg xs.toArray
  | _ => xs.headD undef

theorem flatT_size {P : Program} {d : Nat} {t : TypeId} {ks : List Kd} (h : flatT P d t = some ks) :
    (∃ fs, P.underlying t = some (.struct fs) ∧ sizeT P t = some ks.length) ∨ (ks.length = 1 ∧ ∃ u, P.underlying t = some u ∧ (isAgg t).run P = fun w => .ok false w) := by
  cases d with
  | zero => cases h
  | succ d =>
    unfold flatT at h
    split at h
    · rename_i hu; cases h; exact .inr ⟨rfl, _, hu, by funext w; simp [isAgg, run_underlying hu]⟩
    · rename_i hu; cases h; exact .inr ⟨rfl, _, hu, by funext w; simp [isAgg, run_underlying hu]⟩
    · rename_i hu; cases h; exact .inr ⟨rfl, _, hu, by funext w; simp [isAgg, run_underlying hu]⟩
    · rename_i hu
      split at h
      · cases h
      · simp only [Option.bind_eq_some_iff] at h
        obtain ⟨a, _, h⟩ := h
        split at h
        · cases h; exact .inl ⟨_, hu, by assumption⟩
        · cases h
    · cases h

theorem run_part_flat {P : Program} {d : Nat} {t : TypeId} {ks : List Kd} (h : flatT P d t = some ks) (xs : List Value) (o : Nat) (hl : o + ks.length ≤ xs.length) (w : World) :
    (part t xs.toArray o).run P w = .ok (mkV P t ((xs.drop o).take ks.length)) w := by
  rcases flatT_size h with ⟨fs, hu, hs⟩ | ⟨h1, u, hu, ha⟩
  · have hagg : (isAgg t).run P w = .ok true w := by simp [isAgg, run_underlying hu]
    simp only [part, Sem.run_bind, hagg, Result.andThen_ok, if_true, run_sizeOf' hs, Sem.run_pure, mkV, hu]
    congr 2
    simp
  · have hlt : o < xs.length := by omega
    have hx : (List.take ks.length (List.drop o xs)) = [xs[o]] := by
      rw [h1, List.drop_eq_getElem_cons hlt]; rfl
    have hget : xs.toArray[o]? = some xs[o] := by simp [hlt]
    have hns : ∀ fs, u ≠ .struct fs := by
      rintro fs rfl
      have := congrFun ha w
      simp [isAgg, run_underlying hu] at this
    simp only [part, Sem.run_bind, ha, Result.andThen_ok, Bool.false_eq_true, if_false, hget, Sem.run_pure, mkV, hu, hx]
    cases u <;> first | rfl | exact absurd rfl (hns _)

theorem eqKds_length : ∀ {ks : List Kd} {xs ys : List Value} {b : Bool}, eqKds ks xs ys = some b → xs.length = ks.length ∧ ys.length = ks.length
  | [], [], [], _, _ => ⟨rfl, rfl⟩
  | [], [], _ :: _, _, h => by cases h
  | [], _ :: _, _, _, h => by cases h
  | _ :: _, [], _, _, h => by cases h
  | _ :: _, _ :: _, [], _, h => by cases h
  | k :: ks, x :: xs, y :: ys, b, h => by
    simp only [eqKds, Option.bind_eq_some_iff, Option.map_eq_some_iff] at h
    obtain ⟨a, _, c, hc, _⟩ := h
    obtain ⟨h1, h2⟩ := eqKds_length hc
    exact ⟨by simp [h1], by simp [h2]⟩

theorem eqKds_append : ∀ (a : List Kd) {ks : List Kd} {xs ys : List Value} {b : Bool}, eqKds (a ++ ks) xs ys = some b →
    ∃ b1 b2, eqKds a (xs.take a.length) (ys.take a.length) = some b1 ∧ eqKds ks (xs.drop a.length) (ys.drop a.length) = some b2 ∧ b = (b1 && b2)
  | [], ks, xs, ys, b, h => ⟨true, b, by simp [eqKds], by simpa using h, by simp⟩
  | k :: a, ks, xs, ys, b, h => by
    match xs, ys, h with
    | x :: xs, y :: ys, h =>
      simp only [List.cons_append, eqKds, Option.bind_eq_some_iff, Option.map_eq_some_iff] at h
      obtain ⟨c, hc, e, he, rfl⟩ := h
      obtain ⟨b1, b2, h1, h2, rfl⟩ := eqKds_append a he
      exact ⟨c && b1, b2, by simp [eqKds, hc, h1], by simpa using h2, by simp [Bool.and_assoc]⟩

theorem eqFields_flat {P : Program} (d D : Nat) (xs ys : List Value) (w : World)
    (ih : ∀ t ks xs ys b, flatT P d t = some ks → eqKds ks xs ys = some b → (Op.equalIn D t (mkV P t xs) (mkV P t ys)).run P w = .ok b w) :
    ∀ (fs : List Field) (o : Nat) (ks : List Kd) (b : Bool), flatFs (flatT P d) o fs = some ks → eqKds ks (xs.drop o) (ys.drop o) = some b →
      (Op.eqFields D xs.toArray ys.toArray fs).run P w = .ok b w
  | [], o, ks, b, h, hb => by
    cases h
    have : b = true := by
      cases hx : xs.drop o <;> cases hy : ys.drop o <;> simp [hx, hy, eqKds] at hb
      exact hb
    subst this
    rfl
  | f :: fs, o, ks, b, h, hb => by
    unfold flatFs at h
    split at h
    · cases h
    · rename_i hno
      have hname : f.name ≠ "_" := fun e => hno (.inl e)
      have hoff : f.offset = o := Classical.byContradiction fun e => hno (.inr e)
      simp only [Option.bind_eq_some_iff] at h
      obtain ⟨a, ha, h⟩ := h
      split at h
      · cases h
      rename_i hpos
      obtain ⟨ks', hks', rfl⟩ := Option.map_eq_some_iff.1 h
      obtain ⟨b1, b2, h1, h2, rfl⟩ := eqKds_append a hb
      obtain ⟨l1, l2⟩ := eqKds_length h1
      rw [List.length_take, List.length_drop] at l1 l2
      have hxl : o + a.length ≤ xs.length := by omega
      have hyl : o + a.length ≤ ys.length := by omega
      have p1 := run_part_flat ha xs o hxl w
      have p2 := run_part_flat ha ys o hyl w
      have he := ih f.type a _ _ b1 ha h1
      simp only [Op.eqFields, hname, ne_eq, not_false_eq_true, if_true, hoff, Sem.run_bind, p1, p2, Result.andThen_ok, he]
      cases b1 with
      | false => simp
      | true =>
        simp only [Bool.not_true, Bool.false_eq_true, if_false, Bool.true_and]
        exact eqFields_flat d D xs ys w ih fs (o + a.length) ks' b2 hks' (by simpa [List.drop_drop, Nat.add_comm] using h2)

theorem equalIn_flat {P : Program} (w : World) : ∀ (d D : Nat), d ≤ D → ∀ (t : TypeId) (ks : List Kd) (xs ys : List Value) (b : Bool), flatT P d t = some ks → eqKds ks xs ys = some b →
    (Op.equalIn D t (mkV P t xs) (mkV P t ys)).run P w = .ok b w
  | 0, _, _, _, _, _, _, _, h, _ => by cases h
  | d + 1, 0, hD, _, _, _, _, _, _, _ => by omega
  | d + 1, D + 1, hD, t, ks, xs, ys, b, h, hb => by
    unfold flatT at h
    split at h
    · rename_i k hu
      cases h
      match xs, ys, hb with
      | x :: xs, y :: ys, hb =>
        simp only [eqKds, Option.bind_eq_some_iff, Option.map_eq_some_iff] at hb
        obtain ⟨a, ha, c, hc, rfl⟩ := hb
        obtain ⟨rfl, rfl⟩ : xs = [] ∧ ys = [] := by have := eqKds_length hc; exact ⟨List.eq_nil_of_length_eq_zero this.1, List.eq_nil_of_length_eq_zero this.2⟩
        cases hc
        cases x <;> cases y <;> simp only [eqKd, reduceCtorEq] at ha
        split at ha
        · rename_i hk; obtain ⟨rfl, rfl⟩ := hk
          cases ha
          simp [mkV, hu, Op.equalIn, run_underlying hu]
        · cases ha
    · rename_i hu
      cases h
      match xs, ys, hb with
      | x :: xs, y :: ys, hb =>
        simp only [eqKds, Option.bind_eq_some_iff, Option.map_eq_some_iff] at hb
        obtain ⟨a, ha, c, hc, rfl⟩ := hb
        obtain ⟨rfl, rfl⟩ : xs = [] ∧ ys = [] := by have := eqKds_length hc; exact ⟨List.eq_nil_of_length_eq_zero this.1, List.eq_nil_of_length_eq_zero this.2⟩
        cases hc
        cases x <;> cases y <;> simp only [eqKd, reduceCtorEq] at ha
        cases ha
        simp [mkV, hu, Op.equalIn, run_underlying hu]
    · rename_i hu
      cases h
      match xs, ys, hb with
      | x :: xs, y :: ys, hb =>
        simp only [eqKds, Option.bind_eq_some_iff, Option.map_eq_some_iff] at hb
        obtain ⟨a, ha, c, hc, rfl⟩ := hb
        obtain ⟨rfl, rfl⟩ : xs = [] ∧ ys = [] := by have := eqKds_length hc; exact ⟨List.eq_nil_of_length_eq_zero this.1, List.eq_nil_of_length_eq_zero this.2⟩
        cases hc
        cases x <;> cases y <;> simp only [eqKd, reduceCtorEq] at ha
        cases ha
        simp [mkV, hu, Op.equalIn, run_underlying hu, beq_toListBytes]
    · rename_i fs hu
      split at h
      · cases h
      · rename_i hst
        simp only [Option.bind_eq_some_iff] at h
        obtain ⟨a, ha, h⟩ := h
        split at h
        · cases h
          simp only [mkV, hu]
          have hf : P.fieldsOf t = fs := by simp [Program.fieldsOf, hu]
          rw [run_equalIn_struct w D t _ _ (by rw [hf]; exact hu) (by simpa using hst), hf]
          exact eqFields_flat d D xs ys w (fun t ks xs ys b h1 h2 => equalIn_flat w d D (by omega) t ks xs ys b h1 h2) fs.toList 0 _ b ha (by simpa using hb)
        · cases h
    · cases h
end Go.AX
/-
  The small instruction language: each instruction says what its operation does.
-/
namespace Go.AX
open Go

theorem slcV_run {P : Program} {t e : TypeId} {sz : Nat} (hu : P.underlying t = some (.slice e)) (hs : sizeT P e = some sz) {x : Value} {lo hi mx : Option Value} (hm : mx.isSome = true → hi.isSome = true) {K : Value → Prop}
    (h : slcV sz x lo hi mx K) : ∃ v, K v ∧ ∀ w : World, (Instr.sliceAt t x lo hi mx).run P w = .ok v w := by
  unfold slcV at h
  split at h
  · rename_i a n c
    obtain ⟨m, hm', g1⟩ := bd_elim h
    obtain ⟨hh, hh', g2⟩ := bd_elim g1
    obtain ⟨l, hl', h0, h1, h2, h3, hK⟩ := bd_elim g2
    refine ⟨_, hK, fun w => ?_⟩
    clear hK g1 g2 h
    have b1 : ∀ (x : Value) (i : Int) (y : Nat) (code : BoundsCode), asI x = some i → 0 ≤ i → i ≤ y → (Instr.sliceBound x y code).run P w = .ok i.toNat w := by
      intro x i y code hx h0 h1
      obtain ⟨k, rfl⟩ := asI_some hx
      simp [Instr.sliceBound, asIntOf, h0, h1]
    have hbounds : (Instr.sliceBounds true n c lo hi mx).run P w = .ok (l.toNat, hh.toNat, m.toNat) w := by
      unfold Instr.sliceBounds
      cases mx with
      | none =>
        cases hm'
        cases hi with
        | none =>
          cases hh'
          cases lo with
          | none => cases hl'; simp
          | some v => have hb := b1 v l n .sliceB hl' h0 h1; simp [hb]
        | some v =>
          have hb := b1 v hh c .sliceAcap hh' (by omega) h2
          cases lo with
          | none => cases hl'; simp [hb]
          | some u => have hb2 := b1 u l hh.toNat .sliceB hl' h0 (by omega); simp [hb, hb2]
      | some vm =>
        cases hi with
        | none => simp at hm
        | some v =>
          have hb1 := b1 vm m c .slice3Acap hm' (by omega) h3
          have hb := b1 v hh m.toNat .slice3B hh' (by omega) (by omega)
          cases lo with
          | none => cases hl'; simp [hb, hb1]
          | some u => have hb2 := b1 u l hh.toNat .slice3C hl' h0 (by omega); simp [hb, hb1, hb2]
    simp [Instr.sliceAt, Instr.slice, run_underlying hu, hbounds, run_sizeOf' hs]
  · exact h.elim

theorem putL_eq : ∀ (vs : List Value) (k off : Nat) (cells : Array Value),
    (vs.zipIdx k).foldl (fun cs (x : Value × Nat) => cs.setIfInBounds (off + x.2) x.1) cells = (putL cells.toList (off + k) vs).toArray
  | [], _, _, _ => by simp [putL]
  | v :: vs, k, off, cells => by
    simp only [List.zipIdx_cons, List.foldl_cons, putL]
    rw [putL_eq vs (k + 1) off]
    simp [Nat.add_assoc]

theorem putL_length : ∀ (vs : List Value) (cs : List Value) (o : Nat), (putL cs o vs).length = cs.length
  | [], _, _ => rfl
  | v :: vs, cs, o => by simp [putL, putL_length vs]

inductive All2 {α β : Type} (R : α → β → Prop) : List α → List β → Prop
  | nil : All2 R [] []
  | cons {a : α} {b : β} {l : List α} {m : List β} : R a b → All2 R l m → All2 R (a :: l) (b :: m)

theorem fill_eq {n : Nat} {σ : Env} {a : Act} (ha : Agr n σ a) (place : Nat → Option (Nat × Nat)) : ∀ (parts : List (Nat × Operand)) (ps : List (Nat × Nat × Operand)) (cs out : List Value),
    All2 (fun (p : Nat × Operand) (q : Nat × Nat × Operand) => place p.1 = some (q.1, q.2.1) ∧ p.2 = q.2.2) parts ps → fillL σ cs ps = some out →
    Instr.fill place cs.toArray (parts.map fun p => (p.1, a.eval p.2)) = some out.toArray
  | [], _, cs, out, hf, h => by
    cases hf
    simp only [fillL, Option.some.injEq] at h
    subst h; rfl
  | (i, x) :: parts, (off, size, y) :: ps, cs, out, hf, h => by
    cases hf with
    | cons h1 hf =>
      obtain ⟨hp, rfl⟩ := h1
      simp only [fillL, Option.bind_eq_some_iff] at h
      obtain ⟨v, hv, h⟩ := h
      split at h
      · rename_i hc
        have ih := fill_eq ha place parts ps _ out hf h
        have hp' : place i = some (off, size) := hp
        have e1 : ¬ (v.cells.size ≠ size || decide (off + v.cells.size > cs.toArray.size)) = true := by
          simp only [ne_eq, hc.1, not_true_eq_false, decide_false, Bool.false_or, decide_eq_true_eq]
          simp; omega
        simp only [List.map_cons, Instr.fill, hp', ha.eval hv]
        rw [if_neg (by simpa using e1)]
        have e2 : (Array.foldl (fun (cs : Array Value) (x : Value × Nat) => cs.setIfInBounds (off + x.2) x.1) cs.toArray v.cells.zipIdx) = (putL cs off v.cells.toList).toArray := by
          rw [← Array.foldl_toList, Array.toList_zipIdx]
          simpa using putL_eq v.cells.toList 0 off cs.toArray
        rw [← ih]
        congr 1
      · cases h

theorem partsOf_rel {P : Program} {t : TypeId} {fs : Array Field} (hu : P.underlying t = some (.struct fs)) : ∀ (parts : List (Nat × Operand)) (ps : List (Nat × Nat × Operand)), partsOf P t parts = some ps →
    All2 (fun (p : Nat × Operand) (q : Nat × Nat × Operand) => (∃ f, fs[p.1]? = some f ∧ f.offset = q.1 ∧ sizeT P f.type = some q.2.1) ∧ p.2 = q.2.2) parts ps
  | [], ps, h => by simp only [partsOf, Option.some.injEq] at h; subst h; exact .nil
  | (i, x) :: parts, ps, h => by
    simp only [partsOf, hu, Option.bind_eq_some_iff, Option.map_eq_some_iff] at h
    obtain ⟨f, hf, s, hs, qs, hq, rfl⟩ := h
    exact .cons ⟨⟨f, hf, rfl, hs⟩, rfl⟩ (partsOf_rel hu parts qs hq)

theorem run_mapM_places {P : Program} (w : World) : ∀ (fs : List Field), (fs.all fun f => (sizeT P f.type).isSome) = true →
    (fs.mapM fun f => do pure (f.offset, ← sizeOf f.type) : Sem (List (Nat × Nat))).run P w = .ok (fs.map fun f => (f.offset, (sizeT P f.type).getD 0)) w
  | [], _ => by simp
  | f :: fs, h => by
    simp only [List.all_cons, Bool.and_eq_true] at h
    obtain ⟨s, hs⟩ := Option.isSome_iff_exists.1 h.1
    have ih := run_mapM_places w fs h.2
    simp only [List.mapM_cons, Sem.run_bind, run_sizeOf' hs, Result.andThen_ok, Sem.run_pure, ih, List.map_cons, hs, Option.getD_some]

theorem All2.imp {α β : Type} {R S : α → β → Prop} (h : ∀ a b, R a b → S a b) : ∀ {l : List α} {m : List β}, All2 R l m → All2 S l m
  | _, _, .nil => .nil
  | _, _, .cons a b => .cons (h _ _ a) (All2.imp h b)

section
variable {P : Program} (w : World)
theorem eqIn_bool (d : Nat) {t : TypeId} (hu : P.underlying t = some .bool) (a b : Bool) : (Op.equalIn (d + 1) t (.bool a) (.bool b)).run P w = .ok (a == b) w := run_equalIn_bool w d t a b hu
theorem eqIn_pn (d : Nat) {t e : TypeId} (hu : P.underlying t = some (.pointer e)) (b : Option Addr) : (Op.equalIn (d + 1) t (.pointer none) (.pointer b)).run P w = .ok b.isNone w := by
  simp only [Op.equalIn, Sem.run_bind, run_underlying hu, Result.andThen_ok, Sem.run_pure]
theorem eqIn_np (d : Nat) {t e : TypeId} (hu : P.underlying t = some (.pointer e)) (b : Addr) : (Op.equalIn (d + 1) t (.pointer (some b)) (.pointer none)).run P w = .ok false w := by
  simp only [Op.equalIn, Sem.run_bind, run_underlying hu, Result.andThen_ok, Sem.run_pure]
theorem eqIn_sn (d : Nat) {t e : TypeId} (hu : P.underlying t = some (.slice e)) (b : Option Addr) (n c n' c' : Nat) : (Op.equalIn (d + 1) t (.slice none n c) (.slice b n' c')).run P w = .ok b.isNone w := by
  simp only [Op.equalIn, Sem.run_bind, run_underlying hu, Result.andThen_ok, Sem.run_pure]
theorem eqIn_ns (d : Nat) {t e : TypeId} (hu : P.underlying t = some (.slice e)) (b : Addr) (n c n' c' : Nat) : (Op.equalIn (d + 1) t (.slice (some b) n c) (.slice none n' c')).run P w = .ok false w := by
  simp only [Op.equalIn, Sem.run_bind, run_underlying hu, Result.andThen_ok, Sem.run_pure]
theorem bin_eq {t : TypeId} {x y : Value} {r : Bool} (neg : Bool) (h1 : binOp .eql t x y = do pure (.bool (← Op.equal t x y))) (h2 : binOp .neq t x y = do pure (.bool (!(← Op.equal t x y))))
    (h : (Op.equalIn (9999 + 1) t x y).run P w = .ok r w) : (binOp (if neg then .neq else .eql) t x y).run P w = .ok (.bool (if neg then !r else r)) w := by
  have he : (Op.equal t x y).run P w = .ok r w := h
  cases neg
  · simp only [Bool.false_eq_true, if_false, h1, Sem.run_bind, he, Result.andThen_ok, Sem.run_pure]
  · simp only [if_true, h2, Sem.run_bind, he, Result.andThen_ok, Sem.run_pure]
end

def plainTwo (v u : Value) : Prop := match v, u with | .nilIface, .nilIface => False | .agg _, .agg _ => False | _, _ => True
theorem eqGuard_plain {P : Program} (op : BinOp) (t : TypeId) (x y : Operand) {v u : Value} (hvu : plainTwo v u) (w : World) : (eqGuard op t x y v u).run P w = .ok () w := by
  cases op <;> first | rfl | (cases v <;> cases u <;> first | rfl | exact hvu.elim)

/-- An instruction that leaves the heap alone: the operation yields its value in every world whose heap may be the one at hand. -/
theorem take_ok {P : Program} {n : Nat} {o : Oper} {j : J} (hj : cmpJ P n o = some j) (ht : j.take = true) {m : Option Md} {h : Heap} {σ : Env} {a : Act} (ha : Agr n σ a) {K : Value → Prop} (hv : wV m h σ j K) :
    ∃ v, K v ∧ (∀ w : World, heapOk m h w.heap → (execOp a.eval o).run P w = .ok (.value v) w) ∧ o.dst = j.dst ∧ ∀ k, j.dst = some k → k < n := by
  obtain ⟨dst, op, type, pos, after, guard⟩ := o
  have d1 : ∀ {d : Nat}, dst1 n ⟨dst, op, type, pos, after, guard⟩ = some d → dst = some d ∧ ∀ k, some d = some k → k < n := fun hd => ⟨(dst1_some hd).1, fun k hk => by cases hk; exact (dst1_some hd).2⟩
  cases op <;> simp only [cmpJ, reduceCtorEq] at hj
  case move x =>
    obtain ⟨d, hd, rfl⟩ := Option.map_eq_some_iff.1 hj
    obtain ⟨v, hx, hK⟩ := bd_elim hv
    exact ⟨v, hK, fun w _ => by simp [execOp, ha.eval hx], (d1 hd).1, (d1 hd).2⟩
  case assign x =>
    obtain ⟨d, hd, rfl⟩ := Option.map_eq_some_iff.1 hj
    obtain ⟨v, hx, hK⟩ := bd_elim hv
    exact ⟨v, hK, fun w _ => by simp [execOp, ha.eval hx], (d1 hd).1, (d1 hd).2⟩
  case pick c x y =>
    obtain ⟨d, hd, rfl⟩ := Option.map_eq_some_iff.1 hj
    obtain ⟨vc, hc, g1⟩ := bd_elim hv
    obtain ⟨t, htb, g2⟩ := bd_elim g1
    obtain ⟨v, hx, hK⟩ := bd_elim g2
    have hcb := asB_some htb
    refine ⟨v, hK, fun w _ => ?_, (d1 hd).1, (d1 hd).2⟩
    cases t <;> simp at hx <;> simp [execOp, ha.eval hc, hcb, ha.eval hx, asBool]
  case load t x =>
    simp only [Option.bind_eq_some_iff, Option.map_eq_some_iff] at hj
    obtain ⟨d, hd, s, hs, rfl⟩ := hj
    obtain ⟨v, hx, g1⟩ := bd_elim hv
    obtain ⟨q, hq, hok, g2⟩ := bd_elim g1
    have hp := asP_some hq
    cases s with
    | none =>
      obtain ⟨u, hu, hK⟩ := bd_elim g2
      refine ⟨u, hK, fun w hw => ?_, (d1 hd).1, (d1 hd).2⟩
      have hc : w.cell? ⟨q.1, q.2, none⟩ = some u := by rw [cel_cell, cel_of_heapOk hw hok]; exact hu
      simp [execOp, ha.eval hx, hp, Instr.loadAt, Instr.sureAddr, loadVar, (run_isAgg' hs w).1, hc]
    | some k =>
      obtain ⟨l, hl, hK⟩ := bd_elim g2
      refine ⟨_, hK, fun w hw => ?_, (d1 hd).1, (d1 hd).2⟩
      have hc : rd w.heap q.1 q.2 k = some l := by rw [rd_of_heapOk hw hok]; exact hl
      simp [execOp, ha.eval hx, hp, Instr.loadAt, Instr.sureAddr, loadVar, (run_isAgg' hs w).1, run_sizeOf' ((run_isAgg' hs w).2 k rfl), run_loadCells_rd w hc]
  case store t x v =>
    cases dst with
    | none => obtain ⟨s, _, rfl⟩ := Option.map_eq_some_iff.1 hj; cases ht
    | some d => cases hj
  case fieldAddr s x f =>
    obtain ⟨d, hd, hj⟩ := Option.bind_eq_some_iff.1 hj
    split at hj
    · rename_i fs hu
      simp only [Option.bind_eq_some_iff] at hj
      obtain ⟨fl, hfl, z, hz, hj⟩ := hj
      split at hj
      · cases hj
      · rename_i hz0
        cases hj
        obtain ⟨v, hx, g1⟩ := bd_elim hv
        obtain ⟨q, hq, hK⟩ := bd_elim g1
        have hp := asP_some hq
        refine ⟨_, hK, fun w _ => ?_, (d1 hd).1, (d1 hd).2⟩
        simp [execOp, ha.eval hx, hp, Instr.fieldAt, run_underlying hu, hfl, Instr.sureAddr, fieldPlace, run_sizeOf' hz, hz0, add_mk]
    · cases hj
  case indexAddr t x i =>
    obtain ⟨d, hd, hj⟩ := Option.bind_eq_some_iff.1 hj
    split at hj
    · rename_i e hu
      obtain ⟨z, hz, rfl⟩ := Option.map_eq_some_iff.1 hj
      obtain ⟨v, hx, g1⟩ := bd_elim hv
      obtain ⟨u, hi, g2⟩ := bd_elim g1
      obtain ⟨q, hq, g3⟩ := bd_elim g2
      obtain ⟨k, hk, h0, h1, hK⟩ := bd_elim g3
      have hp := asSl_some hq
      obtain ⟨kk, hkk⟩ := asI_some hk
      refine ⟨_, hK, fun w _ => ?_, (d1 hd).1, (d1 hd).2⟩
      have he : P.elem t = e := by simp [Program.elem, hu]
      simp [execOp, ha.eval hx, ha.eval hi, hp, hkk, run_indexAt_slice w t _ _ _ _ _ (by rw [he]; exact hu), he, h0, h1, run_sizeOf' hz, add_mk]
    · cases hj
  case slice t x lo hi mx =>
    obtain ⟨d, hd, hj⟩ := Option.bind_eq_some_iff.1 hj
    split at hj
    · rename_i e hu
      split at hj
      · cases hj
      · rename_i hmx
        obtain ⟨z, hz, rfl⟩ := Option.map_eq_some_iff.1 hj
        obtain ⟨v, hx, g1⟩ := bd_elim hv
        obtain ⟨l, hl, g2⟩ := bd_elim g1
        obtain ⟨hh, hhi, g3⟩ := bd_elim g2
        obtain ⟨mm, hmm, g4⟩ := bd_elim g3
        obtain ⟨u, hK, hr⟩ := slcV_run hu hz (by
          intro hs
          cases mx with
          | none => cases hmm; cases hs
          | some y => cases hi with
            | none => simp at hmx
            | some y => simp only [evOo, Option.map_eq_some_iff] at hhi; obtain ⟨_, _, rfl⟩ := hhi; rfl) g4
        refine ⟨u, hK, fun w _ => ?_, (d1 hd).1, (d1 hd).2⟩
        simp only [execOp, Sem.run_bind, ha.eval hx, ha.evalo hl, ha.evalo hhi, ha.evalo hmm, hr w, Result.andThen_ok, Sem.run_pure]
    · cases hj
  case extract x i =>
    obtain ⟨d, hd, rfl⟩ := Option.map_eq_some_iff.1 hj
    obtain ⟨v, hx, hv⟩ := bd_elim hv
    obtain ⟨u, hu, hK⟩ := bd_elim hv
    refine ⟨u, hK, fun w _ => ?_, (d1 hd).1, (d1 hd).2⟩
    cases v <;> simp only [extV, reduceCtorEq] at hu
    simp [execOp, ha.eval hx, Instr.extract, hu]
  case unOp op t x =>
    obtain ⟨d, hd, rfl⟩ := Option.map_eq_some_iff.1 hj
    obtain ⟨v, hx, hv⟩ := bd_elim hv
    obtain ⟨u, hu, hK⟩ := bd_elim hv
    refine ⟨u, hK, fun w _ => ?_, (d1 hd).1, (d1 hd).2⟩
    cases op <;> cases v <;> simp only [unV, reduceCtorEq, Option.some.injEq] at hu <;> subst hu <;> simp [execOp, ha.eval hx, Op.unary, Op.intArith]
  case build t parts =>
    obtain ⟨d, hd, hj⟩ := Option.bind_eq_some_iff.1 hj
    split at hj
    · rename_i hok
      simp only [Option.bind_eq_some_iff, Option.map_eq_some_iff] at hj
      obtain ⟨z, hz, ps, hps, rfl⟩ := hj
      obtain ⟨cs, hcs, hK⟩ := bd_elim hv
      refine ⟨_, hK, fun w _ => ?_, (d1 hd).1, (d1 hd).2⟩
      unfold fieldsOk at hok
      split at hok
      · rename_i fs hu
        obtain ⟨zv, hzr, hzc⟩ := run_zeroValue' hz w
        have hpl : (fs.mapM fun f => do pure (f.offset, ← sizeOf f.type) : Sem (Array (Nat × Nat))).run P w = .ok (fs.toList.map fun f => (f.offset, (sizeT P f.type).getD 0)).toArray w := by
          rw [Array.mapM_eq_mapM_toList]
          simp only [Sem.run_map, run_mapM_places w fs.toList hok, Result.andThen_ok]
        have hrel := partsOf_rel hu parts.toList ps hps
        have hfill := fill_eq ha (fun i => (fs.toList.map fun f => (f.offset, (sizeT P f.type).getD 0)).toArray[i]?) parts.toList ps z cs (All2.imp (fun p q h => by
          obtain ⟨⟨f, hf, ho, hs⟩, he⟩ := h
          refine ⟨?_, he⟩
          simp [hf, hs, ho]) hrel) hcs
        have hparts : (parts.map fun x => (x.1, a.eval x.2)).toList = parts.toList.map fun p => (p.1, a.eval p.2) := by simp
        simp only [execOp, Instr.build, Sem.run_bind, hzr, Result.andThen_ok, run_underlying hu, hpl, hzc]
        rw [show (Array.map (fun x => match x with | (i, x) => (i, a.eval x)) parts).toList = parts.toList.map fun p => (p.1, a.eval p.2) from by simp]
        rw [hfill]
        simp
      · cases hok
    · cases hj
  case makeFunc fn first caps =>
    cases fn <;> simp only [reduceCtorEq] at hj
    split at hj
    · rename_i hf
      obtain ⟨d, hd, rfl⟩ := Option.map_eq_some_iff.1 hj
      obtain ⟨cs, hcs, hK⟩ := bd_elim hv
      refine ⟨_, hK, fun w _ => ?_, (d1 hd).1, (d1 hd).2⟩
      have hfe : first = #[] := by simpa using hf
      subst hfe
      have := ha.evals hcs
      have hc : caps.map a.eval = cs.toArray := by apply Array.ext'; simpa using this
      simp [execOp, Instr.makeFunc, hc]
    · cases hj
  case nilCheck x =>
    obtain ⟨d, hd, rfl⟩ := Option.map_eq_some_iff.1 hj
    obtain ⟨v, hx, hv⟩ := bd_elim hv
    obtain ⟨u, hu, hK⟩ := bd_elim hv
    refine ⟨u, hK, fun w _ => ?_, (dst0_some hd).1, (dst0_some hd).2⟩
    unfold nchV at hu
    split at hu
    · cases hu; simp [execOp, ha.eval hx]
    · cases hu; simp [execOp, ha.eval hx]
    · cases hu
  case convert s t x =>
    obtain ⟨d, hd, hj⟩ := Option.bind_eq_some_iff.1 hj
    split at hj
    · rename_i k1 k hs hu
      cases hj
      obtain ⟨v, hx, hv⟩ := bd_elim hv
      obtain ⟨u, hu', hK⟩ := bd_elim hv
      refine ⟨u, hK, fun w _ => ?_, (d1 hd).1, (d1 hd).2⟩
      cases v <;> simp only [cvtV, reduceCtorEq, Option.some.injEq] at hu'
      subst hu'
      simp [execOp, ha.eval hx, convert, run_underlying hs, run_underlying hu, Conv.intToInt]
    · cases hj; cases ht
    · cases hj
  case binOp op t x y yt =>
    obtain ⟨d, hd, hj⟩ := Option.bind_eq_some_iff.1 hj
    have hmain : ∀ (v u : Value) (r : Value), evO σ x = some v → evO σ y = some u → (∀ w : World, (eqGuard op t x y v u).run P w = .ok () w) → (∀ w : World, (binOp op t v u).run P w = .ok r w) → ∀ w : World,
        (execOp a.eval ⟨dst, .binOp op t x y yt, type, pos, after, guard⟩).run P w = .ok (.value r) w := by
      intro v u r hx hy hg hb w
      simp [execOp, ha.eval hx, ha.eval hy, hg w, hb w]
    have hgi : ∀ (v u : Value), plainTwo v u → ∀ w : World, (eqGuard op t x y v u).run P w = .ok () w := fun v u h w => eqGuard_plain op t x y h w
    have heqb : ∀ (neg : Bool) (hop : op = if neg then .neq else .eql) (hu : P.underlying t = some .bool), j = .eqb d neg x y → ∃ v, K v ∧ (∀ w : World, heapOk m h w.heap → (execOp a.eval ⟨dst, .binOp op t x y yt, type, pos, after, guard⟩).run P w = .ok (.value v) w) ∧ dst = some d ∧ ∀ k, some d = some k → k < n := by
      rintro neg hop hu rfl
      obtain ⟨v, hx, g1⟩ := bd_elim hv
      obtain ⟨u, hy, g2⟩ := bd_elim g1
      obtain ⟨r, hr, hK⟩ := bd_elim g2
      refine ⟨r, hK, fun w _ => ?_, (d1 hd).1, (d1 hd).2⟩
      cases v <;> cases u <;> simp only [eqB, reduceCtorEq, Option.some.injEq] at hr
      refine hmain _ _ _ hx hy (hgi _ _ trivial) (fun w => ?_) w
      subst hr; subst hop
      exact bin_eq w neg rfl rfl (eqIn_bool w _ hu _ _)
    have heqn : ∀ (sl neg : Bool) (hop : op = if neg then .neq else .eql) (hu : if sl then (∃ e, P.underlying t = some (.slice e)) else (∃ e, P.underlying t = some (.pointer e))), j = .eqn d sl neg x y → ∃ v, K v ∧ (∀ w : World, heapOk m h w.heap → (execOp a.eval ⟨dst, .binOp op t x y yt, type, pos, after, guard⟩).run P w = .ok (.value v) w) ∧ dst = some d ∧ ∀ k, some d = some k → k < n := by
      rintro sl neg hop hu rfl
      obtain ⟨v, hx, g1⟩ := bd_elim hv
      obtain ⟨u, hy, g2⟩ := bd_elim g1
      obtain ⟨r, hr, hK⟩ := bd_elim g2
      refine ⟨r, hK, fun w _ => ?_, (d1 hd).1, (d1 hd).2⟩
      subst hop
      have hfin : ∀ b : Bool, plainTwo v u → (∀ w : World, (binOp (if neg then .neq else .eql) t v u).run P w = .ok (.bool b) w) → Value.bool b = r →
          (execOp a.eval ⟨dst, .binOp (if neg then .neq else .eql) t x y yt, type, pos, after, guard⟩).run P w = .ok (.value r) w := by
        rintro b h1 h2 rfl
        exact hmain _ _ _ hx hy (hgi _ _ h1) h2 w
      cases sl
      · obtain ⟨e, hu⟩ := hu
        cases v <;> cases u <;> (try simp only [eqN, reduceCtorEq] at hr)
        rename_i p q
        cases p with
        | none =>
          simp only [eqN, Option.some.injEq] at hr
          exact hfin _ trivial (fun w => bin_eq w neg rfl rfl (eqIn_pn w _ hu _)) hr
        | some p =>
          cases q <;> simp only [eqN, reduceCtorEq, Option.some.injEq] at hr
          refine hfin _ trivial (fun w => bin_eq w neg rfl rfl (eqIn_np w _ hu _)) ?_
          rw [← hr]; cases neg <;> rfl
      · obtain ⟨e, hu⟩ := hu
        cases v <;> cases u <;> (try simp only [eqN, reduceCtorEq] at hr)
        rename_i p n1 c1 q n2 c2
        cases p with
        | none =>
          simp only [eqN, Option.some.injEq] at hr
          exact hfin _ trivial (fun w => bin_eq w neg rfl rfl (eqIn_sn w _ hu _ _ _ _ _)) hr
        | some p =>
          cases q <;> simp only [eqN, reduceCtorEq, Option.some.injEq] at hr
          refine hfin _ trivial (fun w => bin_eq w neg rfl rfl (eqIn_ns w _ hu _ _ _ _ _)) ?_
          rw [← hr]; cases neg <;> rfl
    have heqa : ∀ (neg : Bool) (ks : List Kd) (hop : op = if neg then .neq else .eql) (hu : ∃ fs, P.underlying t = some (.struct fs)), P.eqGuardType P.depth t = false → flatT P 20 t = some ks → j = .eqa d neg ks x y → ∃ v, K v ∧ (∀ w : World, heapOk m h w.heap → (execOp a.eval ⟨dst, .binOp op t x y yt, type, pos, after, guard⟩).run P w = .ok (.value v) w) ∧ dst = some d ∧ ∀ k, some d = some k → k < n := by
      rintro neg ks hop ⟨fs, hu⟩ hgt hfl rfl
      obtain ⟨v, hx, g1⟩ := bd_elim hv
      obtain ⟨u, hy, g2⟩ := bd_elim g1
      obtain ⟨r, hr, hK⟩ := bd_elim g2
      refine ⟨r, hK, fun w _ => ?_, (d1 hd).1, (d1 hd).2⟩
      unfold eqA at hr
      split at hr
      · rename_i xs ys
        obtain ⟨b, hb, rfl⟩ := Option.map_eq_some_iff.1 hr
        have he : ∀ w : World, (Op.equalIn 10000 t (.agg xs) (.agg ys)).run P w = .ok b w := by
          intro w
          have := equalIn_flat w 20 10000 (by decide) t ks xs.toList ys.toList b hfl hb
          simpa [mkV, hu] using this
        refine hmain _ _ _ hx hy (fun w => run_eqGuard_agg w op t x y xs ys hgt) (fun w => ?_) w
        cases neg <;> simp at hop <;> subst hop
        · rw [run_eql_struct, he]; rfl
        · rw [run_neq_struct, he]; rfl
      · cases hr
    have hbin : j = .bin d op x y → ∃ v, K v ∧ (∀ w : World, heapOk m h w.heap → (execOp a.eval ⟨dst, .binOp op t x y yt, type, pos, after, guard⟩).run P w = .ok (.value v) w) ∧ dst = some d ∧ ∀ k, some d = some k → k < n := by
      rintro rfl
      obtain ⟨v, hx, g1⟩ := bd_elim hv
      obtain ⟨u, hy, g2⟩ := bd_elim g1
      obtain ⟨r, hr, hK⟩ := bd_elim g2
      refine ⟨r, hK, fun w _ => ?_, (d1 hd).1, (d1 hd).2⟩
      cases v <;> cases u <;> simp only [binV, reduceCtorEq] at hr
      · split at hr
        · cases hr
        · rename_i hk
          have hk' := Classical.not_not.1 hk
          subst hk'
          refine hmain _ _ _ hx hy (hgi _ _ trivial) (fun w => ?_) w
          cases op <;> simp only [reduceCtorEq, Option.some.injEq] at hr <;> subst hr <;> simp [binOp, Op.intArith, Op.intCmp]
      · refine hmain _ _ _ hx hy (hgi _ _ trivial) (fun w => ?_) w
        cases op <;> simp only [reduceCtorEq, Option.some.injEq] at hr <;> subst hr <;> simp [binOp, Op.stringOp]
    generalize hu : P.underlying t = U at hj
    split at hj
    · cases hj; exact heqb false rfl hu rfl
    · cases hj; exact heqb true rfl hu rfl
    · cases hj; exact heqn false false rfl ⟨_, hu⟩ rfl
    · cases hj; exact heqn true false rfl ⟨_, hu⟩ rfl
    · cases hj; exact heqn false true rfl ⟨_, hu⟩ rfl
    · cases hj; exact heqn true true rfl ⟨_, hu⟩ rfl
    · split at hj
      · rename_i hg; obtain ⟨ks, hks, rfl⟩ := Option.map_eq_some_iff.1 hj; exact heqa false ks rfl ⟨_, hu⟩ hg hks rfl
      · cases hj
    · split at hj
      · rename_i hg; obtain ⟨ks, hks, rfl⟩ := Option.map_eq_some_iff.1 hj; exact heqa true ks rfl ⟨_, hu⟩ hg hks rfl
      · cases hj
    · cases hj; cases ht
    · cases hj; cases ht
    · cases hj; cases ht
    · cases hj; cases ht
    · cases hj; exact hbin rfl
    · cases hj; exact hbin rfl
    · cases hj
  case call c =>
    obtain ⟨callee, args, argTypes⟩ := c
    simp only at hj
    split at hj
    · split at hj
      · obtain ⟨d, _, rfl⟩ := Option.map_eq_some_iff.1 hj; cases ht
      · obtain ⟨d, _, rfl⟩ := Option.map_eq_some_iff.1 hj; cases ht
    · obtain ⟨d, _, rfl⟩ := Option.map_eq_some_iff.1 hj; cases ht
    · -- len
      obtain ⟨d, hd, hj⟩ := Option.bind_eq_some_iff.1 hj
      generalize hU : (argTypes[0]?).bind P.underlying = U at hj
      generalize hA : args.toList = A at hj
      split at hj
      · rename_i x
        cases hj
        obtain ⟨v, hv1, g1⟩ := bd_elim hv
        obtain ⟨r, hr, hK⟩ := bd_elim g1
        refine ⟨r, hK, fun w _ => ?_, (d1 hd).1, (d1 hd).2⟩
        have hargs : args = #[x] := by apply Array.ext'; simpa using hA
        subst hargs
        obtain ⟨t, hat, hu⟩ := Option.bind_eq_some_iff.1 hU
        simp only [execOp, resolve, invoke, builtin, Sem.run_bind, Sem.run_pure, Result.andThen_ok, List.map_toArray, List.map_cons, List.map_nil, ha.eval hv1]
        cases v <;> simp only [lenV, reduceCtorEq, Option.some.injEq] at hr
        subst hr
        simp [Builtin.len_, hat, run_underlying hu, goInt]
      · rename_i e x
        cases hj
        obtain ⟨v, hv1, g1⟩ := bd_elim hv
        obtain ⟨r, hr, hK⟩ := bd_elim g1
        refine ⟨r, hK, fun w _ => ?_, (d1 hd).1, (d1 hd).2⟩
        have hargs : args = #[x] := by apply Array.ext'; simpa using hA
        subst hargs
        obtain ⟨t, hat, hu⟩ := Option.bind_eq_some_iff.1 hU
        simp only [execOp, resolve, invoke, builtin, Sem.run_bind, Sem.run_pure, Result.andThen_ok, List.map_toArray, List.map_cons, List.map_nil, ha.eval hv1]
        cases v <;> simp only [lenV, reduceCtorEq, Option.some.injEq] at hr
        subst hr
        simp [Builtin.len_, hat, run_underlying hu, goInt]
      · cases hj
    · -- cap
      obtain ⟨d, hd, hj⟩ := Option.bind_eq_some_iff.1 hj
      generalize hU : (argTypes[0]?).bind P.underlying = U at hj
      generalize hA : args.toList = A at hj
      split at hj
      · rename_i e x
        cases hj
        obtain ⟨v, hv1, g1⟩ := bd_elim hv
        obtain ⟨r, hr, hK⟩ := bd_elim g1
        refine ⟨r, hK, fun w _ => ?_, (d1 hd).1, (d1 hd).2⟩
        have hargs : args = #[x] := by apply Array.ext'; simpa using hA
        subst hargs
        obtain ⟨t, hat, hu⟩ := Option.bind_eq_some_iff.1 hU
        simp only [execOp, resolve, invoke, builtin, Sem.run_bind, Sem.run_pure, Result.andThen_ok, List.map_toArray, List.map_cons, List.map_nil, ha.eval hv1]
        cases v <;> simp only [capV, reduceCtorEq, Option.some.injEq] at hr
        subst hr
        simp [Builtin.cap_, hat, run_underlying hu, goInt]
      · cases hj
    · -- max
      obtain ⟨d, hd, hj⟩ := Option.bind_eq_some_iff.1 hj
      generalize hA : args.toList = A at hj
      split at hj
      · rename_i x y
        cases hj
        obtain ⟨v, hv1, g1⟩ := bd_elim hv
        obtain ⟨u, hv2, g2⟩ := bd_elim g1
        obtain ⟨r, hr, hK⟩ := bd_elim g2
        refine ⟨r, hK, fun w _ => ?_, (d1 hd).1, (d1 hd).2⟩
        have hargs : args = #[x, y] := by apply Array.ext'; simpa using hA
        subst hargs
        simp only [execOp, resolve, invoke, builtin, Sem.run_bind, Sem.run_pure, Result.andThen_ok, List.map_toArray, List.map_cons, List.map_nil, ha.eval hv1, ha.eval hv2]
        cases v <;> cases u <;> simp only [maxV, reduceCtorEq, Option.some.injEq] at hr
        subst hr
        simp [Builtin.max_, Builtin.max2]
      · cases hj
    · -- min
      obtain ⟨d, hd, hj⟩ := Option.bind_eq_some_iff.1 hj
      generalize hA : args.toList = A at hj
      split at hj
      · rename_i x y
        cases hj
        obtain ⟨v, hv1, g1⟩ := bd_elim hv
        obtain ⟨u, hv2, g2⟩ := bd_elim g1
        obtain ⟨r, hr, hK⟩ := bd_elim g2
        refine ⟨r, hK, fun w _ => ?_, (d1 hd).1, (d1 hd).2⟩
        have hargs : args = #[x, y] := by apply Array.ext'; simpa using hA
        subst hargs
        simp only [execOp, resolve, invoke, builtin, Sem.run_bind, Sem.run_pure, Result.andThen_ok, List.map_toArray, List.map_cons, List.map_nil, ha.eval hv1, ha.eval hv2]
        cases v <;> cases u <;> simp only [maxV, reduceCtorEq, Option.some.injEq] at hr
        subst hr
        simp [Builtin.min_, Builtin.min2]
      · cases hj
    all_goals first
      | (cases hj; done)
      | (obtain ⟨d, _, rfl⟩ := Option.map_eq_some_iff.1 hj; cases ht)
  case alloc t =>
    simp only [Option.bind_eq_some_iff, Option.map_eq_some_iff] at hj
    obtain ⟨d, _, z, _, rfl⟩ := hj; cases ht
  case box t x => obtain ⟨d, _, rfl⟩ := Option.map_eq_some_iff.1 hj; cases ht
  case buildSlice t len parts =>
    obtain ⟨d, _, hj⟩ := Option.bind_eq_some_iff.1 hj
    split at hj
    · obtain ⟨z, _, hj⟩ := Option.bind_eq_some_iff.1 hj
      split at hj
      · split at hj
        · cases hj; cases ht
        · cases hj
      split at hj
      · cases hj
      · obtain ⟨zc, _, hj⟩ := Option.bind_eq_some_iff.1 hj
        split at hj
        · cases hj
        · cases hj; cases ht
    · cases hj
  all_goals (obtain ⟨d, _, rfl⟩ := Option.map_eq_some_iff.1 hj; cases ht)
end Go.AX
/-
  The small instruction language: the operations that may turn the heap.
-/
namespace Go.AX
open Go

theorem run_callFunc {P : Program} {f : FuncId} (hc : callable P f = true) (args : Array Value) (w : World) : (callFunc f args).run P w = .ok (.enter f args) w := by
  unfold callable at hc
  split at hc
  · rename_i fn hf
    simp only [Bool.not_eq_true', Bool.or_eq_false_iff] at hc
    have hb : fn.body ≠ none := by
      intro e; rw [e] at hc; simp at hc
    have hn : fn.name ≠ "runtime.NumGoroutine" := by simpa using hc.2
    simp [callFunc, hf, hb, hn]
  · cases hc

theorem push_world (w : World) (o : Obj) : ({ w with heap := w.heap.push o } : World).heap = w.heap.push o := rfl

theorem eff_ok {P : Program} {n : Nat} {o : Oper} {j : J} (hj : cmpJ P n o = some j) (ht : j.take = false) {h : Heap} {σ : Env} {a : Act} (ha : Agr n σ a) {w : World} (hw : w.heap = h) {K : Value → Heap → Prop} (he : wE P h σ j K) :
    (∀ (next : Act → World → Prop) (Q : Exit → Act → World → Prop), (∀ v w', K v w'.heap → Same w w' → next (a.put o.dst v) w') → o.wp P a w next Q) ∧ o.dst = j.dst ∧ ∀ k, j.dst = some k → k < n := by
  subst hw
  have raw : ∀ (d : Option Nat), j = .raw d o → o.dst = d → (∀ k, d = some k → k < n) →
      (∀ (next : Act → World → Prop) (Q : Exit → Act → World → Prop), (∀ v w', K v w'.heap → Same w w' → next (a.put o.dst v) w') → o.wp P a w next Q) ∧ o.dst = j.dst ∧ ∀ k, j.dst = some k → k < n := by
    rintro d rfl hd hk
    refine ⟨fun next Q hn => ?_, hd, hk⟩
    obtain ⟨h1, h2, h3⟩ := he
    obtain ⟨r, v, w', hr, hrv, hs, hK⟩ := h3 w rfl
    have hcong : execOp a.eval o = execOp (fun x => (evO σ x).getD undef) o := execOp_congr o h2 fun x hx => by
      obtain ⟨u, hu⟩ := Option.isSome_iff_exists.1 (h1 x hx)
      rw [ha.eval hu, hu]; rfl
    unfold Oper.wp
    rw [hcong, hr]
    cases r <;> simp only [nextV, reduceCtorEq, Option.some.injEq] at hrv <;> subst hrv
    · exact hn _ w' hK hs
    · exact hn _ w' hK hs
  obtain ⟨dst, op, type, pos, after, guard⟩ := o
  have d1 : ∀ {d : Nat}, dst1 n ⟨dst, op, type, pos, after, guard⟩ = some d → dst = some d ∧ ∀ k, some d = some k → k < n := fun hd => ⟨(dst1_some hd).1, fun k hk => by cases hk; exact (dst1_some hd).2⟩
  cases op <;> simp only [cmpJ, reduceCtorEq] at hj
  case move x => obtain ⟨d, hd, rfl⟩ := Option.map_eq_some_iff.1 hj; cases ht
  case assign x => obtain ⟨d, hd, rfl⟩ := Option.map_eq_some_iff.1 hj; cases ht
  case pick => obtain ⟨d, hd, rfl⟩ := Option.map_eq_some_iff.1 hj; cases ht
  case load =>
    simp only [Option.bind_eq_some_iff, Option.map_eq_some_iff] at hj
    obtain ⟨d, hd, s, hs, rfl⟩ := hj; cases ht
  case store t x v =>
    cases dst with
    | some d => cases hj
    | none =>
      obtain ⟨s, hs, rfl⟩ := Option.map_eq_some_iff.1 hj
      obtain ⟨p, hp, g1⟩ := bd_elim he
      obtain ⟨q, hq, g2⟩ := bd_elim g1
      obtain ⟨u, hu, hsz, hok, hK⟩ := bd_elim g2
      refine ⟨fun next Q hn => ?_, rfl, fun k hk => by cases hk⟩
      have hpp := asP_some hq
      have hr := run_storeCells_wr (P := P) u.cells.toList 0 q.1 q.2 w hok
      unfold Oper.wp
      have : (execOp a.eval ⟨none, .store t x v, type, pos, after, guard⟩).run P w = .ok .skip { w with heap := wr w.heap q.1 q.2 u.cells.toList } := by
        simp only [execOp, Instr.storeAt, Sem.run_bind, ha.eval hp, ha.eval hu, hpp, Instr.sureAddr, storeVar, run_sizeOf' hs, Result.andThen_ok, Sem.run_pure, Sem.run_ite, hsz, ne_eq, not_true_eq_false, if_false, Bool.false_eq_true]
        rw [hr]; rfl
      rw [this]
      exact hn undef _ hK ⟨rfl, rfl, rfl⟩
  case fieldAddr s x f =>
    obtain ⟨d, hd, hj⟩ := Option.bind_eq_some_iff.1 hj
    split at hj
    · simp only [Option.bind_eq_some_iff] at hj
      obtain ⟨fl, hfl, z, hz, hj⟩ := hj
      split at hj
      · cases hj
      · cases hj; cases ht
    · cases hj
  case indexAddr t x i =>
    obtain ⟨d, hd, hj⟩ := Option.bind_eq_some_iff.1 hj
    split at hj
    · obtain ⟨z, hz, rfl⟩ := Option.map_eq_some_iff.1 hj; cases ht
    · cases hj
  case slice t x lo hi mx =>
    obtain ⟨d, hd, hj⟩ := Option.bind_eq_some_iff.1 hj
    split at hj
    · split at hj
      · cases hj
      · obtain ⟨z, hz, rfl⟩ := Option.map_eq_some_iff.1 hj; cases ht
    · cases hj
  case extract => obtain ⟨d, hd, rfl⟩ := Option.map_eq_some_iff.1 hj; cases ht
  case unOp => obtain ⟨d, hd, rfl⟩ := Option.map_eq_some_iff.1 hj; cases ht
  case build t parts =>
    obtain ⟨d, hd, hj⟩ := Option.bind_eq_some_iff.1 hj
    split at hj
    · simp only [Option.bind_eq_some_iff, Option.map_eq_some_iff] at hj
      obtain ⟨z, hz, ps, hps, rfl⟩ := hj; cases ht
    · cases hj
  case makeFunc fn first caps =>
    cases fn <;> simp only [reduceCtorEq] at hj
    split at hj
    · obtain ⟨d, hd, rfl⟩ := Option.map_eq_some_iff.1 hj; cases ht
    · cases hj
  case nilCheck => obtain ⟨d, hd, rfl⟩ := Option.map_eq_some_iff.1 hj; cases ht
  case convert s t x =>
    obtain ⟨d, hd, hj⟩ := Option.bind_eq_some_iff.1 hj
    split at hj
    · cases hj; cases ht
    · cases hj; exact raw _ rfl (d1 hd).1 (d1 hd).2
    · cases hj
  case binOp op t x y yt =>
    obtain ⟨d, hd, hj⟩ := Option.bind_eq_some_iff.1 hj
    generalize hu : P.underlying t = U at hj
    split at hj
    · cases hj; cases ht
    · cases hj; cases ht
    · cases hj; cases ht
    · cases hj; cases ht
    · cases hj; cases ht
    · cases hj; cases ht
    · split at hj
      · obtain ⟨ks, hks, rfl⟩ := Option.map_eq_some_iff.1 hj; cases ht
      · cases hj
    · split at hj
      · obtain ⟨ks, hks, rfl⟩ := Option.map_eq_some_iff.1 hj; cases ht
      · cases hj
    · cases hj; exact raw _ rfl (d1 hd).1 (d1 hd).2
    · cases hj; exact raw _ rfl (d1 hd).1 (d1 hd).2
    · cases hj; exact raw _ rfl (d1 hd).1 (d1 hd).2
    · cases hj; exact raw _ rfl (d1 hd).1 (d1 hd).2
    · cases hj; cases ht
    · cases hj; cases ht
    · cases hj
  case alloc t =>
    simp only [Option.bind_eq_some_iff, Option.map_eq_some_iff] at hj
    obtain ⟨d, hd, z, hz, rfl⟩ := hj
    refine ⟨fun next Q hn => ?_, (d1 hd).1, (d1 hd).2⟩
    obtain ⟨zv, hzr, hzc⟩ := run_zeroValue' hz w
    unfold Oper.wp
    have : (execOp a.eval ⟨dst, .alloc t, type, pos, after, guard⟩).run P w = .ok (.value (ptr w.heap.size 0)) { w with heap := w.heap.push (.cells z.toArray t) } := by
      simp [execOp, Instr.alloc, hzr, hzc, newVar, newRow]
    rw [this]
    exact hn _ _ he ⟨rfl, rfl, rfl⟩
  case box t x =>
    obtain ⟨d, hd, rfl⟩ := Option.map_eq_some_iff.1 hj
    obtain ⟨v, hx, hK⟩ := bd_elim he
    refine ⟨fun next Q hn => ?_, (d1 hd).1, (d1 hd).2⟩
    unfold Oper.wp
    have : (execOp a.eval ⟨dst, .box t x, type, pos, after, guard⟩).run P w = .ok (.value (ptr w.heap.size 0)) { w with heap := w.heap.push (.cells v.cells t) } := by
      simp [execOp, Instr.box, ha.eval hx, newVar, newRow]
    rw [this]
    exact hn _ _ hK ⟨rfl, rfl, rfl⟩
  case buildSlice t len parts =>
    obtain ⟨d, hd, hj⟩ := Option.bind_eq_some_iff.1 hj
    split at hj
    · rename_i e hu
      obtain ⟨z, hz, hj⟩ := Option.bind_eq_some_iff.1 hj
      split at hj
      · rename_i hl0
        split at hj
        · rename_i hp0
          cases hj
          have hK : K (sl w.heap.size 0 0 0) (w.heap.push (.cells #[] e)) := he
          refine ⟨fun next Q hn => ?_, (d1 hd).1, (d1 hd).2⟩
          subst hl0
          have hpe : parts = #[] := by simpa using hp0
          subst hpe
          unfold Oper.wp
          have : (execOp a.eval ⟨dst, .buildSlice t 0 #[], type, pos, after, guard⟩).run P w = .ok (.value (sl w.heap.size 0 0 0)) { w with heap := w.heap.push (.cells #[] e) } := by
            have hr0 : Array.range 0 = #[] := by apply Array.ext'; simp
            simp [execOp, Instr.buildSlice, run_underlying hu, run_sizeOf' hz, Instr.fill, newRow, hr0]
          rw [this]
          exact hn _ _ hK ⟨rfl, rfl, rfl⟩
        · cases hj
      rename_i hl0
      split at hj
      · cases hj
      · rename_i hno
        obtain ⟨zc, hzc, hj⟩ := Option.bind_eq_some_iff.1 hj
        split at hj
        · cases hj
        rename_i hzl
        cases hj
        obtain ⟨cs, hcs, hK⟩ := bd_elim he
        refine ⟨fun next Q hn => ?_, (d1 hd).1, (d1 hd).2⟩
        have hbig : ¬ len * z > 2 ^ 24 := fun h => hno (.inl h)
        have hz0 : z ≠ 0 := fun h => hno (.inr h)
        obtain ⟨zv, hzr, hzcells⟩ := run_zeroValue' hzc w
        have hlz : ¬ len * z = 0 := by
          intro h; rcases Nat.mul_eq_zero.1 h with h | h <;> contradiction
        have hrel : ∀ (ps : List (Nat × Operand)), All2 (fun (p : Nat × Operand) (q : Nat × Nat × Operand) => (fun i => some (i * z, z)) p.1 = some (q.1, q.2.1) ∧ p.2 = q.2.2) ps (partsSl z ps) := by
          intro ps
          induction ps with
          | nil => exact .nil
          | cons p ps ih => obtain ⟨i, x⟩ := p; exact .cons ⟨rfl, rfl⟩ ih
        have hfill := fill_eq ha (fun i => some (i * z, z)) parts.toList (partsSl z parts.toList) _ cs (hrel _) hcs
        have hzeros : ((Array.range (len * z)).map (fun x => zc.toArray[x % zc.toArray.size]!)) = ((List.range (len * z)).map fun i => zc.getD (i % zc.length) undef).toArray := by
          apply Array.ext'
          simp only [Array.toList_map, Array.toList_range]
          apply List.map_congr_left
          intro i _
          have hlt : i % zc.length < zc.length := Nat.mod_lt _ (by omega)
          simp [hlt]
        unfold Oper.wp
        have : (execOp a.eval ⟨dst, .buildSlice t len parts, type, pos, after, guard⟩).run P w = .ok (.value (sl w.heap.size 0 len len)) { w with heap := w.heap.push (.cells cs.toArray e) } := by
          simp only [execOp, Instr.buildSlice, Sem.run_bind, run_underlying hu, Result.andThen_ok, run_sizeOf' hz, Sem.run_ite, if_neg hbig, if_neg hlz, hzr, Sem.run_pure, hzcells, hzeros]
          rw [show (Array.map (fun x => match x with | (i, x) => (i, a.eval x)) parts).toList = parts.toList.map fun p => (p.1, a.eval p.2) from by simp]
          rw [hfill]
          simp [newRow]
        rw [this]
        exact hn _ _ hK ⟨rfl, rfl, rfl⟩
    · cases hj
  case call c =>
    obtain ⟨callee, args, argTypes⟩ := c
    simp only at hj
    split at hj
    · rename_i f
      split at hj
      · rename_i hc
        obtain ⟨d, hd, rfl⟩ := Option.map_eq_some_iff.1 hj
        obtain ⟨vs, hvs, hK⟩ := bd_elim he
        refine ⟨fun next Q hn => ?_, (dst0_some hd).1, (dst0_some hd).2⟩
        unfold Oper.wp
        have hargs : args.map a.eval = vs.toArray := by apply Array.ext'; simpa using ha.evals hvs
        have : (execOp a.eval ⟨dst, .call ⟨.value (.func f), args, argTypes⟩, type, pos, after, guard⟩).run P w = .ok (.enter f vs.toArray) w := by
          simp [execOp, resolve, Act.eval, Deferred.ofValue, invoke, hargs, run_callFunc hc]
        rw [this, Oper.upon_enter]
        refine (hK w rfl).mono ?_
        rintro e w' ⟨v, rfl, hR, hs⟩
        exact hn v w' hR hs
      · obtain ⟨d, hd, rfl⟩ := Option.map_eq_some_iff.1 hj
        exact raw _ rfl (dst0_some hd).1 (dst0_some hd).2
    · rename_i x hx
      obtain ⟨d, hd, rfl⟩ := Option.map_eq_some_iff.1 hj
      obtain ⟨v, hv, g1⟩ := bd_elim he
      obtain ⟨vs, hvs, g2⟩ := bd_elim g1
      split at g2
      · rename_i f first caps
        obtain ⟨hc, hK⟩ := g2
        refine ⟨fun next Q hn => ?_, (dst0_some hd).1, (dst0_some hd).2⟩
        unfold Oper.wp
        have hargs : args.map a.eval = vs.toArray := by apply Array.ext'; simpa using ha.evals hvs
        have : (execOp a.eval ⟨dst, .call ⟨.value x, args, argTypes⟩, type, pos, after, guard⟩).run P w = .ok (.enter f (first.toList ++ vs ++ caps.toList).toArray) w := by
          simp only [execOp, resolve, ha.eval hv, Deferred.ofValue, invoke, Sem.run_bind, Sem.run_pure, Result.andThen_ok, hargs, run_callFunc hc]
          congr 2
          apply Array.ext'
          simp
        rw [this, Oper.upon_enter]
        refine (hK w rfl).mono ?_
        rintro e w' ⟨v, rfl, hR, hs⟩
        exact hn v w' hR hs
      · exact g2.elim
    · obtain ⟨d, hd, hj⟩ := Option.bind_eq_some_iff.1 hj
      split at hj <;> first | (cases hj; cases ht) | cases hj
    · obtain ⟨d, hd, hj⟩ := Option.bind_eq_some_iff.1 hj
      split at hj <;> first | (cases hj; cases ht) | cases hj
    · obtain ⟨d, hd, hj⟩ := Option.bind_eq_some_iff.1 hj
      split at hj <;> first | (cases hj; cases ht) | cases hj
    · obtain ⟨d, hd, hj⟩ := Option.bind_eq_some_iff.1 hj
      split at hj <;> first | (cases hj; cases ht) | cases hj
    all_goals first
      | (cases hj; done)
      | (obtain ⟨d, hd, rfl⟩ := Option.map_eq_some_iff.1 hj; exact raw _ rfl (dst0_some hd).1 (dst0_some hd).2)
  all_goals (obtain ⟨d, hd, rfl⟩ := Option.map_eq_some_iff.1 hj; exact raw _ rfl (dst0_some hd).1 (dst0_some hd).2)
end Go.AX
/-
  The small instruction language: regions, code, functions.
-/
namespace Go.AX
open Go

/-- What is asked of an order in which a region that draws is gone through; fuel: how many operations may still come. -/
def ordOk (P : Program) (n : Nat) (ops : Array Oper) (fin : Nat → Array Bool → Bool) : Nat → Array Bool → List Nat → Bool
  | fuel, listed, [] => fin fuel listed
  | 0, _, _ :: _ => false
  | fuel + 1, listed, i :: r => (match (ops[i]?).bind (cmpJ P n) with
    | some j => if j.take then Region.free .any ops listed i && (Region.ready .any ops listed).contains i else decide (Region.ready .any ops listed = [i])
    | none => false) && ordOk P n ops fin fuel (listed.setIfInBounds i true) r
def allIn (ops : Array Oper) (_ : Nat) (listed : Array Bool) : Bool := (Region.ready .any ops listed).isEmpty
def drwOk (P : Program) (n : Nat) (ops : Array Oper) (ord : List Nat) : Bool :=
  P.follows .mixedOrders && Region.noSelect ops && ordOk P n ops (allIn ops) ops.size (Array.replicate ops.size false) ord

/-- The plan of a region with several orders. -/
inductive PL where
  | nil
  | one (st : List St) (r : PL)
  | alt (a b : PL)
def heads : PL → List Nat
  | .one (.o i :: _) _ => [i]
  | .alt a b => heads a ++ heads b
  | _ => []
def cmpT (P : Program) (n : Nat) (ops : Array Oper) : PL → Option L
  | .nil => some .nil
  | .one st r => (cmpL P n ops st).bind fun is => (cmpT P n ops r).map (.one is ·)
  | .alt a b => (cmpT P n ops a).bind fun x => (cmpT P n ops b).map (.alt x ·)
mutual
def treeOk (P : Program) (n : Nat) (ops : Array Oper) : PL → Nat → Array Bool → Bool
  | .nil, fuel, listed => allIn ops fuel listed
  | .one st r, fuel, listed => ordOk P n ops (treeOk P n ops r) fuel listed (ordOf st)
  | .alt a b, fuel, listed => !(Region.ready .any ops listed).isEmpty && ((Region.ready .any ops listed).all fun i => (heads a ++ heads b).contains i) && altOk P n ops a fuel listed && altOk P n ops b fuel listed
def altOk (P : Program) (n : Nat) (ops : Array Oper) : PL → Nat → Array Bool → Bool
  | .one (.o i :: st) r, fuel + 1, listed => ((ops[i]?).map fun o => o.guard.isNone).getD false && ordOk P n ops (treeOk P n ops r) fuel (listed.setIfInBounds i true) (ordOf st)
  | .alt a b, fuel, listed => altOk P n ops a fuel listed && altOk P n ops b fuel listed
  | _, _, _ => false
end
def drtOk (P : Program) (n : Nat) (ops : Array Oper) (t : PL) : Bool :=
  P.follows .mixedOrders && Region.noSelect ops && treeOk P n ops t ops.size (Array.replicate ops.size false)

/-- The plan of a region. -/
inductive RP where
  | l (st : List St)
  | t (p : PL)

def cmpC (P : Program) (n : Nat) : Code → List RP → Option (C × List RP)
  | .skip, pl => some (.skip, pl)
  | .region _ ops draw, .t p :: pl => if draw && drtOk P n ops p then (cmpT P n ops p).map fun t => (.drt t, pl) else none
  | .region _ ops draw, .l st :: pl =>
    if draw then (if drwOk P n ops (ordOf st) then (cmpL P n ops st).map fun is => (.drw is, pl) else none)
    else if ordOf st = List.range ops.size then (cmpL P n ops st).map fun is => (.reg is, pl) else none
  | .seq a b, pl => (cmpC P n a pl).bind fun x => (cmpC P n b x.2).map fun y => (sq x.1 y.1, y.2)
  | .cond x a b, pl => (cmpC P n a pl).bind fun u => (cmpC P n b u.2).map fun y => (.cond x u.1 y.1, y.2)
  | .block id a, pl => (cmpC P n a pl).map fun x => (.block id x.1, x.2)
  | .loop a, pl => (cmpC P n a pl).map fun x => (.loop x.1, x.2)
  | .exit id, pl => some (.exit id, pl)
  | .ret, pl => some (.ret, pl)
  | _, _ => none

def cmpRs (P : Program) : List ResultVar → Option (List Rs)
  | [] => some []
  | .tmp t :: r => (cmpRs P r).map (.tmp t :: ·)
  | .cell a t :: r => match aggSz P t with
    | some (some n) => (cmpRs P r).map (.cell a n :: ·)
    | _ => none

/-! ### Regions -/

theorem wanted_yes {ops : Array Oper} {o : Oper} {g c : Nat} {w : Bool} {n : Nat} {σ : Env} {a : Act} (ha : Agr n σ a) (hg : o.guard = some (g, w)) (hc : (ops[g]?).bind (·.dst) = some c) (hl : look σ c = some (.bool w)) :
    Region.wanted o (yielded ops a.tmps) = true := by
  have := ha.at_ c _ hl
  simp [Region.wanted, hg, yielded, hc, this]

theorem wanted_no {ops : Array Oper} {o : Oper} {g c : Nat} {w : Bool} {n : Nat} {σ : Env} {a : Act} (ha : Agr n σ a) (hg : o.guard = some (g, w)) (hc : (ops[g]?).bind (·.dst) = some c) {v : Value} (hl : look σ c = some v) (hn : notB v w = true) :
    Region.wanted o (yielded ops a.tmps) = false := by
  have := ha.at_ c _ hl
  cases v <;> simp [Region.wanted, hg, yielded, hc, this]
  simpa [notB] using hn

theorem wanted_none {ops : Array Oper} {o : Oper} (hg : o.guard = none) (tmps : Array Value) : Region.wanted o (yielded ops tmps) = true := by simp [Region.wanted, hg]

theorem cmpO_some {P : Program} {n : Nat} {ops : Array Oper} {i : Nat} {x : I} (h : cmpO P n ops i = some x) :
    ∃ o j, ops[i]? = some o ∧ cmpJ P n o = some j ∧ ((o.guard = none ∧ x = .op j) ∨ ∃ g w c, o.guard = some (g, w) ∧ (ops[g]?).bind (·.dst) = some c ∧ x = .g c w j) := by
  unfold cmpO at h
  simp only [Option.bind_eq_some_iff] at h
  obtain ⟨o, ho, j, hj, h⟩ := h
  refine ⟨o, j, ho, hj, ?_⟩
  split at h
  · cases h; exact .inl ⟨by assumption, rfl⟩
  · rename_i g w hg
    obtain ⟨c, hc, rfl⟩ := Option.map_eq_some_iff.1 h
    exact .inr ⟨g, w, c, hg, hc, rfl⟩

section
variable {P : Program} {n : Nat} {ops : Array Oper} {Q : Exit → Act → World → Prop} {C : Env → Heap → Prop} {w0 : World}

theorem wJ_sound {o : Oper} {j : J} (hj : cmpJ P n o = some j) {σ : Env} {a : Act} {w : World} (ha : Agr n σ a) (hw0 : Same w0 w) {K : Env → Heap → Prop} {next : Act → World → Prop}
    (hJ : wJ P none j K σ w.heap) (hn : ∀ σ' a' w', Agr n σ' a' → Same w0 w' → K σ' w'.heap → next a' w') : o.wp P a w next Q := by
  unfold wJ at hJ
  cases ht : j.take with
  | true =>
    rw [ht, if_pos rfl] at hJ
    obtain ⟨v, hK, hr, hd, hk⟩ := take_ok hj ht (m := none) ha hJ
    unfold Oper.wp
    rw [hr w rfl]
    exact hn _ _ _ (hd ▸ ha.put hk v) hw0 hK
  | false =>
    rw [ht, if_neg (by simp)] at hJ
    obtain ⟨h1, hd, hk⟩ := eff_ok hj ht ha rfl hJ
    refine h1 next Q fun v w' hK hs => hn _ _ _ (hd ▸ ha.put hk v) (hw0.trans hs) hK.2

theorem skip_agr {o : Oper} {j : J} (hj : cmpJ P n o = some j) {σ : Env} {a : Act} (ha : Agr n σ a) (hd : o.dst = j.dst ∧ ∀ k, j.dst = some k → k < n) : Agr n (putE σ j.dst undef) (a.put o.dst undef) :=
  hd.1 ▸ ha.put hd.2 undef

theorem cmpJ_dst {o : Oper} {j : J} (hj : cmpJ P n o = some j) : o.dst = j.dst ∧ ∀ k, j.dst = some k → k < n := by
  obtain ⟨dst, op, type, pos, after, guard⟩ := o
  have d1 : ∀ {d : Nat}, dst1 n ⟨dst, op, type, pos, after, guard⟩ = some d → dst = some d ∧ ∀ k, some d = some k → k < n := fun hd => ⟨(dst1_some hd).1, fun k hk => by cases hk; exact (dst1_some hd).2⟩
  cases op <;> simp only [cmpJ, reduceCtorEq] at hj
  case call c =>
    obtain ⟨callee, args, argTypes⟩ := c
    simp only at hj
    split at hj
    · split at hj <;> (obtain ⟨d, hd, rfl⟩ := Option.map_eq_some_iff.1 hj; exact dst0_some hd)
    · obtain ⟨d, hd, rfl⟩ := Option.map_eq_some_iff.1 hj; exact dst0_some hd
    · obtain ⟨d, hd, hj⟩ := Option.bind_eq_some_iff.1 hj
      split at hj <;> first | (cases hj; exact d1 hd) | cases hj
    · obtain ⟨d, hd, hj⟩ := Option.bind_eq_some_iff.1 hj
      split at hj <;> first | (cases hj; exact d1 hd) | cases hj
    · obtain ⟨d, hd, hj⟩ := Option.bind_eq_some_iff.1 hj
      split at hj <;> first | (cases hj; exact d1 hd) | cases hj
    · obtain ⟨d, hd, hj⟩ := Option.bind_eq_some_iff.1 hj
      split at hj <;> first | (cases hj; exact d1 hd) | cases hj
    all_goals first
      | (cases hj; done)
      | (obtain ⟨d, hd, rfl⟩ := Option.map_eq_some_iff.1 hj; exact dst0_some hd)
  case store t x v =>
    cases dst with
    | some d => cases hj
    | none => obtain ⟨s, hs, rfl⟩ := Option.map_eq_some_iff.1 hj; exact ⟨rfl, fun k hk => by cases hk⟩
  case makeFunc fn first caps =>
    cases fn <;> simp only [reduceCtorEq] at hj
    split at hj
    · obtain ⟨d, hd, rfl⟩ := Option.map_eq_some_iff.1 hj; exact d1 hd
    · cases hj
  case binOp op t x y yt =>
    obtain ⟨d, hd, hj⟩ := Option.bind_eq_some_iff.1 hj
    generalize hu : P.underlying t = U at hj
    split at hj <;> first
      | (cases hj; exact d1 hd)
      | (split at hj
         · obtain ⟨ks, hks, rfl⟩ := Option.map_eq_some_iff.1 hj; exact d1 hd
         · cases hj)
      | cases hj
  case move => obtain ⟨d, hd, rfl⟩ := Option.map_eq_some_iff.1 hj; exact d1 hd
  case assign => obtain ⟨d, hd, rfl⟩ := Option.map_eq_some_iff.1 hj; exact d1 hd
  case pick => obtain ⟨d, hd, rfl⟩ := Option.map_eq_some_iff.1 hj; exact d1 hd
  case extract => obtain ⟨d, hd, rfl⟩ := Option.map_eq_some_iff.1 hj; exact d1 hd
  case unOp => obtain ⟨d, hd, rfl⟩ := Option.map_eq_some_iff.1 hj; exact d1 hd
  case box => obtain ⟨d, hd, rfl⟩ := Option.map_eq_some_iff.1 hj; exact d1 hd
  case nilCheck => obtain ⟨d, hd, rfl⟩ := Option.map_eq_some_iff.1 hj; exact dst0_some hd
  case makeMap => obtain ⟨d, hd, rfl⟩ := Option.map_eq_some_iff.1 hj; exact dst0_some hd
  case lookup => obtain ⟨d, hd, rfl⟩ := Option.map_eq_some_iff.1 hj; exact dst0_some hd
  case entryStore => obtain ⟨d, hd, rfl⟩ := Option.map_eq_some_iff.1 hj; exact dst0_some hd
  case mapEntry => obtain ⟨d, hd, rfl⟩ := Option.map_eq_some_iff.1 hj; exact dst0_some hd
  case makeSlice => obtain ⟨d, hd, rfl⟩ := Option.map_eq_some_iff.1 hj; exact dst0_some hd
  case load =>
    simp only [Option.bind_eq_some_iff, Option.map_eq_some_iff] at hj
    obtain ⟨d, hd, s, hs, rfl⟩ := hj; exact d1 hd
  case alloc =>
    simp only [Option.bind_eq_some_iff, Option.map_eq_some_iff] at hj
    obtain ⟨d, hd, s, hs, rfl⟩ := hj; exact d1 hd
  case fieldAddr =>
    obtain ⟨d, hd, hj⟩ := Option.bind_eq_some_iff.1 hj
    split at hj
    · simp only [Option.bind_eq_some_iff] at hj
      obtain ⟨fl, hfl, z, hz, hj⟩ := hj
      split at hj
      · cases hj
      · cases hj; exact d1 hd
    · cases hj
  case indexAddr =>
    obtain ⟨d, hd, hj⟩ := Option.bind_eq_some_iff.1 hj
    split at hj
    · obtain ⟨z, hz, rfl⟩ := Option.map_eq_some_iff.1 hj; exact d1 hd
    · cases hj
  case slice =>
    obtain ⟨d, hd, hj⟩ := Option.bind_eq_some_iff.1 hj
    split at hj
    · split at hj
      · cases hj
      · obtain ⟨z, hz, rfl⟩ := Option.map_eq_some_iff.1 hj; exact d1 hd
    · cases hj
  case build =>
    obtain ⟨d, hd, hj⟩ := Option.bind_eq_some_iff.1 hj
    split at hj
    · simp only [Option.bind_eq_some_iff, Option.map_eq_some_iff] at hj
      obtain ⟨z, hz, ps, hps, rfl⟩ := hj; exact d1 hd
    · cases hj
  case convert =>
    obtain ⟨d, hd, hj⟩ := Option.bind_eq_some_iff.1 hj
    split at hj
    · cases hj; exact d1 hd
    · cases hj; exact d1 hd
    · cases hj
  case buildSlice =>
    obtain ⟨d, hd, hj⟩ := Option.bind_eq_some_iff.1 hj
    split at hj
    · obtain ⟨z, _, hj⟩ := Option.bind_eq_some_iff.1 hj
      split at hj
      · split at hj
        · cases hj; exact d1 hd
        · cases hj
      split at hj
      · cases hj
      · obtain ⟨zc, _, hj⟩ := Option.bind_eq_some_iff.1 hj
        split at hj
        · cases hj
        · cases hj; exact d1 hd
    · cases hj

theorem wL_sound (hC : ∀ σ a w, Agr n σ a → Same w0 w → C σ w.heap → Q .normal a w) : ∀ (st : List St) (is : List I) (k : Nat) (σ : Env) (a : Act) (w : World),
    cmpL P n ops st = some is → Agr n σ a → Same w0 w → wL P none is k C σ w.heap → wpOps P ops Q (ordOf st) a w
  | [], is, k, σ, a, w, hc, ha, hs, h => by
    cases hc
    have : C σ w.heap := by cases k <;> exact h
    exact hC _ _ _ ha hs this
  | .kp l :: r, is, k, σ, a, w, hc, ha, hs, h => by
    obtain ⟨is', hc', rfl⟩ := Option.map_eq_some_iff.1 hc
    cases k with
    | zero => exact wL_sound hC r is' 0 _ a w hc' (ha.keep l) hs h
    | succ k => exact wL_sound hC r is' k _ a w hc' ha hs h
  | .sc c b m :: r, is, k, σ, a, w, hc, ha, hs, h => by
    obtain ⟨is', hc', rfl⟩ := Option.map_eq_some_iff.1 hc
    cases k with
    | zero =>
      obtain ⟨v, hv, g1⟩ := bd_elim h
      obtain ⟨t, ht, g2⟩ := bd_elim g1
      have hvb := asB_some ht
      subst hvb
      cases htb : (t == b) with
      | true =>
        have e : t = b := by simpa using htb
        subst e
        rw [htb, br_true] at g2
        exact wL_sound hC r is' 0 _ a w hc' (ha.same hv) hs g2
      | false =>
        have e : t = !b := by cases t <;> cases b <;> simp_all
        subst e
        rw [htb, br_false] at g2
        exact wL_sound hC r is' m _ a w hc' (ha.same hv) hs g2
    | succ k => exact wL_sound hC r is' k _ a w hc' ha hs h
  | .o i :: r, is, k, σ, a, w, hc, ha, hs, h => by
    simp only [cmpL, Option.bind_eq_some_iff, Option.map_eq_some_iff] at hc
    obtain ⟨x, hx, is', hc', rfl⟩ := hc
    obtain ⟨o, j, ho, hj, hcase⟩ := cmpO_some hx
    simp only [ordOf, wpOps, ho]
    rcases hcase with ⟨hg, rfl⟩ | ⟨g, b, c, hg, hgc, rfl⟩
    · cases k with
      | zero =>
        rw [if_pos (wanted_none hg _)]
        exact .inl (wJ_sound hj ha hs h fun σ' a' w' h1 h2 h3 => wL_sound hC r is' 0 σ' a' w' hc' h1 h2 h3)
      | succ k => exact h.elim
    · cases k with
      | zero =>
        obtain ⟨hl, h⟩ := h
        rw [if_pos (wanted_yes ha hg hgc hl)]
        exact .inl (wJ_sound hj ha hs h fun σ' a' w' h1 h2 h3 => wL_sound hC r is' 0 σ' a' w' hc' h1 h2 h3)
      | succ k =>
        obtain ⟨v, hv, hn, g1⟩ := bd_elim h
        rw [if_neg (by rw [wanted_no ha hg hgc hv hn]; simp)]
        exact wL_sound hC r is' k _ _ w hc' (skip_agr hj ha (cmpJ_dst hj)) hs g1

/-- One operation of a region that draws: what it does, whether it is wanted or not. -/
theorem drw_step {p : Nat → Prop} {h0 : Heap} (hno : Region.noSelect ops = true) (hQp : ∀ c a w, ¬ Q (.panic c) a w) {i : Nat} {o : Oper} {j : J} (hoi : ops[i]? = some o) (hj : cmpJ P n o = some j)
    {σ : Env} {a : Act} {w : World} {fuel : Nat} {listed : Array Bool} (ha : Agr n σ a) (hs : Same w0 w) (hS : ∀ b, p b → w.heap[b]? = h0[b]?) {K : Env → Heap → Prop}
    (hK : ∀ σ' a' w', Agr n σ' a' → Same w0 w' → (∀ b, p b → w'.heap[b]? = h0[b]?) → K σ' w'.heap → wpAnyH P .any ops Q (fun w => ∀ b, p b → w.heap[b]? = h0[b]?) fuel (listed.setIfInBounds i true) a' w')
    (hcase : (Region.wanted o (yielded ops a.tmps) = true ∧ wJ P (some ⟨p, h0⟩) j K σ w.heap) ∨ (Region.wanted o (yielded ops a.tmps) = false ∧ K (putE σ j.dst undef) w.heap)) :
    wpOp P ops Q i (fun a' w' => (∀ b, p b → w'.heap[b]? = h0[b]?) ∧ wpAnyH P .any ops Q (fun w => ∀ b, p b → w.heap[b]? = h0[b]?) fuel (listed.setIfInBounds i true) a' w') a w ∧
    (j.take = true → Region.free .any ops listed i = true → (Region.ready .any ops listed).contains i = true → wpAnyH P .any ops Q (fun w => ∀ b, p b → w.heap[b]? = h0[b]?) (fuel + 1) listed a w) := by
  have hd := cmpJ_dst hj
  have hQ : ∀ (v : Value) c a w, Q (.panic c) (a.put o.dst v) w → Q (.panic c) a w := fun v c a w h => absurd h (hQp c _ w)
  cases ht : j.take with
  | true =>
    rcases hcase with ⟨hw, hJ⟩ | ⟨hw, hJ⟩
    · unfold wJ at hJ
      rw [ht, if_pos rfl] at hJ
      obtain ⟨v, hKv, hr, hd', hk⟩ := take_ok hj ht (m := some ⟨p, h0⟩) ha hJ
      have hag : Agr n (putE σ j.dst v) (a.put o.dst v) := by rw [hd']; exact ha.put hk v
      have hnext := hK _ _ _ hag hs hS hKv
      refine ⟨?_, fun _ hf hc => wpAnyH_take hoi hno hf hc (hQ v) (.inl ⟨hw, fun w1 hw1 => hr w1 hw1⟩) hS hnext⟩
      unfold wpOp
      simp only [hoi]
      rw [if_pos hw]
      refine .inl ?_
      unfold Oper.wp
      rw [hr w hS]
      exact ⟨hS, hnext⟩
    · have hnext := hK _ _ _ (skip_agr hj ha hd) hs hS hJ
      refine ⟨?_, fun _ hf hc => wpAnyH_take hoi hno hf hc (hQ undef) (.inr ⟨hw, rfl⟩) hS hnext⟩
      unfold wpOp
      simp only [hoi]
      rw [if_neg (by rw [hw]; simp)]
      exact ⟨hS, hnext⟩
  | false =>
    refine ⟨?_, fun h => absurd h (by simp)⟩
    unfold wpOp
    simp only [hoi]
    rcases hcase with ⟨hw, hJ⟩ | ⟨hw, hJ⟩
    · rw [if_pos hw]
      unfold wJ at hJ
      rw [ht, if_neg (by simp)] at hJ
      obtain ⟨h1, hd', hk⟩ := eff_ok hj ht ha rfl hJ
      refine .inl (h1 _ Q fun v w' hKv hsw => ?_)
      have hS' : ∀ b, p b → w'.heap[b]? = h0[b]? := fun b hb => (hKv.1 b hb).trans (hS b hb)
      exact ⟨hS', hK _ _ _ (hd' ▸ ha.put hk v) (hs.trans hsw) hS' hKv.2⟩
    · rw [if_neg (by rw [hw]; simp)]
      exact ⟨hS, hK _ _ _ (skip_agr hj ha hd) hs hS hJ⟩

/-- A region that draws its order: a piece of it. -/
theorem drw_sound {p : Nat → Prop} {h0 : Heap} (hno : Region.noSelect ops = true) (hQp : ∀ c a w, ¬ Q (.panic c) a w) {fin : Nat → Array Bool → Bool}
    (hC : ∀ σ a w fuel listed, fin fuel listed = true → Agr n σ a → Same w0 w → (∀ b, p b → w.heap[b]? = h0[b]?) → C σ w.heap → wpAnyH P .any ops Q (fun w => ∀ b, p b → w.heap[b]? = h0[b]?) fuel listed a w) :
    ∀ (st : List St) (is : List I) (k : Nat) (σ : Env) (a : Act) (w : World) (fuel : Nat) (listed : Array Bool),
    cmpL P n ops st = some is → ordOk P n ops fin fuel listed (ordOf st) = true → Agr n σ a → Same w0 w → (∀ b, p b → w.heap[b]? = h0[b]?) → wL P (some ⟨p, h0⟩) is k C σ w.heap →
    wpAnyH P .any ops Q (fun w => ∀ b, p b → w.heap[b]? = h0[b]?) fuel listed a w
  | [], is, k, σ, a, w, fuel, listed, hc, ho, ha, hs, hS, h => by
    cases hc
    have : C σ w.heap := by cases k <;> exact h
    exact hC σ a w fuel listed (by simpa [ordOk, ordOf] using ho) ha hs hS this
  | .kp l :: r, is, k, σ, a, w, fuel, listed, hc, ho, ha, hs, hS, h => by
    obtain ⟨is', hc', rfl⟩ := Option.map_eq_some_iff.1 hc
    cases k with
    | zero => exact drw_sound hno hQp hC r is' 0 _ a w fuel listed hc' ho (ha.keep l) hs hS h
    | succ k => exact drw_sound hno hQp hC r is' k _ a w fuel listed hc' ho ha hs hS h
  | .sc c b m :: r, is, k, σ, a, w, fuel, listed, hc, ho, ha, hs, hS, h => by
    obtain ⟨is', hc', rfl⟩ := Option.map_eq_some_iff.1 hc
    cases k with
    | zero =>
      obtain ⟨v, hv, g1⟩ := bd_elim h
      obtain ⟨t, ht, g2⟩ := bd_elim g1
      have hvb := asB_some ht
      subst hvb
      cases htb : (t == b) with
      | true =>
        have e : t = b := by simpa using htb
        subst e
        rw [htb, br_true] at g2
        exact drw_sound hno hQp hC r is' 0 _ a w fuel listed hc' ho (ha.same hv) hs hS g2
      | false =>
        have e : t = !b := by cases t <;> cases b <;> simp_all
        subst e
        rw [htb, br_false] at g2
        exact drw_sound hno hQp hC r is' m _ a w fuel listed hc' ho (ha.same hv) hs hS g2
    | succ k => exact drw_sound hno hQp hC r is' k _ a w fuel listed hc' ho ha hs hS h
  | .o i :: r, is, k, σ, a, w, fuel, listed, hc, ho, ha, hs, hS, h => by
    simp only [cmpL, Option.bind_eq_some_iff, Option.map_eq_some_iff] at hc
    obtain ⟨x, hx, is', hc', rfl⟩ := hc
    obtain ⟨o, j, hoi, hj, hcase⟩ := cmpO_some hx
    cases fuel with
    | zero => simp [ordOf, ordOk] at ho
    | succ fuel =>
    simp only [ordOf, ordOk, hoi, Option.bind_some, hj, Bool.and_eq_true] at ho
    obtain ⟨ho1, ho2⟩ := ho
    have go : ∀ K : Env → Heap → Prop, (∀ σ' a' w', Agr n σ' a' → Same w0 w' → (∀ b, p b → w'.heap[b]? = h0[b]?) → K σ' w'.heap → wpAnyH P .any ops Q (fun w => ∀ b, p b → w.heap[b]? = h0[b]?) fuel (listed.setIfInBounds i true) a' w') →
        (Region.wanted o (yielded ops a.tmps) = true ∧ wJ P (some ⟨p, h0⟩) j K σ w.heap) ∨ (Region.wanted o (yielded ops a.tmps) = false ∧ K (putE σ j.dst undef) w.heap) →
        wpAnyH P .any ops Q (fun w => ∀ b, p b → w.heap[b]? = h0[b]?) (fuel + 1) listed a w := by
      intro K hK hcase
      obtain ⟨g1, g2⟩ := drw_step hno hQp hoi hj ha hs hS hK hcase
      cases ht : j.take with
      | true =>
        rw [ht, if_pos rfl, Bool.and_eq_true] at ho1
        exact g2 ht ho1.1 ho1.2
      | false =>
        rw [ht, if_neg (by simp)] at ho1
        refine wpAnyH_all (of_decide_eq_true ho1) (by simp) fun i' hi' => ?_
        have : i' = i := by simpa using hi'
        subst this
        exact g1
    rcases hcase with ⟨hg, rfl⟩ | ⟨g, b, c, hg, hgc, rfl⟩
    · cases k with
      | zero => exact go _ (fun σ' a' w' h1 h2 h3 h4 => drw_sound hno hQp hC r is' 0 σ' a' w' fuel _ hc' ho2 h1 h2 h3 h4) (.inl ⟨wanted_none hg _, h⟩)
      | succ k => exact h.elim
    · cases k with
      | zero =>
        obtain ⟨hl, h⟩ := h
        exact go _ (fun σ' a' w' h1 h2 h3 h4 => drw_sound hno hQp hC r is' 0 σ' a' w' fuel _ hc' ho2 h1 h2 h3 h4) (.inl ⟨wanted_yes ha hg hgc hl, h⟩)
      | succ k =>
        obtain ⟨v, hv, hn, g1⟩ := bd_elim h
        exact go _ (fun σ' a' w' h1 h2 h3 h4 => drw_sound hno hQp hC r is' k σ' a' w' fuel _ hc' ho2 h1 h2 h3 h4) (.inr ⟨wanted_no ha hg hgc hv hn, g1⟩)

mutual
theorem drt_sound {p : Nat → Prop} {h0 : Heap} (hno : Region.noSelect ops = true) (hQp : ∀ c a w, ¬ Q (.panic c) a w) (hC : ∀ σ a w, Agr n σ a → Same w0 w → C σ w.heap → Q .normal a w) :
    ∀ (t : PL) (k : L) (fuel : Nat) (listed : Array Bool), cmpT P n ops t = some k → treeOk P n ops t fuel listed = true → ∀ (σ : Env) (a : Act) (w : World), Agr n σ a → Same w0 w → (∀ b, p b → w.heap[b]? = h0[b]?) →
    wT P (some ⟨p, h0⟩) k C σ w.heap → wpAnyH P .any ops Q (fun w => ∀ b, p b → w.heap[b]? = h0[b]?) fuel listed a w
  | .nil, k, fuel, listed, hc, ho, σ, a, w, ha, hs, hS, h => by
    cases hc
    exact wpAnyH_done (by simpa [treeOk, allIn] using ho) (hC _ _ _ ha hs h) fuel
  | .one st r, k, fuel, listed, hc, ho, σ, a, w, ha, hs, hS, h => by
    simp only [cmpT, Option.bind_eq_some_iff, Option.map_eq_some_iff] at hc
    obtain ⟨is, his, kr, hkr, rfl⟩ := hc
    exact drw_sound hno hQp (fun σ a w fuel listed h1 h2 h3 h4 h5 => drt_sound hno hQp hC r kr fuel listed hkr h1 σ a w h2 h3 h4 h5) st is 0 σ a w fuel listed his ho ha hs hS h
  | .alt x y, k, fuel, listed, hc, ho, σ, a, w, ha, hs, hS, h => by
    simp only [cmpT, Option.bind_eq_some_iff, Option.map_eq_some_iff] at hc
    obtain ⟨kx, hx, ky, hy, rfl⟩ := hc
    simp only [treeOk, Bool.and_eq_true] at ho
    obtain ⟨⟨⟨h1, h2⟩, h3⟩, h4⟩ := ho
    cases fuel with
    | zero =>
      exfalso
      have key : ∀ t : PL, altOk P n ops t 0 listed = true → heads t = [] := by
        intro t ht
        induction t with
        | nil => rfl
        | one st r _ =>
          match st with
          | [] => rfl
          | .kp _ :: _ => rfl
          | .sc _ _ _ :: _ => rfl
          | .o _ :: _ => simp [altOk] at ht
        | alt a b iha ihb =>
          simp only [altOk, Bool.and_eq_true] at ht
          simp [heads, iha ht.1, ihb ht.2]
      rw [key x h3, key y h4] at h2
      cases hr : Region.ready .any ops listed with
      | nil => simp [hr] at h1
      | cons i r => simp [hr] at h2
    | succ fuel =>
      refine wpAnyH_all rfl (by intro e; simp [e] at h1) fun i hi => ?_
      have hin := List.all_eq_true.1 h2 i hi
      simp only [List.contains_eq_mem, List.mem_append, decide_eq_true_eq] at hin
      rcases hin with hin | hin
      · exact alt_sound hno hQp hC x kx fuel listed hx h3 σ a w ha hs hS h.1 i hin
      · exact alt_sound hno hQp hC y ky fuel listed hy h4 σ a w ha hs hS h.2 i hin
theorem alt_sound {p : Nat → Prop} {h0 : Heap} (hno : Region.noSelect ops = true) (hQp : ∀ c a w, ¬ Q (.panic c) a w) (hC : ∀ σ a w, Agr n σ a → Same w0 w → C σ w.heap → Q .normal a w) :
    ∀ (t : PL) (k : L) (fuel : Nat) (listed : Array Bool), cmpT P n ops t = some k → altOk P n ops t (fuel + 1) listed = true → ∀ (σ : Env) (a : Act) (w : World), Agr n σ a → Same w0 w → (∀ b, p b → w.heap[b]? = h0[b]?) →
    wT P (some ⟨p, h0⟩) k C σ w.heap → ∀ i ∈ heads t, wpOp P ops Q i (fun a' w' => (∀ b, p b → w'.heap[b]? = h0[b]?) ∧ wpAnyH P .any ops Q (fun w => ∀ b, p b → w.heap[b]? = h0[b]?) fuel (listed.setIfInBounds i true) a' w') a w
  | .nil, k, fuel, listed, hc, ho, σ, a, w, ha, hs, hS, h, i, hi => by cases hi
  | .one [] r, k, fuel, listed, hc, ho, σ, a, w, ha, hs, hS, h, i, hi => by cases hi
  | .one (.kp _ :: _) r, k, fuel, listed, hc, ho, σ, a, w, ha, hs, hS, h, i, hi => by cases hi
  | .one (.sc _ _ _ :: _) r, k, fuel, listed, hc, ho, σ, a, w, ha, hs, hS, h, i, hi => by cases hi
  | .one (.o j :: st) r, k, fuel, listed, hc, ho, σ, a, w, ha, hs, hS, h, i, hi => by
    have hij : i = j := by simpa [heads] using hi
    subst hij
    simp only [cmpT, Option.bind_eq_some_iff, Option.map_eq_some_iff] at hc
    obtain ⟨is0, his0, kr, hkr, rfl⟩ := hc
    simp only [cmpL, Option.bind_eq_some_iff, Option.map_eq_some_iff] at his0
    obtain ⟨x, hx, is, his, rfl⟩ := his0
    obtain ⟨o, jj, hoi, hj, hcase⟩ := cmpO_some hx
    simp only [altOk, Bool.and_eq_true, hoi, Option.map_some, Option.getD_some] at ho
    obtain ⟨hgn, ho2⟩ := ho
    rcases hcase with ⟨hg, rfl⟩ | ⟨g, b, c, hg, hgc, rfl⟩
    · exact (drw_step (K := fun σ h => wL P (some ⟨p, h0⟩) is 0 (fun σ h => wT P (some ⟨p, h0⟩) kr C σ h) σ h) hno hQp hoi hj ha hs hS
        (fun σ' a' w' h1 h2 h3 h4 => drw_sound hno hQp (fun σ a w fuel listed h1 h2 h3 h4 h5 => drt_sound hno hQp hC r kr fuel listed hkr h1 σ a w h2 h3 h4 h5) st is 0 σ' a' w' fuel _ his ho2 h1 h2 h3 h4) (.inl ⟨wanted_none hg _, h⟩)).1
    · rw [hg] at hgn; cases hgn
  | .alt x y, k, fuel, listed, hc, ho, σ, a, w, ha, hs, hS, h, i, hi => by
    simp only [cmpT, Option.bind_eq_some_iff, Option.map_eq_some_iff] at hc
    obtain ⟨kx, hx, ky, hy, rfl⟩ := hc
    simp only [altOk, Bool.and_eq_true] at ho
    simp only [heads, List.mem_append] at hi
    rcases hi with hi | hi
    · exact alt_sound hno hQp hC x kx fuel listed hx ho.1 σ a w ha hs hS h.1 i hi
    · exact alt_sound hno hQp hC y ky fuel listed hy ho.2 σ a w ha hs hS h.2 i hi
end
end

/-! ### Code -/

def QL (n : Nat) (w0 : World) (Q : X → Env → Heap → Prop) : Exit → Act → World → Prop
  | .normal, a, w => ∃ σ, Agr n σ a ∧ Same w0 w ∧ Q .normal σ w.heap
  | .exit id, a, w => ∃ σ, Agr n σ a ∧ Same w0 w ∧ Q (.exit id) σ w.heap
  | .ret, a, w => ∃ σ, Agr n σ a ∧ Same w0 w ∧ Q .ret σ w.heap
  | _, _, _ => False

theorem X.then_assoc (f g : Env → Heap → Prop) (Q : X → Env → Heap → Prop) : X.then f (X.then g Q) = X.then f Q := by
  funext e σ h
  cases e <;> rfl

theorem sq_seq {P : Program} : ∀ (a b : C) (Q : X → Env → Heap → Prop) (σ : Env) (h : Heap), wC P (sq a b) Q σ h = wC P a (X.then (wC P b Q) Q) σ h
  | .skip, b, Q, σ, h => rfl
  | .seq x y, b, Q, σ, h => by
    have e : (fun σ h => wC P (sq y b) Q σ h) = (fun σ h => wC P y (X.then (wC P b Q) Q) σ h) := by funext σ h; exact sq_seq y b Q σ h
    show wC P x (X.then (wC P (sq y b) Q) Q) σ h = wC P x (X.then (wC P y (X.then (wC P b Q) Q)) (X.then (wC P b Q) Q)) σ h
    have e' : wC P (sq y b) Q = wC P y (X.then (wC P b Q) Q) := e
    rw [e']
    congr 1
    funext e σ h
    cases e <;> rfl
  | .reg _, _, _, _, _ => rfl
  | .drw _, _, _, _, _ => rfl
  | .drt _, _, _, _, _ => rfl
  | .cond _ _ _, _, _, _, _ => rfl
  | .block _ _, _, _, _, _ => rfl
  | .loop _, _, _, _, _ => rfl
  | .exit _, _, _, _, _ => rfl
  | .ret, _, _, _, _ => rfl

theorem wC_sound {P : Program} {n : Nat} : ∀ (c : Code) (pl : List RP) (k : C) (pl' : List RP), cmpC P n c pl = some (k, pl') → ∀ (Q : X → Env → Heap → Prop) (w0 : World) (σ : Env) (a : Act) (w : World),
    Agr n σ a → Same w0 w → wC P k Q σ w.heap → c.wp P (QL n w0 Q) a w
  | .skip, pl, k, pl', hc, Q, w0, σ, a, w, ha, hs, h => by
    cases hc
    exact wp_skip ⟨σ, ha, hs, h⟩
  | .region id ops draw, [], k, pl', hc, Q, w0, σ, a, w, ha, hs, h => by cases hc
  | .region id ops draw, .t p :: pl, k, pl', hc, Q, w0, σ, a, w, ha, hs, h => by
    unfold cmpC at hc
    split at hc
    · rename_i hok
      obtain ⟨t, ht, he⟩ := Option.map_eq_some_iff.1 hc
      cases he
      obtain ⟨q, hq, hL⟩ := h
      simp only [drtOk, Bool.and_eq_true] at hok
      obtain ⟨hd, ⟨hm, hno⟩, hord⟩ := hok
      have hd' : draw = true := hd
      subst hd'
      refine wp_region_held (S := fun w' => ∀ b, q b → w'.heap[b]? = w.heap[b]?) hm ?_
      exact drt_sound (w0 := w0) (Q := QL n w0 Q) hno (fun c a w h => h) (fun σ a w h1 h2 h3 => ⟨σ, h1, h2, h3⟩) p t ops.size _ ht hord σ a { w with drawn := w.drawn + 1 } ha (hs.trans ⟨rfl, rfl, rfl⟩) (fun b _ => rfl) hL
    · cases hc
  | .region id ops draw, .l st :: pl, k, pl', hc, Q, w0, σ, a, w, ha, hs, h => by
    unfold cmpC at hc
    cases draw with
    | true =>
      rw [if_pos rfl] at hc
      split at hc
      · rename_i hok
        obtain ⟨is, his, he⟩ := Option.map_eq_some_iff.1 hc
        cases he
        obtain ⟨p, hp, hL⟩ := h
        simp only [drwOk, Bool.and_eq_true] at hok
        obtain ⟨⟨hm, hno⟩, hord⟩ := hok
        refine wp_region_held (S := fun w' => ∀ b, p b → w'.heap[b]? = w.heap[b]?) hm ?_
        exact drw_sound (w0 := w0) (Q := QL n w0 Q) hno (fun c a w h => h) (fun σ a w fuel listed h0 h1 h2 _ h3 => wpAnyH_done (by simpa [allIn] using h0) ⟨σ, h1, h2, h3⟩ fuel) st is 0 σ a { w with drawn := w.drawn + 1 } ops.size _ his hord ha (hs.trans ⟨rfl, rfl, rfl⟩) (fun b _ => rfl) hL
      · cases hc
    | false =>
      rw [if_neg (by simp)] at hc
      split at hc
      · rename_i hord
        obtain ⟨is, his, he⟩ := Option.map_eq_some_iff.1 hc
        cases he
        refine wp_region ?_
        rw [← hord]
        exact wL_sound (Q := QL n w0 Q) (fun σ a w h1 h2 h3 => ⟨σ, h1, h2, h3⟩) st is 0 σ a w his ha hs h
      · cases hc
  | .seq x y, pl, k, pl', hc, Q, w0, σ, a, w, ha, hs, h => by
    simp only [cmpC, Option.bind_eq_some_iff, Option.map_eq_some_iff] at hc
    obtain ⟨⟨kx, p1⟩, hx, ⟨ky, p2⟩, hy, he⟩ := hc
    cases he
    rw [sq_seq] at h
    refine wp_seq (wp_mono (wC_sound x pl kx p1 hx _ w0 σ a w ha hs h) ?_)
    intro e a' w' hq
    cases e with
    | normal =>
      obtain ⟨σ', h1, h2, h3⟩ := hq
      exact wC_sound y p1 ky _ hy Q w0 σ' a' w' h1 h2 h3
    | exit id => exact hq
    | ret => exact hq
    | goto l => exact hq.elim
    | panic c => exact hq.elim
    | outgrown => exact hq.elim
  | .cond x y z, pl, k, pl', hc, Q, w0, σ, a, w, ha, hs, h => by
    simp only [cmpC, Option.bind_eq_some_iff, Option.map_eq_some_iff] at hc
    obtain ⟨⟨ky, p1⟩, hy, ⟨kz, p2⟩, hz, he⟩ := hc
    cases he
    obtain ⟨v, hv, g1⟩ := bd_elim h
    obtain ⟨t, ht, g2⟩ := bd_elim g1
    have hvb := asB_some ht
    subst hvb
    refine wp_cond (ha.eval hv) ?_
    cases t with
    | true => rw [br_true] at g2; exact wC_sound y pl ky p1 hy Q w0 σ a w ha hs g2
    | false => rw [br_false] at g2; exact wC_sound z p1 kz _ hz Q w0 σ a w ha hs g2
  | .block id x, pl, k, pl', hc, Q, w0, σ, a, w, ha, hs, h => by
    obtain ⟨⟨kx, p1⟩, hx, he⟩ := Option.map_eq_some_iff.1 hc
    cases he
    refine wp_block (wp_mono (wC_sound x pl kx _ hx _ w0 σ a w ha hs h) ?_)
    intro e a' w' hq
    cases e with
    | normal => exact hq
    | exit i =>
      obtain ⟨σ', h1, h2, h3⟩ := hq
      simp only [X.inBlock] at h3
      by_cases hi : i = id
      · subst hi
        rw [if_pos rfl] at h3
        simp only [Exit.inBlock, if_true]
        exact ⟨σ', h1, h2, h3⟩
      · rw [if_neg hi] at h3
        simp only [Exit.inBlock, if_neg hi]
        exact ⟨σ', h1, h2, h3⟩
    | ret => exact hq
    | goto l => exact hq.elim
    | panic c => exact hq.elim
    | outgrown => exact hq.elim
  | .loop x, pl, k, pl', hc, Q, w0, σ, a, w, ha, hs, h => by
    obtain ⟨⟨kx, p1⟩, hx, he⟩ := Option.map_eq_some_iff.1 hc
    cases he
    obtain ⟨Inv, m, h0, hround⟩ := h
    refine wp_loop_ghost (fun m a w => ∃ σ, Agr n σ a ∧ Same w0 w ∧ Inv m σ w.heap) m ⟨σ, ha, hs, h0⟩ ?_
    rintro m a w ⟨σ, ha, hs, hI⟩
    refine wp_mono (wC_sound x pl kx _ hx _ w0 σ a w ha hs (hround m σ w.heap hI)) ?_
    intro e a' w' hq
    cases e with
    | normal =>
      obtain ⟨σ', h1, h2, m', hm, hI'⟩ := hq
      exact ⟨m', hm, σ', h1, h2, hI'⟩
    | exit id => exact hq
    | ret => exact hq
    | goto l => exact hq.elim
    | panic c => exact hq.elim
    | outgrown => exact hq.elim
  | .exit id, pl, k, pl', hc, Q, w0, σ, a, w, ha, hs, h => by
    cases hc
    exact wp_exit ⟨σ, ha, hs, h⟩
  | .ret, pl, k, pl', hc, Q, w0, σ, a, w, ha, hs, h => by
    cases hc
    exact wp_ret ⟨σ, ha, hs, h⟩
  | .rangeFunc .., _, _, _, hc, _, _, _, _, _, _, _, _ => by cases hc
  | .scope _, _, _, _, hc, _, _, _, _, _, _, _, _ => by cases hc
  | .label _, _, _, _, hc, _, _, _, _, _, _, _, _ => by cases hc
  | .goto _, _, _, _, hc, _, _, _, _, _, _, _, _ => by cases hc
  | .refuse _, _, _, _, hc, _, _, _, _, _, _, _, _ => by cases hc

/-! ### Functions -/

def resOne (tmps : Array Value) : ResultVar → Sem Value
  | .tmp t => pure (tmps.getD t undef)
  | .cell c t => do loadVar t (← asAddr (tmps.getD c undef))

theorem results_eq (fn : Func) (tmps : Array Value) : results fn tmps = (fn.results.mapM (resOne tmps)) >>= fun vs => pure (if h : vs.size = 1 then vs[0] else .tuple vs) := rfl

theorem run_results {P : Program} {n : Nat} {σ : Env} {a : Act} (ha : Agr n σ a) (w : World) : ∀ (rv : List ResultVar) (rs : List Rs) (vs : List Value), cmpRs P rv = some rs → resV w.heap σ rs = some vs →
    (rv.mapM (resOne a.tmps)).run P w = .ok vs w
  | [], rs, vs, hc, hv => by cases hc; cases hv; simp
  | .tmp t :: rv, rs, vs, hc, hv => by
    obtain ⟨rs', hc', rfl⟩ := Option.map_eq_some_iff.1 hc
    simp only [resV, Option.bind_eq_some_iff, Option.map_eq_some_iff] at hv
    obtain ⟨v, hv, vs', hvs', rfl⟩ := hv
    have ih := run_results ha w rv rs' vs' hc' hvs'
    have h1 : a.tmps.getD t undef = v := ha.eval (x := .tmp t) hv
    simp only [List.mapM_cons, Sem.run_bind, resOne, Sem.run_pure, Result.andThen_ok, h1, ih]
  | .cell c t :: rv, rs, vs, hc, hv => by
    unfold cmpRs at hc
    split at hc
    · rename_i k hk
      obtain ⟨rs', hc', rfl⟩ := Option.map_eq_some_iff.1 hc
      simp only [resV, Option.bind_eq_some_iff, Option.map_eq_some_iff] at hv
      obtain ⟨v, hv, q, hq, l, hl, vs', hvs', rfl⟩ := hv
      have ih := run_results ha w rv rs' vs' hc' hvs'
      have h1 : a.tmps.getD c undef = v := ha.eval (x := .tmp c) hv
      have hp := asP_some hq
      have h2 : (resOne a.tmps (.cell c t)).run P w = .ok (.agg l.toArray) w := by
        simp only [resOne, Sem.run_bind, h1, hp, asAddr, Sem.run_pure, Result.andThen_ok, loadVar, (run_isAgg' hk w).1, Option.isSome_some, if_true, run_sizeOf' ((run_isAgg' hk w).2 k rfl), run_loadCells_rd w hl]
      simp only [List.mapM_cons, Sem.run_bind, h2, Sem.run_pure, Result.andThen_ok, ih]
    · cases hc

theorem look_envOf : ∀ (vs : List Value) (i s : Nat) (v : Value), look (envOf i vs) s = some v → i ≤ s ∧ vs[s - i]? = some v
  | [], _, _, _, h => by cases h
  | u :: vs, i, s, v, h => by
    simp only [envOf, look] at h
    split at h
    · rename_i e; subst e; cases h; simp
    · rename_i e
      obtain ⟨h1, h2⟩ := look_envOf vs (i + 1) s v h
      refine ⟨by omega, ?_⟩
      rw [show s - i = (s - (i + 1)) + 1 by omega]
      simpa using h2

theorem fn_ok {P : Program} {f : FuncId} {fn : Func} {c : Code} {pl : List RP} {k : C} {rs : List Rs} {args : List Value} {h : Heap} {R : Value → Heap → Prop}
    (hf : P.funcs[f]? = some fn) (hb : fn.body = some c) (hc : cmpC P fn.ntmps c pl = some (k, [])) (hr : cmpRs P fn.results.toList = some rs) (hn : args.length ≤ fn.ntmps)
    (H : wC P k (endW rs R) (envOf 0 args) h) : CallsH P f args h R := by
  intro w hw
  subst hw
  refine calls_of_wp hf hb ?_
  have ha : Agr fn.ntmps (envOf 0 args) { tmps := args.toArray ++ Array.replicate (fn.ntmps - args.toArray.size) undef, defers := [] } := by
    refine ⟨by simp; omega, rfl, fun s v hs => ?_⟩
    obtain ⟨_, h2⟩ := look_envOf args 0 s v hs
    have hlt : s < args.length := by
      rcases Nat.lt_or_ge s args.length with h | h
      · exact h
      · simp at h2; rw [List.getElem?_eq_none h] at h2; cases h2
    rw [Array.getElem?_append_left (by simpa using hlt)]
    simpa using h2
  refine wp_mono (wC_sound c pl k [] hc _ w _ _ w ha (Same.refl w) H) ?_
  have fin : ∀ σ a w', Agr fn.ntmps σ a → Same w w' → bd (resV w'.heap σ rs) (fun vs => R (one vs) w'.heap) →
      a.defers = [] ∧ ∃ v, (results fn a.tmps).run P w' = .ok v w' ∧ ∃ v', Ending.returned v = .returned v' ∧ R v' w'.heap ∧ Same w w' := by
    intro σ a w' ha hs hb
    obtain ⟨vs, hvs, hR⟩ := bd_elim hb
    refine ⟨ha.defers, one vs, ?_, one vs, rfl, hR, hs⟩
    have := run_results ha w' fn.results.toList rs vs hr hvs
    rw [results_eq, Array.mapM_eq_mapM_toList]
    simp only [Sem.run_bind, Sem.run_map, this, Result.andThen_ok, Sem.run_pure]
    congr 1
    unfold one
    match vs with
    | [] => simp
    | [v] => simp
    | v :: u :: r => simp
  intro e a w' hq
  cases e with
  | normal => obtain ⟨σ, h1, h2, h3⟩ := hq; exact fin σ a w' h1 h2 h3
  | ret => obtain ⟨σ, h1, h2, h3⟩ := hq; exact fin σ a w' h1 h2 h3
  | exit id => obtain ⟨σ, h1, h2, h3⟩ := hq; exact h3.elim
  | goto l => exact hq.elim
  | panic c => exact hq.elim
  | outgrown => exact hq.elim

/-- A function in the small language. -/
def cmpF (P : Program) (fn : Func) (pl : List RP) : Option (C × List Rs) :=
  match fn.body with
  | some c => match cmpC P fn.ntmps c pl, cmpRs P fn.results.toList with
    | some (k, []), some rs => some (k, rs)
    | _, _ => none
  | none => none

theorem fn_ok2 {P : Program} {f : FuncId} {fn : Func} {pl : List RP} {k : C} {rs : List Rs} {args : List Value} {h : Heap} {R : Value → Heap → Prop}
    (hf : P.funcs[f]? = some fn) (hc : cmpF P fn pl = some (k, rs)) (hn : args.length ≤ fn.ntmps) (H : wC P k (endW rs R) (envOf 0 args) h) : CallsH P f args h R := by
  unfold cmpF at hc
  split at hc
  · rename_i c hb
    split at hc
    · rename_i k' rs' h1 h2
      cases hc
      exact fn_ok hf hb h1 h2 hn H
    · cases hc
  · cases hc
end Go.AX
