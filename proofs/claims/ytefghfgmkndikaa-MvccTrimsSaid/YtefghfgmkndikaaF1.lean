/-
  A small instruction language over the model's code: what a region, a branch, a loop does to a partial environment of temporaries and to the heap alone (the draws are hidden). Here: the definitions, and that a function's code is compiled to it.
-/
import Derived.WalkKit
import Derived.WalkLawsBesides
import Derived.OrdersHeld
import Derived.KernelRfl
set_option linter.unusedSimpArgs false
set_option linter.unusedVariables false
namespace Go.AX
open Go

abbrev Heap := Array Obj
abbrev Env := List (Nat × Value)

/-- Of the world all is as it was but the heap and the number of draws. -/
structure Same (w w' : World) : Prop where
  os : w'.os = w.os
  tape : w'.tape = w.tape
  output : w'.output = w.output

theorem Same.refl (w : World) : Same w w := ⟨rfl, rfl, rfl⟩
theorem Same.trans {a b c : World} (h : Same a b) (k : Same b c) : Same a c := ⟨k.os.trans h.os, k.tape.trans h.tape, k.output.trans h.output⟩

/-- A call that returns a value, said of the heap alone. -/
def CallsH (P : Program) (f : FuncId) (args : List Value) (h : Heap) (R : Value → Heap → Prop) : Prop :=
  ∀ w : World, w.heap = h → Calls P f args.toArray w fun e w' => ∃ v, e = .returned v ∧ R v w'.heap ∧ Same w w'

theorem CallsH.mono {P : Program} {f : FuncId} {args : List Value} {h : Heap} {R R' : Value → Heap → Prop} (H : CallsH P f args h R) (k : ∀ v h', R v h' → R' v h') :
    CallsH P f args h R' := fun w hw => (H w hw).mono fun _ _ ⟨v, he, hr, hs⟩ => ⟨v, he, k _ _ hr, hs⟩

def bd {α : Type} (o : Option α) (k : α → Prop) : Prop := match o with | some v => k v | none => False
theorem bd_some {α : Type} (v : α) (k : α → Prop) : bd (some v) k = k v := rfl
theorem bd_elim {α : Type} {o : Option α} {k : α → Prop} (h : bd o k) : ∃ v, o = some v ∧ k v := by
  cases o with
  | none => exact h.elim
  | some v => exact ⟨v, rfl, h⟩

def look : Env → Nat → Option Value
  | [], _ => none
  | (m, v) :: σ, n => if n = m then some v else look σ n

def kc (o : Option Value) (s : Nat) (r : Env) : Env := match o with | some v => (s, v) :: r | none => r
/-- These temporaries alone, in this order. -/
def keep : List Nat → Env → Env
  | [], _ => []
  | s :: l, σ => kc (look σ s) s (keep l σ)

theorem look_keep : ∀ (l : List Nat) (σ : Env) (n : Nat) (v : Value), look (keep l σ) n = some v → look σ n = some v
  | [], _, _, _, h => by cases h
  | s :: l, σ, n, v, h => by
    simp only [keep, kc] at h
    split at h
    · rename_i u hu
      simp only [look] at h
      split at h
      · rename_i e; subst e; rw [hu]; exact h
      · exact look_keep l σ n v h
    · exact look_keep l σ n v h

def evO (σ : Env) : Operand → Option Value
  | .tmp t => look σ t
  | .const v => some v
  | .global g => some (.pointer (some ⟨g, 0, none⟩))
  | .func f => some (.func (.func f) #[] #[])

def evOs (σ : Env) : List Operand → Option (List Value)
  | [] => some []
  | x :: xs => (evO σ x).bind fun v => (evOs σ xs).map (v :: ·)

/-- An operand that need not be there. -/
def evOo (σ : Env) : Option Operand → Option (Option Value)
  | none => some none
  | some x => (evO σ x).map some

/-- A cell, cells in a row. -/
def cel (h : Heap) (b o : Nat) : Option Value :=
  match h[b]? with
  | some (.cells c _ _) => c[o]?
  | _ => none
def rd (h : Heap) (b : Nat) : (o n : Nat) → Option (List Value)
  | _, 0 => some []
  | o, n + 1 => (cel h b o).bind fun v => (rd h b (o + 1) n).map (v :: ·)

def patch (c : Array Value) (o : Nat) : List Value → Array Value
  | [] => c
  | v :: vs => patch (c.setIfInBounds o v) (o + 1) vs
def wrObj (o : Nat) (vs : List Value) : Obj → Obj
  | .cells c t f => .cells (patch c o vs) t f
  | x => x
/-- The heap with cells written. -/
def wr (h : Heap) (b o : Nat) (vs : List Value) : Heap := h.modify b (wrObj o vs)
def wrOk (h : Heap) (b o : Nat) (vs : List Value) : Prop :=
  ∃ c t, h[b]? = some (.cells c t (0, 0)) ∧ o + vs.length ≤ c.size ∧ ∀ v ∈ vs, v.oneCell' = true

def asB : Value → Option Bool | .bool b => some b | _ => none
def asI : Value → Option Int | .int _ n => some n | _ => none
def asP : Value → Option (Nat × Nat) | .pointer (some ⟨b, o, none⟩) => some (b, o) | _ => none
/-- A slice that has an address. -/
def asSl : Value → Option (Nat × Nat × Nat × Nat) | .slice (some ⟨b, o, none⟩) n c => some (b, o, n, c) | _ => none
/-- The value of a pointer into a block. -/
abbrev ptr (b o : Nat) : Value := .pointer (some ⟨b, o, none⟩)
abbrev vi (n : Int) : Value := .int .i64 n
abbrev sl (b o n c : Nat) : Value := .slice (some ⟨b, o, none⟩) n c

/-- In a region that draws its order: the blocks whose cells are read, and the heap from which they are. -/
structure Md where
  p : Nat → Prop
  h0 : Heap
def ldHeap (m : Option Md) (h : Heap) : Heap := match m with | none => h | some m => m.h0
def ldOk (m : Option Md) (b : Nat) : Prop := match m with | none => True | some m => m.p b
def kpOk (m : Option Md) (h h' : Heap) : Prop := match m with | none => True | some m => ∀ b, m.p b → h'[b]? = h[b]?
/-- May this heap be the one at hand? -/
def heapOk (m : Option Md) (h hp : Heap) : Prop := match m with | none => hp = h | some m => ∀ b, m.p b → hp[b]? = m.h0[b]?

/-- Operators on two values that look at nothing else. -/
def binV (op : BinOp) (x y : Value) : Option Value :=
  match x, y with
  | .int k a, .int k' b =>
    if k ≠ k' then none else
    match op with
    | .add => some (.int k (k.wrap (a + b)))
    | .sub => some (.int k (k.wrap (a - b)))
    | .mul => some (.int k (k.wrap (a * b)))
    | .eql => some (.bool (a == b))
    | .neq => some (.bool (a != b))
    | .lss => some (.bool (a < b))
    | .leq => some (.bool (a ≤ b))
    | .gtr => some (.bool (a > b))
    | .geq => some (.bool (a ≥ b))
    | _ => none
  | .string a, .string b =>
    match op with
    | .eql => some (.bool (a.toList == b.toList))
    | .neq => some (.bool !(a.toList == b.toList))
    | .lss => some (.bool (Op.bytesLess a.toList b.toList))
    | .leq => some (.bool (Op.bytesLess a.toList b.toList || a.toList == b.toList))
    | .gtr => some (.bool !(Op.bytesLess a.toList b.toList || a.toList == b.toList))
    | .geq => some (.bool !(Op.bytesLess a.toList b.toList))
    | _ => none
  | _, _ => none

/-- Two bools of type bool. -/
def eqB (neg : Bool) (x y : Value) : Option Value :=
  match x, y with
  | .bool a, .bool b => some (.bool (if neg then !(a == b) else a == b))
  | _, _ => none

/-- A pointer or a slice against nil. -/
def eqN (sl neg : Bool) (x y : Value) : Option Value :=
  match sl, x, y with
  | false, .pointer none, .pointer b => some (.bool (if neg then !b.isNone else b.isNone))
  | false, .pointer (some _), .pointer none => some (.bool neg)
  | true, .slice none _ _, .slice b _ _ => some (.bool (if neg then !b.isNone else b.isNone))
  | true, .slice (some _) _ _, .slice none _ _ => some (.bool neg)
  | _, _, _ => none

/-- The kinds of the cells of a struct without memory behind it. -/
inductive Kd where
  | i (k : IntKind) | b | s
  deriving DecidableEq
def kdOk : Kd → Value → Bool
  | .i k, .int k' _ => k == k'
  | .b, .bool _ => true
  | .s, .string _ => true
  | _, _ => false
def eqKd : Kd → Value → Value → Option Bool
  | .i k, .int k1 a, .int k2 b => if k1 = k ∧ k2 = k then some (a == b) else none
  | .b, .bool a, .bool b => some (a == b)
  | .s, .string a, .string b => some (a.toList == b.toList)
  | _, _, _ => none
/-- Two rows of cells, cell by cell. -/
def eqKds : List Kd → List Value → List Value → Option Bool
  | [], [], [] => some true
  | k :: ks, x :: xs, y :: ys => (eqKd k x y).bind fun a => (eqKds ks xs ys).map (a && ·)
  | _, _, _ => none
def eqA (neg : Bool) (ks : List Kd) (x y : Value) : Option Value :=
  match x, y with
  | .agg xs, .agg ys => (eqKds ks xs.toList ys.toList).map fun b => .bool (if neg then !b else b)
  | _, _ => none

def unV (op : UnOp) (x : Value) : Option Value :=
  match op, x with
  | .not, .bool b => some (.bool !b)
  | .neg, .int k n => some (.int k (k.wrap (0 - n)))
  | _, _ => none

def lenV (sl : Bool) (x : Value) : Option Value :=
  match sl, x with
  | true, .slice _ n _ => some (vi n)
  | false, .string s => some (vi s.size)
  | _, _ => none
def capV : Value → Option Value
  | .slice _ _ n => some (vi n)
  | _ => none
def maxV (mx : Bool) : Value → Value → Option Value
  | .int k x, .int _ y => some (.int k (if mx then (if y > x then y else x) else (if y < x then y else x)))
  | _, _ => none
def cvtV (k : IntKind) : Value → Option Value
  | .int _ n => some (.int k (k.wrap n))
  | _ => none
def extV (i : Nat) : Value → Option Value
  | .tuple vs => vs[i]?
  | _ => none
def nchV : Value → Option Value
  | .pointer (some a) => some (.pointer (some a))
  | .slice a n c => some (.slice a n c)
  | _ => none

/-- Parts laid into cells: place, size, value. -/
def putL (cs : List Value) (o : Nat) : List Value → List Value
  | [] => cs
  | v :: vs => putL (cs.set o v) (o + 1) vs
def fillL (σ : Env) : List Value → List (Nat × Nat × Operand) → Option (List Value)
  | cs, [] => some cs
  | cs, (off, size, x) :: r => (evO σ x).bind fun v => if v.cells.size = size ∧ off + size ≤ cs.length then fillL σ (putL cs off v.cells.toList) r else none

inductive J where
  | mov (d : Nat) (x : Operand)
  | pick (d : Nat) (c a b : Operand)
  | ld (d : Nat) (n : Option Nat) (x : Operand)
  | fad (d off : Nat) (x : Operand)
  | iad (d sz : Nat) (x i : Operand)
  | slc (d sz : Nat) (x : Operand) (lo hi mx : Option Operand)
  | ext (d : Nat) (x : Operand) (i : Nat)
  | bin (d : Nat) (op : BinOp) (x y : Operand)
  | eqb (d : Nat) (neg : Bool) (x y : Operand)
  | eqn (d : Nat) (sl neg : Bool) (x y : Operand)
  | eqa (d : Nat) (neg : Bool) (ks : List Kd) (x y : Operand)
  | un (d : Nat) (op : UnOp) (x : Operand)
  | len (d : Nat) (sl : Bool) (x : Operand)
  | cap (d : Nat) (x : Operand)
  | mm (d : Nat) (mx : Bool) (x y : Operand)
  | cvt (d : Nat) (k : IntKind) (x : Operand)
  | bld (d : Nat) (zero : List Value) (parts : List (Nat × Nat × Operand))
  | fn (d : Nat) (f : FuncId) (caps : List Operand)
  | nch (d : Option Nat) (x : Operand)
  | new (d : Nat) (t : TypeId) (zero : List Value)
  | box (d : Nat) (t : TypeId) (x : Operand)
  | bsl (d : Nat) (t n : Nat) (zero : List Value) (parts : List (Nat × Nat × Operand))
  | st (n : Nat) (x v : Operand)
  | call (d : Option Nat) (f : FuncId) (args : List Operand)
  | cav (d : Option Nat) (x : Operand) (args : List Operand)
  | raw (d : Option Nat) (o : Oper)
  deriving Inhabited

def J.dst : J → Option Nat
  | .mov d _ | .pick d .. | .ld d .. | .fad d .. | .iad d .. | .slc d .. | .ext d .. | .bin d .. | .eqb d .. | .eqn d .. | .eqa d .. | .un d .. | .len d .. | .cap d _ | .mm d .. | .cvt d .. | .bld d ..
  | .fn d .. | .new d .. | .box d .. | .bsl d .. => some d
  | .nch d _ | .call d .. | .cav d .. | .raw d _ => d
  | .st .. => none

/-- Does it yield a value and leave the heap alone? -/
def J.take : J → Bool
  | .new .. | .box .. | .bsl .. | .st .. | .call .. | .cav .. | .raw .. => false
  | _ => true

def putE (σ : Env) : Option Nat → Value → Env
  | some d, v => (d, v) :: σ
  | none, _ => σ

/-- The result of a slice expression over a slice. -/
def slcV (sz : Nat) (x : Value) (lo hi mx : Option Value) (K : Value → Prop) : Prop :=
  match x with
  | .slice a n c =>
    bd (match mx with | some v => asI v | none => some (c : Int)) fun m =>
    bd (match hi with | some v => asI v | none => some (n : Int)) fun h =>
    bd (match lo with | some v => asI v | none => some (0 : Int)) fun l =>
    0 ≤ l ∧ l ≤ h ∧ h ≤ m ∧ m ≤ c ∧
    K (.slice (if m.toNat = l.toNat then a else a.map (·.add (l.toNat * sz))) (h.toNat - l.toNat) (m.toNat - l.toNat))
  | _ => False

/-- What an instruction that leaves the heap alone yields. -/
def wV (m : Option Md) (h : Heap) (σ : Env) (j : J) (K : Value → Prop) : Prop :=
  match j with
  | .mov _ x => bd (evO σ x) K
  | .pick _ c a b => bd (evO σ c) fun v => bd (asB v) fun t => bd (evO σ (bif t then a else b)) K
  | .ld _ n x => bd (evO σ x) fun v => bd (asP v) fun q => ldOk m q.1 ∧ match n with
    | none => bd (cel (ldHeap m h) q.1 q.2) K
    | some n => bd (rd (ldHeap m h) q.1 q.2 n) fun l => K (.agg l.toArray)
  | .fad _ off x => bd (evO σ x) fun v => bd (asP v) fun q => K (ptr q.1 (q.2 + off))
  | .iad _ sz x i => bd (evO σ x) fun v => bd (evO σ i) fun u => bd (asSl v) fun q => bd (asI u) fun k => 0 ≤ k ∧ k < q.2.2.1 ∧ K (ptr q.1 (q.2.1 + k.toNat * sz))
  | .slc _ sz x lo hi mx => bd (evO σ x) fun v => bd (evOo σ lo) fun l => bd (evOo σ hi) fun h => bd (evOo σ mx) fun m => slcV sz v l h m K
  | .ext _ x i => bd (evO σ x) fun v => bd (extV i v) K
  | .bin _ op x y => bd (evO σ x) fun v => bd (evO σ y) fun u => bd (binV op v u) K
  | .eqb _ neg x y => bd (evO σ x) fun v => bd (evO σ y) fun u => bd (eqB neg v u) K
  | .eqn _ sl neg x y => bd (evO σ x) fun v => bd (evO σ y) fun u => bd (eqN sl neg v u) K
  | .eqa _ neg ks x y => bd (evO σ x) fun v => bd (evO σ y) fun u => bd (eqA neg ks v u) K
  | .un _ op x => bd (evO σ x) fun v => bd (unV op v) K
  | .len _ sl x => bd (evO σ x) fun v => bd (lenV sl v) K
  | .cap _ x => bd (evO σ x) fun v => bd (capV v) K
  | .mm _ mx x y => bd (evO σ x) fun v => bd (evO σ y) fun u => bd (maxV mx v u) K
  | .cvt _ k x => bd (evO σ x) fun v => bd (cvtV k v) K
  | .bld _ zero parts => bd (fillL σ zero parts) fun cs => K (.agg cs.toArray)
  | .fn _ f caps => bd (evOs σ caps) fun cs => K (.func (.func f) #[] cs.toArray)
  | .nch _ x => bd (evO σ x) fun v => bd (nchV v) K
  | _ => False

/-- What an operation that is over leaves. -/
def nextV : Next → Option Value
  | .value v => some v
  | .skip => some undef
  | _ => none

/-- Any operation, as the model runs it: it must yield a value, or nothing. -/
def RawW (P : Program) (o : Oper) (σ : Env) (h : Heap) (K : Value → Heap → Prop) : Prop :=
  (∀ x ∈ o.op.operands, (evO σ x).isSome = true) ∧ (∀ cs b, o.op ≠ .select cs b) ∧
  ∀ w : World, w.heap = h → ∃ r v w', (execOp (fun x => (evO σ x).getD undef) o).run P w = .ok r w' ∧ nextV r = some v ∧ Same w w' ∧ K v w'.heap

/-- A function that has a body. -/
def callable (P : Program) (f : FuncId) : Bool := match P.funcs[f]? with | some fn => !(fn.body.isNone || fn.name == "runtime.NumGoroutine") | none => false

/-- What an instruction that may turn the heap does. -/
def wE (P : Program) (h : Heap) (σ : Env) (j : J) (K : Value → Heap → Prop) : Prop :=
  match j with
  | .new _ t zero => K (ptr h.size 0) (h.push (.cells zero.toArray t))
  | .box _ t x => bd (evO σ x) fun v => K (ptr h.size 0) (h.push (.cells v.cells t))
  | .bsl _ t n zero parts => bd (fillL σ zero parts) fun cs => K (sl h.size 0 n n) (h.push (.cells cs.toArray t))
  | .st n x v => bd (evO σ x) fun p => bd (asP p) fun q => bd (evO σ v) fun u => u.cells.size = n ∧ wrOk h q.1 q.2 u.cells.toList ∧ K undef (wr h q.1 q.2 u.cells.toList)
  | .call _ f args => bd (evOs σ args) fun vs => CallsH P f vs h K
  | .cav _ x args => bd (evO σ x) fun v => bd (evOs σ args) fun vs => match v with
    | .func (.func f) first caps => callable P f = true ∧ CallsH P f (first.toList ++ vs ++ caps.toList) h K
    | _ => False
  | .raw _ o => RawW P o σ h K
  | _ => False

def wJ (P : Program) (m : Option Md) (j : J) (C : Env → Heap → Prop) (σ : Env) (h : Heap) : Prop :=
  if j.take then wV m h σ j fun v => C (putE σ j.dst v) h
  else wE P h σ j fun v h' => kpOk m h h' ∧ C (putE σ j.dst v) h'

inductive I where
  /-- forget all temporaries but these -/
  | kp (l : List Nat)
  /-- 'a && b', 'a || b': if temporary c is not w, the next n instructions are not carried out -/
  | sc (c : Nat) (w : Bool) (n : Nat)
  | g (c : Nat) (w : Bool) (j : J)
  | op (j : J)
  deriving Inhabited

def notB (v : Value) (w : Bool) : Bool := match v with | .bool t => t != w | _ => true

/-- Two ways. -/
def br (t : Bool) (A B : Prop) : Prop := (t = true → A) ∧ (t = false → B)
theorem br_true (A B : Prop) : br true A B = A := by simp [br]
theorem br_false (A B : Prop) : br false A B = B := by simp [br]

def wL (P : Program) (m : Option Md) : List I → Nat → (Env → Heap → Prop) → Env → Heap → Prop
  | [], _, C, σ, h => C σ h
  | .kp l :: r, 0, C, σ, h => wL P m r 0 C (keep l σ) h
  | .sc c w n :: r, 0, C, σ, h => bd (look σ c) fun v => bd (asB v) fun t => br (t == w) (wL P m r 0 C ((c, .bool w) :: σ) h) (wL P m r n C ((c, .bool (!w)) :: σ) h)
  | .op j :: r, 0, C, σ, h => wJ P m j (fun σ h => wL P m r 0 C σ h) σ h
  | .g c w j :: r, 0, C, σ, h => look σ c = some (.bool w) ∧ wJ P m j (fun σ h => wL P m r 0 C σ h) σ h
  | .kp _ :: r, k + 1, C, σ, h => wL P m r k C σ h
  | .sc _ _ _ :: r, k + 1, C, σ, h => wL P m r k C σ h
  | .op _ :: _, _ + 1, _, _, _ => False
  | .g c w j :: r, k + 1, C, σ, h => bd (look σ c) fun v => notB v w = true ∧ wL P m r k C (putE σ j.dst undef) h

/-- The ways through a region that draws, where which operation comes next is open. -/
inductive L where
  | nil
  | one (is : List I) (r : L)
  | alt (a b : L)
  deriving Inhabited

/-- Code. -/
inductive C where
  | skip
  /-- a region that keeps the text's order -/
  | reg (is : List I)
  /-- a region that draws its order: the operations may be taken in this order -/
  | drw (is : List I)
  /-- the same, with several orders -/
  | drt (t : L)
  | seq (a b : C)
  | cond (x : Operand) (a b : C)
  | block (id : Nat) (a : C)
  | loop (a : C)
  | exit (id : Nat)
  | ret
  deriving Inhabited

inductive X where
  | normal | exit (id : Nat) | ret
  deriving DecidableEq

def X.then (next : Env → Heap → Prop) (Q : X → Env → Heap → Prop) : X → Env → Heap → Prop
  | .normal, σ, h => next σ h
  | e, σ, h => Q e σ h
def X.inBlock (id : Nat) (Q : X → Env → Heap → Prop) : X → Env → Heap → Prop
  | .exit i, σ, h => if i = id then Q .normal σ h else Q (.exit i) σ h
  | e, σ, h => Q e σ h

/-- A loop, by an invariant that bears a number, which every round lowers. -/
def loopW (body : (X → Env → Heap → Prop) → Env → Heap → Prop) (Q : X → Env → Heap → Prop) (σ : Env) (h : Heap) : Prop :=
  ∃ (Inv : Nat → Env → Heap → Prop) (n : Nat), Inv n σ h ∧ ∀ n σ h, Inv n σ h → body (X.then (fun σ' h' => ∃ n', n' < n ∧ Inv n' σ' h') Q) σ h

/-- A region that draws: the blocks that are read are chosen. -/
def drwW (P : Program) (is : List I) (Q : Env → Heap → Prop) (σ : Env) (h : Heap) : Prop :=
  ∃ p : Nat → Prop, (∀ b, p b → b < h.size) ∧ wL P (some ⟨p, h⟩) is 0 Q σ h

def wT (P : Program) (m : Option Md) : L → (Env → Heap → Prop) → Env → Heap → Prop
  | .nil, C, σ, h => C σ h
  | .one is r, C, σ, h => wL P m is 0 (fun σ h => wT P m r C σ h) σ h
  | .alt a b, C, σ, h => wT P m a C σ h ∧ wT P m b C σ h
def drtW (P : Program) (t : L) (Q : Env → Heap → Prop) (σ : Env) (h : Heap) : Prop :=
  ∃ p : Nat → Prop, (∀ b, p b → b < h.size) ∧ wT P (some ⟨p, h⟩) t Q σ h

/-- One behind the other, the first one's parts first. -/
def sq : C → C → C
  | .skip, c => c
  | .seq a b, c => .seq a (sq b c)
  | a, c => .seq a c

def wC (P : Program) : C → (X → Env → Heap → Prop) → Env → Heap → Prop
  | .skip, Q, σ, h => Q .normal σ h
  | .reg is, Q, σ, h => wL P none is 0 (Q .normal) σ h
  | .drw is, Q, σ, h => drwW P is (Q .normal) σ h
  | .drt t, Q, σ, h => drtW P t (Q .normal) σ h
  | .seq a b, Q, σ, h => wC P a (X.then (wC P b Q) Q) σ h
  | .cond x a b, Q, σ, h => bd (evO σ x) fun v => bd (asB v) fun t => br t (wC P a Q σ h) (wC P b Q σ h)
  | .block id a, Q, σ, h => wC P a (X.inBlock id Q) σ h
  | .loop a, Q, σ, h => loopW (wC P a) Q σ h
  | .exit id, Q, σ, h => Q (.exit id) σ h
  | .ret, Q, σ, h => Q .ret σ h

inductive Rs where
  | tmp (t : Nat)
  | cell (t : Nat) (n : Nat)      -- a struct of n cells in memory
def resV (h : Heap) (σ : Env) : List Rs → Option (List Value)
  | [] => some []
  | .tmp t :: r => (look σ t).bind fun v => (resV h σ r).map (v :: ·)
  | .cell t n :: r => (look σ t).bind fun v => (asP v).bind fun q => (rd h q.1 q.2 n).bind fun l => (resV h σ r).map (.agg l.toArray :: ·)
def one : List Value → Value
  | [v] => v
  | vs => .tuple vs.toArray

/-- The end of a function. -/
def endW (res : List Rs) (R : Value → Heap → Prop) : X → Env → Heap → Prop
  | .exit _, _, _ => False
  | _, σ, h => bd (resV h σ res) fun vs => R (one vs) h

def envOf : Nat → List Value → Env
  | _, [] => []
  | i, v :: vs => (i, v) :: envOf (i + 1) vs

/-! ### From the model's operations -/

def dst1 (n : Nat) (o : Oper) : Option Nat := match o.dst with | some d => if d < n then some d else none | none => none
def dst0 (n : Nat) (o : Oper) : Option (Option Nat) := match o.dst with | some d => if d < n then some (some d) else none | none => some none

/-- How many cells, if it is a struct or an array. -/
def aggSz (P : Program) (t : TypeId) : Option (Option Nat) :=
  match P.underlying t with
  | some (.struct _) | some (.array _ _) => (P.info? t).map fun i => some i.size
  | some _ => some none
  | none => none
def sizeT (P : Program) (t : TypeId) : Option Nat := (P.info? t).map (·.size)
def zeroT (P : Program) (t : TypeId) : Option (List Value) := (P.info? t).bind fun i => i.zero.map fun z => z.cells.toList

/-- The kinds of the cells of fields that lie one behind the other from o on. -/
def flatFs (ft : TypeId → Option (List Kd)) : Nat → List Field → Option (List Kd)
  | _, [] => some []
  | o, f :: fs => if f.name = "_" ∨ f.offset ≠ o then none else (ft f.type).bind fun a => if a.length = 0 then none else (flatFs ft (o + a.length) fs).map (a ++ ·)
/-- The kinds of the cells of a type of numbers, bools, strings and structs of them; d: a depth. -/
def flatT (P : Program) : Nat → TypeId → Option (List Kd)
  | 0, _ => none
  | d + 1, t =>
    match P.underlying t with
    | some (.int k) => some [.i k]
    | some .bool => some [.b]
    | some .string => some [.s]
    | some (.struct fs) => if P.stoodInHeld t then none else (flatFs (flatT P d) 0 fs.toList).bind fun ks => if sizeT P t = some ks.length then some ks else none
    | _ => none

def partsOf (P : Program) (t : TypeId) : List (Nat × Operand) → Option (List (Nat × Nat × Operand))
  | [] => some []
  | (i, x) :: r =>
    match P.underlying t with
    | some (.struct fs) => (fs[i]?).bind fun f => (sizeT P f.type).bind fun s => (partsOf P t r).map ((f.offset, s, x) :: ·)
    | _ => none
/-- Is it a struct whose fields' sizes are known? -/
def fieldsOk (P : Program) (t : TypeId) : Bool :=
  match P.underlying t with
  | some (.struct fs) => fs.toList.all fun f => (sizeT P f.type).isSome
  | _ => false
def partsSl (sz : Nat) : List (Nat × Operand) → List (Nat × Nat × Operand)
  | [] => []
  | (i, x) :: r => (i * sz, sz, x) :: partsSl sz r

def cmpJ (P : Program) (n : Nat) (o : Oper) : Option J :=
  match o.op with
  | .move x | .assign x => (dst1 n o).map (.mov · x)
  | .pick c a b => (dst1 n o).map (.pick · c a b)
  | .load t x => (dst1 n o).bind fun d => (aggSz P t).map fun s => .ld d s x
  | .store t x v => match o.dst with | none => (sizeT P t).map fun s => .st s x v | some _ => none
  | .fieldAddr s x f => (dst1 n o).bind fun d => match P.underlying s with
    | some (.struct fs) => (fs[f]?).bind fun fl => (sizeT P fl.type).bind fun z => if z = 0 then none else some (.fad d fl.offset x)
    | _ => none
  | .indexAddr t x i => (dst1 n o).bind fun d => match P.underlying t with
    | some (.slice e) => (sizeT P e).map fun z => .iad d z x i
    | _ => none
  | .slice t x lo hi mx => (dst1 n o).bind fun d => match P.underlying t with
    | some (.slice e) => if (mx.isSome && hi.isNone) then none else (sizeT P e).map fun z => .slc d z x lo hi mx
    | _ => none
  | .extract x i => (dst1 n o).map (.ext · x i)
  | .binOp op t x y _ => (dst1 n o).bind fun d => match op, P.underlying t with
    | .eql, some .bool => some (.eqb d false x y)
    | .neq, some .bool => some (.eqb d true x y)
    | .eql, some (.pointer _) => some (.eqn d false false x y)
    | .eql, some (.slice _) => some (.eqn d true false x y)
    | .neq, some (.pointer _) => some (.eqn d false true x y)
    | .neq, some (.slice _) => some (.eqn d true true x y)
    | .eql, some (.struct _) => if P.eqGuardType P.depth t = false then (flatT P 20 t).map fun ks => .eqa d false ks x y else none
    | .neq, some (.struct _) => if P.eqGuardType P.depth t = false then (flatT P 20 t).map fun ks => .eqa d true ks x y else none
    | .shl, _ | .shr, _ | .quo, _ | .rem, _ => some (.raw (some d) o)
    | _, some (.int _) | _, some .string => some (.bin d op x y)
    | _, _ => none
  | .unOp op _ x => (dst1 n o).map (.un · op x)
  | .build t parts => (dst1 n o).bind fun d => if fieldsOk P t = true then (zeroT P t).bind fun z => (partsOf P t parts.toList).map fun ps => .bld d z ps else none
  | .makeFunc (.func f) first caps => if first.size = 0 then (dst1 n o).map (.fn · f caps.toList) else none
  | .nilCheck x => (dst0 n o).map (.nch · x)
  | .alloc t => (dst1 n o).bind fun d => (zeroT P t).map fun z => .new d t z
  | .box t x => (dst1 n o).map (.box · t x)
  | .buildSlice t len parts => (dst1 n o).bind fun d => match P.underlying t with
    | some (.slice e) => (sizeT P e).bind fun z => if len = 0 then (if parts.size = 0 then some (.bsl d e 0 [] []) else none) else if len * z > 2 ^ 24 ∨ z = 0 then none else (zeroT P e).bind fun zc => if zc.length = 0 then none else
        some (.bsl d e len ((List.range (len * z)).map fun i => zc.getD (i % zc.length) undef) (partsSl z parts.toList))
    | _ => none
  | .convert s t x => (dst1 n o).bind fun d => match P.underlying s, P.underlying t with
    | some (.int _), some (.int k) => some (.cvt d k x)
    | some _, some _ => some (.raw (some d) o)
    | _, _ => none
  | .call c => match c.callee with
    | .value (.func f) => if callable P f = true then (dst0 n o).map (.call · f c.args.toList) else (dst0 n o).map (.raw · o)
    | .value x => (dst0 n o).map (.cav · x c.args.toList)
    | .builtin .len => (dst1 n o).bind fun d => match (c.argTypes[0]?).bind P.underlying, c.args.toList with
      | some .string, [x] => some (.len d false x)
      | some (.slice _), [x] => some (.len d true x)
      | _, _ => none
    | .builtin .cap => (dst1 n o).bind fun d => match (c.argTypes[0]?).bind P.underlying, c.args.toList with
      | some (.slice _), [x] => some (.cap d x)
      | _, _ => none
    | .builtin .max => (dst1 n o).bind fun d => match c.args.toList with
      | [x, y] => some (.mm d true x y)
      | _ => none
    | .builtin .min => (dst1 n o).bind fun d => match c.args.toList with
      | [x, y] => some (.mm d false x y)
      | _ => none
    | .builtin .append | .builtin .copy | .builtin .clear => (dst0 n o).map (.raw · o)
    | _ => none
  | .makeMap .. | .lookup .. | .mapEntry .. | .entryStore .. | .makeSlice .. => (dst0 n o).map (.raw · o)
  | _ => none

/-- What the printed plan says of each step: operation number i of the region; forget; a guard. -/
inductive St where
  | o (i : Nat)
  | kp (l : List Nat)
  | sc (c : Nat) (w : Bool) (n : Nat)

def cmpO (P : Program) (n : Nat) (ops : Array Oper) (i : Nat) : Option I :=
  (ops[i]?).bind fun o => (cmpJ P n o).bind fun j => match o.guard with
    | none => some (.op j)
    | some (g, w) => ((ops[g]?).bind (·.dst)).map fun c => .g c w j

def cmpL (P : Program) (n : Nat) (ops : Array Oper) : List St → Option (List I)
  | [] => some []
  | .kp l :: r => (cmpL P n ops r).map (.kp l :: ·)
  | .sc c w k :: r => (cmpL P n ops r).map (.sc c w k :: ·)
  | .o i :: r => (cmpO P n ops i).bind fun x => (cmpL P n ops r).map (x :: ·)

def ordOf : List St → List Nat
  | [] => []
  | .o i :: r => i :: ordOf r
  | _ :: r => ordOf r

end Go.AX
