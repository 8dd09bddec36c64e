/-
  The small instruction language: rules for going through it, and words for the heap.
-/
import Derived.Test.YtefghfgmkndikaaM1
import Derived.Maps.AppendAt
import Derived.Lib.Bytealg
import Derived.Lib.Overlaps
import Derived.Lib.AppendZerosOnto
import Derived.Laws.CopyRow
import Derived.Laws.AppendOwn
set_option linter.unusedSimpArgs false
set_option linter.unusedVariables false
namespace Go.AX
open Go

section
variable {P : Program} {m : Option Md} {C : Env → Heap → Prop} {σ : Env} {h : Heap} {r : List I}

theorem wL_nil (k : Nat) : wL P m [] k C σ h = C σ h := by cases k <;> rfl
theorem wL_kp (l : List Nat) : wL P m (.kp l :: r) 0 C σ h = wL P m r 0 C (keep l σ) h := rfl
theorem wL_sc (c : Nat) (w : Bool) (n : Nat) : wL P m (.sc c w n :: r) 0 C σ h =
  (bd (look σ c) fun v => bd (asB v) fun t => br (t == w) (wL P m r 0 C ((c, .bool w) :: σ) h) (wL P m r n C ((c, .bool (!w)) :: σ) h)) := rfl
theorem wL_g (c : Nat) (w : Bool) (j : J) : wL P m (.g c w j :: r) 0 C σ h = (look σ c = some (.bool w) ∧ wL P m (.op j :: r) 0 C σ h) := rfl
theorem wL_kpS (l : List Nat) (k : Nat) : wL P m (.kp l :: r) (k + 1) C σ h = wL P m r k C σ h := rfl
theorem wL_scS (c : Nat) (w : Bool) (n k : Nat) : wL P m (.sc c w n :: r) (k + 1) C σ h = wL P m r k C σ h := rfl
theorem wL_gS (c : Nat) (w : Bool) (j : J) (k : Nat) : wL P m (.g c w j :: r) (k + 1) C σ h = (bd (look σ c) fun v => notB v w = true ∧ wL P m r k C (putE σ j.dst undef) h) := rfl
theorem wL_mov (d : Nat) (x : Operand) : wL P m (.op (.mov d x) :: r) 0 C σ h = (bd (evO σ x) fun v => wL P m r 0 C ((d, v) :: σ) h) := rfl
theorem wL_pick (d : Nat) (c a b : Operand) : wL P m (.op (.pick d c a b) :: r) 0 C σ h = (bd (evO σ c) fun v => bd (asB v) fun t => bd (evO σ (bif t then a else b)) fun v => wL P m r 0 C ((d, v) :: σ) h) := rfl
theorem wL_ld1 (d : Nat) (x : Operand) : wL P m (.op (.ld d none x) :: r) 0 C σ h = (bd (evO σ x) fun v => bd (asP v) fun q => ldOk m q.1 ∧ bd (cel (ldHeap m h) q.1 q.2) fun v => wL P m r 0 C ((d, v) :: σ) h) := rfl
theorem wL_ldn (d n : Nat) (x : Operand) : wL P m (.op (.ld d (some n) x) :: r) 0 C σ h = (bd (evO σ x) fun v => bd (asP v) fun q => ldOk m q.1 ∧ bd (rd (ldHeap m h) q.1 q.2 n) fun l => wL P m r 0 C ((d, .agg l.toArray) :: σ) h) := rfl
theorem wL_fad (d off : Nat) (x : Operand) : wL P m (.op (.fad d off x) :: r) 0 C σ h = (bd (evO σ x) fun v => bd (asP v) fun q => wL P m r 0 C ((d, ptr q.1 (q.2 + off)) :: σ) h) := rfl
theorem wL_iad (d sz : Nat) (x i : Operand) : wL P m (.op (.iad d sz x i) :: r) 0 C σ h =
  (bd (evO σ x) fun v => bd (evO σ i) fun u => bd (asSl v) fun q => bd (asI u) fun k => 0 ≤ k ∧ k < q.2.2.1 ∧ wL P m r 0 C ((d, ptr q.1 (q.2.1 + k.toNat * sz)) :: σ) h) := rfl
theorem wL_slc (d sz : Nat) (x : Operand) (lo hi mx : Option Operand) : wL P m (.op (.slc d sz x lo hi mx) :: r) 0 C σ h =
  (bd (evO σ x) fun v => bd (evOo σ lo) fun l => bd (evOo σ hi) fun hh => bd (evOo σ mx) fun mm => slcV sz v l hh mm fun v => wL P m r 0 C ((d, v) :: σ) h) := rfl
theorem wL_ext (d : Nat) (x : Operand) (i : Nat) : wL P m (.op (.ext d x i) :: r) 0 C σ h = (bd (evO σ x) fun v => bd (extV i v) fun v => wL P m r 0 C ((d, v) :: σ) h) := rfl
theorem wL_bin (d : Nat) (op : BinOp) (x y : Operand) : wL P m (.op (.bin d op x y) :: r) 0 C σ h = (bd (evO σ x) fun v => bd (evO σ y) fun u => bd (binV op v u) fun v => wL P m r 0 C ((d, v) :: σ) h) := rfl
theorem wL_eqb (d : Nat) (neg : Bool) (x y : Operand) : wL P m (.op (.eqb d neg x y) :: r) 0 C σ h = (bd (evO σ x) fun v => bd (evO σ y) fun u => bd (eqB neg v u) fun v => wL P m r 0 C ((d, v) :: σ) h) := rfl
theorem wL_eqn (d : Nat) (s neg : Bool) (x y : Operand) : wL P m (.op (.eqn d s neg x y) :: r) 0 C σ h = (bd (evO σ x) fun v => bd (evO σ y) fun u => bd (eqN s neg v u) fun v => wL P m r 0 C ((d, v) :: σ) h) := rfl
theorem wL_eqa (d : Nat) (neg : Bool) (ks : List Kd) (x y : Operand) : wL P m (.op (.eqa d neg ks x y) :: r) 0 C σ h = (bd (evO σ x) fun v => bd (evO σ y) fun u => bd (eqA neg ks v u) fun v => wL P m r 0 C ((d, v) :: σ) h) := rfl
theorem wL_un (d : Nat) (op : UnOp) (x : Operand) : wL P m (.op (.un d op x) :: r) 0 C σ h = (bd (evO σ x) fun v => bd (unV op v) fun v => wL P m r 0 C ((d, v) :: σ) h) := rfl
theorem wL_len (d : Nat) (s : Bool) (x : Operand) : wL P m (.op (.len d s x) :: r) 0 C σ h = (bd (evO σ x) fun v => bd (lenV s v) fun v => wL P m r 0 C ((d, v) :: σ) h) := rfl
theorem wL_cap (d : Nat) (x : Operand) : wL P m (.op (.cap d x) :: r) 0 C σ h = (bd (evO σ x) fun v => bd (capV v) fun v => wL P m r 0 C ((d, v) :: σ) h) := rfl
theorem wL_mm (d : Nat) (mx : Bool) (x y : Operand) : wL P m (.op (.mm d mx x y) :: r) 0 C σ h = (bd (evO σ x) fun v => bd (evO σ y) fun u => bd (maxV mx v u) fun v => wL P m r 0 C ((d, v) :: σ) h) := rfl
theorem wL_cvt (d : Nat) (k : IntKind) (x : Operand) : wL P m (.op (.cvt d k x) :: r) 0 C σ h = (bd (evO σ x) fun v => bd (cvtV k v) fun v => wL P m r 0 C ((d, v) :: σ) h) := rfl
theorem wL_bld (d : Nat) (zero : List Value) (parts : List (Nat × Nat × Operand)) : wL P m (.op (.bld d zero parts) :: r) 0 C σ h = (bd (fillL σ zero parts) fun cs => wL P m r 0 C ((d, .agg cs.toArray) :: σ) h) := rfl
theorem wL_fn (d f : Nat) (caps : List Operand) : wL P m (.op (.fn d f caps) :: r) 0 C σ h = (bd (evOs σ caps) fun cs => wL P m r 0 C ((d, .func (.func f) #[] cs.toArray) :: σ) h) := rfl
theorem wL_nch (d : Option Nat) (x : Operand) : wL P m (.op (.nch d x) :: r) 0 C σ h = (bd (evO σ x) fun v => bd (nchV v) fun v => wL P m r 0 C (putE σ d v) h) := rfl
theorem wL_new (d t : Nat) (zero : List Value) : wL P m (.op (.new d t zero) :: r) 0 C σ h = (kpOk m h (h.push (.cells zero.toArray t)) ∧ wL P m r 0 C ((d, ptr h.size 0) :: σ) (h.push (.cells zero.toArray t))) := rfl
theorem wL_box (d t : Nat) (x : Operand) : wL P m (.op (.box d t x) :: r) 0 C σ h = (bd (evO σ x) fun v => kpOk m h (h.push (.cells v.cells t)) ∧ wL P m r 0 C ((d, ptr h.size 0) :: σ) (h.push (.cells v.cells t))) := rfl
theorem wL_bsl (d t n : Nat) (zero : List Value) (parts : List (Nat × Nat × Operand)) : wL P m (.op (.bsl d t n zero parts) :: r) 0 C σ h =
  (bd (fillL σ zero parts) fun cs => kpOk m h (h.push (.cells cs.toArray t)) ∧ wL P m r 0 C ((d, sl h.size 0 n n) :: σ) (h.push (.cells cs.toArray t))) := rfl
theorem wL_st (n : Nat) (x v : Operand) : wL P m (.op (.st n x v) :: r) 0 C σ h =
  (bd (evO σ x) fun p => bd (asP p) fun q => bd (evO σ v) fun u => u.cells.size = n ∧ wrOk h q.1 q.2 u.cells.toList ∧ kpOk m h (wr h q.1 q.2 u.cells.toList) ∧ wL P m r 0 C σ (wr h q.1 q.2 u.cells.toList)) := rfl
theorem wL_call (d : Option Nat) (f : Nat) (args : List Operand) : wL P m (.op (.call d f args) :: r) 0 C σ h = (bd (evOs σ args) fun vs => CallsH P f vs h fun v h' => kpOk m h h' ∧ wL P m r 0 C (putE σ d v) h') := rfl
theorem wL_cav (d : Option Nat) (f : FuncId) (first caps : Array Value) (vs : List Value) (x : Operand) (args : List Operand) (hx : evO σ x = some (.func (.func f) first caps)) (hvs : evOs σ args = some vs) (hc : callable P f = true)
    (H : CallsH P f (first.toList ++ vs ++ caps.toList) h fun v h' => kpOk m h h' ∧ wL P m r 0 C (putE σ d v) h') : wL P m (.op (.cav d x args) :: r) 0 C σ h := by
  unfold wL wJ
  rw [if_neg (by simp [J.take])]
  unfold wE
  simp only [hx, hvs, bd_some]
  exact ⟨hc, H⟩
theorem wL_raw (d : Option Nat) (o : Oper) : wL P m (.op (.raw d o) :: r) 0 C σ h = RawW P o σ h fun v h' => kpOk m h h' ∧ wL P m r 0 C (putE σ d v) h' := rfl
end

theorem br_eqT (t : Bool) (A B : Prop) : br (t == true) A B = br t A B := by cases t <;> rfl
theorem br_eqF (t : Bool) (A B : Prop) : br (t == false) A B = br t B A := by cases t <;> simp [br]
theorem ldOk_none (b : Nat) : ldOk none b = True := rfl
theorem ldHeap_none (h : Heap) : ldHeap none h = h := rfl
theorem kpOk_none (h h' : Heap) : kpOk none h h' = True := rfl
theorem ldOk_some (p : Nat → Prop) (h0 : Heap) (b : Nat) : ldOk (some ⟨p, h0⟩) b = p b := rfl
theorem ldHeap_some (p : Nat → Prop) (h0 h : Heap) : ldHeap (some ⟨p, h0⟩) h = h0 := rfl

theorem then_normal (K : Env → Heap → Prop) (Q : X → Env → Heap → Prop) (σ : Env) (h : Heap) : X.then K Q .normal σ h = K σ h := rfl
theorem then_exit (K : Env → Heap → Prop) (Q : X → Env → Heap → Prop) (i : Nat) (σ : Env) (h : Heap) : X.then K Q (.exit i) σ h = Q (.exit i) σ h := rfl
theorem then_ret (K : Env → Heap → Prop) (Q : X → Env → Heap → Prop) (σ : Env) (h : Heap) : X.then K Q .ret σ h = Q .ret σ h := rfl
theorem inBlock_normal (i : Nat) (Q : X → Env → Heap → Prop) (σ : Env) (h : Heap) : X.inBlock i Q .normal σ h = Q .normal σ h := rfl
theorem inBlock_ret (i : Nat) (Q : X → Env → Heap → Prop) (σ : Env) (h : Heap) : X.inBlock i Q .ret σ h = Q .ret σ h := rfl
theorem inBlock_exit (i j : Nat) (Q : X → Env → Heap → Prop) (σ : Env) (h : Heap) : X.inBlock i Q (.exit j) σ h = if j = i then Q .normal σ h else Q (.exit j) σ h := rfl
theorem endW_ret (res : List Rs) (R : Value → Heap → Prop) (σ : Env) (h : Heap) : endW res R .ret σ h = bd (resV h σ res) fun vs => R (one vs) h := rfl
theorem endW_normal (res : List Rs) (R : Value → Heap → Prop) (σ : Env) (h : Heap) : endW res R .normal σ h = bd (resV h σ res) fun vs => R (one vs) h := rfl

theorem evO_tmp (σ : Env) (t : Nat) : evO σ (.tmp t) = look σ t := rfl
theorem evO_const (σ : Env) (v : Value) : evO σ (.const v) = some v := rfl
theorem evO_func (σ : Env) (f : Nat) : evO σ (.func f) = some (.func (.func f) #[] #[]) := rfl
theorem look_cons (m : Nat) (v : Value) (σ : Env) (n : Nat) : look ((m, v) :: σ) n = if n = m then some v else look σ n := rfl
theorem keep_cons (s : Nat) (l : List Nat) (σ : Env) : keep (s :: l) σ = kc (look σ s) s (keep l σ) := rfl
theorem keep_nil (σ : Env) : keep [] σ = [] := rfl
theorem kc_some (v : Value) (s : Nat) (r : Env) : kc (some v) s r = (s, v) :: r := rfl
theorem evOs_cons (σ : Env) (x : Operand) (xs : List Operand) : evOs σ (x :: xs) = (evO σ x).bind fun v => (evOs σ xs).map (v :: ·) := rfl
theorem evOs_nil (σ : Env) : evOs σ [] = some [] := rfl
theorem evOo_none (σ : Env) : evOo σ none = some none := rfl
theorem evOo_some (σ : Env) (x : Operand) : evOo σ (some x) = (evO σ x).map some := rfl
theorem asB_bool (b : Bool) : asB (.bool b) = some b := rfl
theorem asI_int (k : IntKind) (n : Int) : asI (.int k n) = some n := rfl
theorem asP_ptr (b o : Nat) : asP (.pointer (some ⟨b, o, none⟩)) = some (b, o) := rfl
theorem asSl_sl (b o n c : Nat) : asSl (.slice (some ⟨b, o, none⟩) n c) = some (b, o, n, c) := rfl
theorem extV_tuple (i : Nat) (vs : Array Value) : extV i (.tuple vs) = vs[i]? := rfl
theorem unV_not (b : Bool) : unV .not (.bool b) = some (.bool !b) := rfl
theorem lenV_sl (a : Option Addr) (n c : Nat) : lenV true (.slice a n c) = some (vi n) := rfl
theorem lenV_str (s : ByteArray) : lenV false (.string s) = some (vi s.size) := rfl
theorem capV_sl (a : Option Addr) (n c : Nat) : capV (.slice a n c) = some (vi c) := rfl
theorem eqB_bool (neg a b : Bool) : eqB neg (.bool a) (.bool b) = some (.bool (if neg then !(a == b) else a == b)) := rfl
theorem cvtV_int (k k' : IntKind) (n : Int) : cvtV k (.int k' n) = some (.int k (k.wrap n)) := rfl
theorem maxV_int (mx : Bool) (k k' : IntKind) (x y : Int) : maxV mx (.int k x) (.int k' y) = some (.int k (if mx then (if y > x then y else x) else (if y < x then y else x))) := rfl
theorem notB_ft : notB (.bool false) true = true := rfl
theorem notB_tf : notB (.bool true) false = true := rfl
theorem notB_undef (w : Bool) : notB undef w = true := rfl
theorem putE_some (σ : Env) (d : Nat) (v : Value) : putE σ (some d) v = (d, v) :: σ := rfl
theorem putE_none (σ : Env) (v : Value) : putE σ none v = σ := rfl
theorem one_one (v : Value) : one [v] = v := rfl
theorem one_two (v u : Value) : one [v, u] = .tuple #[v, u] := rfl
theorem resV_nil (h : Heap) (σ : Env) : resV h σ [] = some [] := rfl
theorem resV_tmp (h : Heap) (σ : Env) (t : Nat) (r : List Rs) : resV h σ (.tmp t :: r) = (look σ t).bind fun v => (resV h σ r).map (v :: ·) := rfl
theorem resV_cell (h : Heap) (σ : Env) (t n : Nat) (r : List Rs) : resV h σ (.cell t n :: r) = (look σ t).bind fun v => (asP v).bind fun q => (rd h q.1 q.2 n).bind fun l => (resV h σ r).map (.agg l.toArray :: ·) := rfl
theorem envOf_nil (i : Nat) : envOf i [] = [] := rfl
theorem envOf_cons (i : Nat) (v : Value) (vs : List Value) : envOf i (v :: vs) = (i, v) :: envOf (i + 1) vs := rfl
theorem rd_zero (h : Heap) (b o : Nat) : rd h b o 0 = some [] := rfl
theorem rd_succ (h : Heap) (b o n : Nat) : rd h b o (n + 1) = (cel h b o).bind fun v => (rd h b (o + 1) n).map (v :: ·) := rfl
theorem fillL_nil (σ : Env) (cs : List Value) : fillL σ cs [] = some cs := rfl
theorem fillL_cons (σ : Env) (cs : List Value) (off size : Nat) (x : Operand) (r : List (Nat × Nat × Operand)) :
    fillL σ cs ((off, size, x) :: r) = (evO σ x).bind fun v => if v.cells.size = size ∧ off + size ≤ cs.length then fillL σ (putL cs off v.cells.toList) r else none := rfl
theorem putL_nil (cs : List Value) (o : Nat) : putL cs o [] = cs := rfl
theorem putL_cons (cs : List Value) (o : Nat) (v : Value) (vs : List Value) : putL cs o (v :: vs) = putL (cs.set o v) (o + 1) vs := rfl
section
variable (k : IntKind) (a b : Int) (s t : ByteArray)
theorem binV_add : binV .add (.int k a) (.int k b) = some (.int k (k.wrap (a + b))) := by simp [binV]
theorem binV_sub : binV .sub (.int k a) (.int k b) = some (.int k (k.wrap (a - b))) := by simp [binV]
theorem binV_mul : binV .mul (.int k a) (.int k b) = some (.int k (k.wrap (a * b))) := by simp [binV]
theorem binV_eql : binV .eql (.int k a) (.int k b) = some (.bool (a == b)) := by simp [binV]
theorem binV_neq : binV .neq (.int k a) (.int k b) = some (.bool (a != b)) := by simp [binV]
theorem binV_lss : binV .lss (.int k a) (.int k b) = some (.bool (decide (a < b))) := by simp [binV]
theorem binV_leq : binV .leq (.int k a) (.int k b) = some (.bool (decide (a ≤ b))) := by simp [binV]
theorem binV_gtr : binV .gtr (.int k a) (.int k b) = some (.bool (decide (a > b))) := by simp [binV]
theorem binV_geq : binV .geq (.int k a) (.int k b) = some (.bool (decide (a ≥ b))) := by simp [binV]
theorem binS_eql : binV .eql (.string s) (.string t) = some (.bool (s.toList == t.toList)) := rfl
theorem binS_neq : binV .neq (.string s) (.string t) = some (.bool !(s.toList == t.toList)) := rfl
theorem binS_lss : binV .lss (.string s) (.string t) = some (.bool (Op.bytesLess s.toList t.toList)) := rfl
theorem binS_leq : binV .leq (.string s) (.string t) = some (.bool (Op.bytesLess s.toList t.toList || s.toList == t.toList)) := rfl
theorem binS_gtr : binV .gtr (.string s) (.string t) = some (.bool !(Op.bytesLess s.toList t.toList || s.toList == t.toList)) := rfl
theorem binS_geq : binV .geq (.string s) (.string t) = some (.bool !(Op.bytesLess s.toList t.toList)) := rfl
end

set_option linter.defProp false in
/-- All the rules as one. -/
def AXR := And.intro @bd_some <|
  And.intro @br_true <|
  And.intro @br_false <|
  And.intro @wL_nil <|
  And.intro @wL_kp <|
  And.intro @wL_sc <|
  And.intro @wL_g <|
  And.intro @wL_kpS <|
  And.intro @wL_scS <|
  And.intro @wL_gS <|
  And.intro @wL_mov <|
  And.intro @wL_pick <|
  And.intro @wL_ld1 <|
  And.intro @wL_ldn <|
  And.intro @wL_fad <|
  And.intro @wL_iad <|
  And.intro @wL_slc <|
  And.intro @wL_ext <|
  And.intro @wL_bin <|
  And.intro @wL_eqb <|
  And.intro @wL_eqn <|
  And.intro @wL_eqa <|
  And.intro @wL_un <|
  And.intro @wL_len <|
  And.intro @wL_cap <|
  And.intro @wL_mm <|
  And.intro @wL_cvt <|
  And.intro @wL_bld <|
  And.intro @wL_fn <|
  And.intro @wL_nch <|
  And.intro @wL_call <|
  And.intro @ldOk_none <|
  And.intro @ldHeap_none <|
  And.intro @kpOk_none <|
  And.intro @ldOk_some <|
  And.intro @ldHeap_some <|
  And.intro @then_normal <|
  And.intro @then_exit <|
  And.intro @then_ret <|
  And.intro @inBlock_normal <|
  And.intro @inBlock_ret <|
  And.intro @inBlock_exit <|
  And.intro @endW_ret <|
  And.intro @endW_normal <|
  And.intro @evO_tmp <|
  And.intro @evO_const <|
  And.intro @evO_func <|
  And.intro @look_cons <|
  And.intro @keep_cons <|
  And.intro @keep_nil <|
  And.intro @kc_some <|
  And.intro @evOs_cons <|
  And.intro @evOs_nil <|
  And.intro @evOo_none <|
  And.intro @evOo_some <|
  And.intro @asB_bool <|
  And.intro @asI_int <|
  And.intro @asP_ptr <|
  And.intro @asSl_sl <|
  And.intro @extV_tuple <|
  And.intro @unV_not <|
  And.intro @lenV_sl <|
  And.intro @lenV_str <|
  And.intro @capV_sl <|
  And.intro @eqB_bool <|
  And.intro @cvtV_int <|
  And.intro @maxV_int <|
  And.intro @notB_ft <|
  And.intro @notB_tf <|
  And.intro @br_eqT <|
  And.intro @br_eqF <|
  And.intro @notB_undef <|
  And.intro @putE_some <|
  And.intro @putE_none <|
  And.intro @one_one <|
  And.intro @one_two <|
  And.intro @resV_nil <|
  And.intro @resV_tmp <|
  And.intro @resV_cell <|
  And.intro @envOf_nil <|
  And.intro @envOf_cons <|
  And.intro @fillL_nil <|
  And.intro @fillL_cons <|
  And.intro @putL_nil <|
  And.intro @putL_cons <|
  And.intro @binV_add <|
  And.intro @binV_sub <|
  And.intro @binV_mul <|
  And.intro @binV_eql <|
  And.intro @binV_neq <|
  And.intro @binV_lss <|
  And.intro @binV_leq <|
  And.intro @binV_gtr <|
  And.intro @binV_geq <|
  And.intro @binS_eql <|
  And.intro @binS_neq <|
  And.intro @binS_lss <|
  And.intro @binS_leq <|
  And.intro @binS_gtr <|
  @binS_geq
end Go.AX
/-
  Words for the heap: what a heap keeps of an earlier one; cells behind new blocks and stores; slices that read as lists.
-/
namespace Go.AX
open Go

/-- h' has all of h's blocks, as they were. -/
structure Ext (h h' : Heap) : Prop where
  size : h.size ≤ h'.size
  at_ : ∀ b, b < h.size → h'[b]? = h[b]?

theorem Ext.refl (h : Heap) : Ext h h := ⟨Nat.le_refl _, fun _ _ => rfl⟩
theorem Ext.trans {a b c : Heap} (h : Ext a b) (k : Ext b c) : Ext a c := ⟨Nat.le_trans h.size k.size, fun i hi => (k.at_ i (Nat.lt_of_lt_of_le hi h.size)).trans (h.at_ i hi)⟩
theorem Ext.push {a h : Heap} (e : Ext a h) (o : Obj) : Ext a (h.push o) := e.trans ⟨by simp, fun b hb => by rw [Array.getElem?_push, if_neg (by omega)]⟩
theorem wr_size (h : Heap) (b o : Nat) (vs : List Value) : (wr h b o vs).size = h.size := by simp [wr]
theorem wr_other {h : Heap} {b o c : Nat} {vs : List Value} (hb : c ≠ b) : (wr h b o vs)[c]? = h[c]? := by
  simp only [wr, Array.getElem?_modify]
  rw [if_neg (by omega)]
theorem Ext.wr {a h : Heap} (e : Ext a h) {b : Nat} (hb : a.size ≤ b) (o : Nat) (vs : List Value) : Ext a (wr h b o vs) :=
  ⟨by rw [wr_size]; exact e.size, fun c hc => by rw [wr_other (by omega)]; exact e.at_ c hc⟩

theorem cel_at {h h' : Heap} {b : Nat} (hb : h'[b]? = h[b]?) (o : Nat) : cel h' b o = cel h b o := by unfold cel; rw [hb]
theorem rd_at' {h h' : Heap} {b : Nat} (hb : h'[b]? = h[b]?) : ∀ n o, rd h' b o n = rd h b o n
  | 0, _ => rfl
  | n + 1, o => by simp only [rd, cel_at hb, rd_at' hb n]
theorem Ext.cel {h h' : Heap} (e : Ext h h') {b : Nat} (hb : b < h.size) (o : Nat) : cel h' b o = cel h b o := cel_at (e.at_ b hb) o
theorem Ext.rd {h h' : Heap} (e : Ext h h') {b : Nat} (hb : b < h.size) (o n : Nat) : rd h' b o n = rd h b o n := rd_at' (e.at_ b hb) n o

theorem cel_push_lt {h : Heap} {b : Nat} (hb : b < h.size) (x : Obj) (o : Nat) : cel (h.push x) b o = cel h b o := cel_at (by rw [Array.getElem?_push, if_neg (by omega)]) o
theorem cel_push_eq {h : Heap} {b : Nat} (hb : b = h.size) (c : Array Value) (t : TypeId) (f : Nat × Nat) (o : Nat) : cel (h.push (.cells c t f)) b o = c[o]? := by
  subst hb; simp [cel]
theorem rd_push_lt {h : Heap} {b : Nat} (hb : b < h.size) (x : Obj) (o n : Nat) : rd (h.push x) b o n = rd h b o n := rd_at' (by rw [Array.getElem?_push, if_neg (by omega)]) n o
theorem cel_wr_ne {h : Heap} {b c : Nat} (hb : c ≠ b) (o k : Nat) (vs : List Value) : cel (wr h b o vs) c k = cel h c k := cel_at (wr_other hb) k
theorem rd_wr_ne {h : Heap} {b c : Nat} (hb : c ≠ b) (o k n : Nat) (vs : List Value) : rd (wr h b o vs) c k n = rd h c k n := rd_at' (wr_other hb) n k

theorem cel_lt {h : Heap} {b o : Nat} {v : Value} (hc : cel h b o = some v) : b < h.size := by
  unfold cel at hc
  rcases Nat.lt_or_ge b h.size with hl | hl
  · exact hl
  · rw [Array.getElem?_eq_none hl] at hc; cases hc

/-- A block of cells that may be written. -/
def Blk (h : Heap) (b : Nat) (t : TypeId) (l : List Value) : Prop := h[b]? = some (.cells l.toArray t (0, 0))
theorem Blk.lt {h : Heap} {b t : Nat} {l : List Value} (hb : Blk h b t l) : b < h.size := by
  unfold Blk at hb
  rcases Nat.lt_or_ge b h.size with hl | hl
  · exact hl
  · rw [Array.getElem?_eq_none hl] at hb; cases hb
theorem Blk.ext {h h' : Heap} {b t : Nat} {l : List Value} (hb : Blk h b t l) (e : Ext h h') : Blk h' b t l := (e.at_ b hb.lt).trans hb
theorem Blk.cel {h : Heap} {b t : Nat} {l : List Value} (hb : Blk h b t l) (o : Nat) : cel h b o = l[o]? := by
  unfold Blk at hb; simp [AX.cel, hb]
theorem Blk.push {h : Heap} {b t : Nat} {l : List Value} (hb : Blk h b t l) (x : Obj) : Blk (h.push x) b t l := hb.ext ((Ext.refl h).push x)
theorem Blk.new (h : Heap) (t : TypeId) (c : Array Value) : Blk (h.push (.cells c t)) h.size t c.toList := by simp [Blk]
theorem Blk.wr_ne {h : Heap} {b c t : Nat} {l : List Value} (hb : Blk h c t l) (hne : c ≠ b) (o : Nat) (vs : List Value) : Blk (wr h b o vs) c t l := (wr_other hne).trans hb
theorem patch_toList : ∀ (vs l : List Value) (o : Nat), (patch l.toArray o vs) = (putL l o vs).toArray
  | [], _, _ => rfl
  | v :: vs, l, o => by simp only [patch, putL, List.setIfInBounds_toArray, patch_toList vs]
theorem Blk.wr {h : Heap} {b t : Nat} {l : List Value} (hb : Blk h b t l) (o : Nat) (vs : List Value) : Blk (wr h b o vs) b t (putL l o vs) := by
  unfold Blk at hb ⊢
  simp [AX.wr, Array.getElem?_modify, hb, wrObj, patch_toList]
theorem Blk.wrOk {h : Heap} {b t : Nat} {l : List Value} (hb : Blk h b t l) {o : Nat} {vs : List Value} (hl : o + vs.length ≤ l.length) (h1 : ∀ v ∈ vs, v.oneCell' = true) : wrOk h b o vs :=
  ⟨_, _, hb, by simpa using hl, h1⟩

/-! ### Going into a region that draws -/
theorem drw_lt {P : Program} {is : List I} {Q : Env → Heap → Prop} {σ : Env} {h : Heap} (H : wL P (some ⟨(· < h.size), h⟩) is 0 Q σ h) : drwW P is Q σ h := ⟨_, fun _ hb => hb, H⟩
theorem drt_lt {P : Program} {t : L} {Q : Env → Heap → Prop} {σ : Env} {h : Heap} (H : wT P (some ⟨(· < h.size), h⟩) t Q σ h) : drtW P t Q σ h := ⟨_, fun _ hb => hb, H⟩
theorem kp_ext {h0 h h' : Heap} (hs : h0.size ≤ h.size) (e : Ext h h') : kpOk (some ⟨(· < h0.size), h0⟩) h h' := fun b hb => e.at_ b (Nat.lt_of_lt_of_le hb hs)
theorem kp_push {h0 h : Heap} (hs : h0.size ≤ h.size) (o : Obj) : kpOk (some ⟨(· < h0.size), h0⟩) h (h.push o) := kp_ext hs ((Ext.refl h).push o)
theorem kp_wr {h0 h : Heap} {b : Nat} (hb : h0.size ≤ b) (o : Nat) (vs : List Value) : kpOk (some ⟨(· < h0.size), h0⟩) h (wr h b o vs) := fun c hc => wr_other (by have : c < h0.size := hc; omega)

theorem cells_agg (c : Array Value) : (Value.agg c).cells = c := rfl
theorem cells_int (k : IntKind) (n : Int) : (Value.int k n).cells = #[.int k n] := rfl
theorem cells_bool (b : Bool) : (Value.bool b).cells = #[.bool b] := rfl
theorem cells_string (s : ByteArray) : (Value.string s).cells = #[.string s] := rfl
theorem cells_slice (a : Option Addr) (n c : Nat) : (Value.slice a n c).cells = #[.slice a n c] := rfl
theorem cells_pointer (a : Option Addr) : (Value.pointer a).cells = #[.pointer a] := rfl

/-! ### Boxes, stores -/
/-- h' is h but for block b. -/
structure Upd (b : Nat) (h h' : Heap) : Prop where
  size : h'.size = h.size
  ne : ∀ c, c ≠ b → h'[c]? = h[c]?
theorem Upd.blk {b : Nat} {h h' : Heap} (u : Upd b h h') {c t : Nat} {l : List Value} (B : Blk h c t l) (hc : c ≠ b) : Blk h' c t l := (u.ne c hc).trans B
theorem Upd.ext {b : Nat} {a h h' : Heap} (u : Upd b h h') (e : Ext a h) (hb : a.size ≤ b) : Ext a h' := ⟨by rw [u.size]; exact e.size, fun c hc => (u.ne c (by omega)).trans (e.at_ c hc)⟩
theorem Upd.cel {b : Nat} {h h' : Heap} (u : Upd b h h') {c : Nat} (hc : c ≠ b) (o : Nat) : cel h' c o = cel h c o := cel_at (u.ne c hc) o
theorem Upd.rd {b : Nat} {h h' : Heap} (u : Upd b h h') {c : Nat} (hc : c ≠ b) (o n : Nat) : rd h' c o n = rd h c o n := rd_at' (u.ne c hc) n o
theorem Upd.of_wr (h : Heap) (b o : Nat) (vs : List Value) : Upd b h (wr h b o vs) := ⟨wr_size h b o vs, fun _ hc => wr_other hc⟩

section
variable {P : Program} {C : Env → Heap → Prop} {σ : Env} {h h0 : Heap} {r : List I}
theorem wL_boxN {d t : Nat} {x : Operand} {v : Value} (hx : evO σ x = some v) (H : ∀ b h', Ext h h' → h'.size = h.size + 1 → b = h.size → Blk h' b t v.cells.toList → wL P none r 0 C ((d, ptr b 0) :: σ) h') :
    wL P none (.op (.box d t x) :: r) 0 C σ h := by
  rw [wL_box, hx, bd_some, kpOk_none, true_and]
  exact H _ _ ((Ext.refl h).push _) (by simp) rfl (Blk.new h t _)
theorem wL_boxD {d t : Nat} {x : Operand} {v : Value} (hx : evO σ x = some v) (hs : h0.size ≤ h.size) (H : ∀ b h', Ext h h' → h'.size = h.size + 1 → b = h.size → Blk h' b t v.cells.toList → wL P (some ⟨(· < h0.size), h0⟩) r 0 C ((d, ptr b 0) :: σ) h') :
    wL P (some ⟨(· < h0.size), h0⟩) (.op (.box d t x) :: r) 0 C σ h := by
  rw [wL_box, hx, bd_some]
  exact ⟨kp_push hs _, H _ _ ((Ext.refl h).push _) (by simp) rfl (Blk.new h t _)⟩
theorem wL_newN {d t : Nat} {z : List Value} (H : ∀ b h', Ext h h' → h'.size = h.size + 1 → b = h.size → Blk h' b t z → wL P none r 0 C ((d, ptr b 0) :: σ) h') :
    wL P none (.op (.new d t z) :: r) 0 C σ h := by
  rw [wL_new, kpOk_none, true_and]
  exact H _ _ ((Ext.refl h).push _) (by simp) rfl (Blk.new h t _)
theorem wL_newD {d t : Nat} {z : List Value} (hs : h0.size ≤ h.size) (H : ∀ b h', Ext h h' → h'.size = h.size + 1 → b = h.size → Blk h' b t z → wL P (some ⟨(· < h0.size), h0⟩) r 0 C ((d, ptr b 0) :: σ) h') :
    wL P (some ⟨(· < h0.size), h0⟩) (.op (.new d t z) :: r) 0 C σ h := by
  rw [wL_new]
  exact ⟨kp_push hs _, H _ _ ((Ext.refl h).push _) (by simp) rfl (Blk.new h t _)⟩
theorem wL_bslN {d t n : Nat} {z cs : List Value} {parts : List (Nat × Nat × Operand)} (hx : fillL σ z parts = some cs) (H : ∀ b h', Ext h h' → h'.size = h.size + 1 → b = h.size → Blk h' b t cs → wL P none r 0 C ((d, sl b 0 n n) :: σ) h') :
    wL P none (.op (.bsl d t n z parts) :: r) 0 C σ h := by
  rw [wL_bsl, hx, bd_some, kpOk_none, true_and]
  exact H _ _ ((Ext.refl h).push _) (by simp) rfl (Blk.new h t _)
theorem wL_bslD {d t n : Nat} {z cs : List Value} {parts : List (Nat × Nat × Operand)} (hx : fillL σ z parts = some cs) (hs : h0.size ≤ h.size) (H : ∀ b h', Ext h h' → h'.size = h.size + 1 → b = h.size → Blk h' b t cs → wL P (some ⟨(· < h0.size), h0⟩) r 0 C ((d, sl b 0 n n) :: σ) h') :
    wL P (some ⟨(· < h0.size), h0⟩) (.op (.bsl d t n z parts) :: r) 0 C σ h := by
  rw [wL_bsl, hx, bd_some]
  exact ⟨kp_push hs _, H _ _ ((Ext.refl h).push _) (by simp) rfl (Blk.new h t _)⟩
theorem wL_stN {n : Nat} {x v : Operand} {b o t : Nat} {u : Value} {l : List Value} (hx : evO σ x = some (ptr b o)) (hv : evO σ v = some u) (hn : u.cells.size = n) (B : Blk h b t l) (hl : o + n ≤ l.length) (h1 : ∀ v ∈ u.cells.toList, v.oneCell' = true)
    (H : ∀ h', Upd b h h' → Blk h' b t (putL l o u.cells.toList) → wL P none r 0 C σ h') : wL P none (.op (.st n x v) :: r) 0 C σ h := by
  rw [wL_st, hx, bd_some, asP_ptr, bd_some, hv, bd_some]
  exact ⟨hn, B.wrOk (by simp [hn]; exact hl) h1, trivial, H _ (Upd.of_wr h b o _) (B.wr o _)⟩
theorem wL_stD {p : Nat → Prop} {n : Nat} {x v : Operand} {b o t : Nat} {u : Value} {l : List Value} (hx : evO σ x = some (ptr b o)) (hv : evO σ v = some u) (hp : ¬ p b) (hn : u.cells.size = n) (B : Blk h b t l) (hl : o + n ≤ l.length) (h1 : ∀ v ∈ u.cells.toList, v.oneCell' = true)
    (H : ∀ h', Upd b h h' → Blk h' b t (putL l o u.cells.toList) → wL P (some ⟨p, h0⟩) r 0 C σ h') : wL P (some ⟨p, h0⟩) (.op (.st n x v) :: r) 0 C σ h := by
  rw [wL_st, hx, bd_some, asP_ptr, bd_some, hv, bd_some]
  exact ⟨hn, B.wrOk (by simp [hn]; exact hl) h1, fun c hc => wr_other (by rintro rfl; exact hp hc), H _ (Upd.of_wr h b o _) (B.wr o _)⟩
end

/-! ### Loops -/
theorem loop_in {P : Program} {B : C} {id : Nat} {M : Env → Heap → Prop} {Q : X → Env → Heap → Prop} {σ : Env} {h : Heap} (Inv : Nat → Env → Heap → Prop) (n : Nat) (h0 : Inv n σ h)
    (H : ∀ n σ h, Inv n σ h → ∀ Q' : X → Env → Heap → Prop, (∀ n' σ' h', n' < n → Inv n' σ' h' → Q' .normal σ' h') → (∀ σ' h', M σ' h' → Q' (.exit id) σ' h') → (∀ σ' h', Q .ret σ' h' → Q' .ret σ' h') →
      (∀ i σ' h', i ≠ id → Q (.exit i) σ' h' → Q' (.exit i) σ' h') → wC P B Q' σ h) :
    loopW (wC P B) (X.inBlock id (X.then M Q)) σ h := by
  refine ⟨Inv, n, h0, fun n σ h hI => H n σ h hI _ ?_ ?_ ?_ ?_⟩
  · intro n' σ' h' hn hI'; exact ⟨n', hn, hI'⟩
  · intro σ' h' hM; show (if id = id then M σ' h' else _); rw [if_pos rfl]; exact hM
  · intro σ' h' hq; exact hq
  · intro i σ' h' hi hq
    show (if i = id then M σ' h' else Q (.exit i) σ' h')
    rw [if_neg hi]; exact hq
set_option linter.defProp false in
/-- Lemmas of the library that every step uses. -/
def AXB := And.intro @cond_true.{1} <|
  And.intro @cond_false.{1} <|
  And.intro @eq_self.{1} <|
  And.intro @List.take_succ_cons.{0} <|
  And.intro @List.take_zero.{0} <|
  And.intro @List.drop_succ_cons.{0} <|
  And.intro @List.drop_zero.{0} <|
  And.intro @Option.bind_some.{0, 0} <|
  And.intro @Option.map_some.{0, 0} <|
  And.intro @List.length_cons.{0} <|
  And.intro @List.length_nil.{0} <|
  And.intro @List.getElem?_cons_zero.{0} <|
  And.intro @List.getElem?_cons_succ.{0} <|
  And.intro @List.size_toArray.{0} <|
  And.intro @Int.toNat_natCast <|
  And.intro @Bool.not_true <|
  And.intro @Bool.not_false <|
  And.intro @true_and <|
  And.intro @and_true <|
  And.intro @beq_self_eq_true.{0} <|
  And.intro @bne_self_eq_false.{0} <|
  And.intro @cells_agg <|
  And.intro @cells_int <|
  And.intro @cells_bool <|
  And.intro @cells_string <|
  And.intro @cells_slice <|
  And.intro @cells_pointer <|
  And.intro @List.getElem_toArray.{0} <|
  And.intro @List.getElem_cons_zero.{0} <|
  And.intro @List.getElem_cons_succ.{0} <|
  And.intro @List.getElem?_toArray.{0} <|
  And.intro @List.set_cons_zero.{0} <|
  And.intro @List.set_cons_succ.{0} <|
  @List.length_set.{0}
end Go.AX
/-
  Words for memory: rows of cells, slices of the call's own, append.
-/
namespace Go.AX
open Go

/-! ### Rows of cells -/
/-- From place o of block b on lie these cells. -/
def Row (h : Heap) (b o : Nat) (l : List Value) : Prop := ∀ j, j < l.length → cel h b (o + j) = l[j]?

theorem Row.nil (h : Heap) (b o : Nat) : Row h b o [] := fun j hj => by simp at hj
theorem Row.cel {h : Heap} {b o : Nat} {l : List Value} (r : Row h b o l) (j : Nat) (hj : j < l.length) : cel h b (o + j) = l[j]? := r j hj
theorem Row.cel0 {h : Heap} {b o : Nat} {l : List Value} (r : Row h b o l) (hj : 0 < l.length) : AX.cel h b o = l[0]? := r 0 hj
theorem rd_eq {h : Heap} {b : Nat} : ∀ (n o : Nat) (l : List Value), l.length = n → Row h b o l → rd h b o n = some l
  | 0, o, l, hl, _ => by
    have : l = [] := List.eq_nil_of_length_eq_zero hl
    subst this; rfl
  | n + 1, o, [], hl, _ => by simp at hl
  | n + 1, o, v :: l, hl, r => by
    have h0 : AX.cel h b o = some v := by simpa using r 0 (by simp)
    have ih := rd_eq n (o + 1) l (by simpa using hl) (fun j hj => by
      have := r (j + 1) (by simpa using hj)
      rw [show o + 1 + j = o + (j + 1) by omega, this]; simp)
    simp [AX.rd, h0, ih]
theorem Row.sub {h : Heap} {b o : Nat} {l : List Value} (r : Row h b o l) (j m : Nat) : Row h b (o + j) ((l.drop j).take m) := fun k hk => by
  simp only [List.length_take, List.length_drop] at hk
  have hk1 : k < m := by omega
  rw [Nat.add_assoc, r (j + k) (by omega), List.getElem?_take, if_pos hk1, List.getElem?_drop]
theorem Row.rd {h : Heap} {b o : Nat} {l : List Value} (r : Row h b o l) (j m : Nat) (hj : j + m ≤ l.length) : rd h b (o + j) m = some ((l.drop j).take m) :=
  rd_eq m (o + j) _ (by simp; omega) (r.sub j m)
theorem Row.rd0 {h : Heap} {b o : Nat} {l : List Value} (r : Row h b o l) (m : Nat) (hj : m ≤ l.length) : AX.rd h b o m = some (l.take m) := by
  have := r.rd 0 m (by omega); simpa using this
theorem Row.of_rd {h : Heap} {b o n : Nat} {l : List Value} (hr : AX.rd h b o n = some l) : l.length = n ∧ Row h b o l := by
  obtain ⟨h1, h2⟩ := rd_at hr
  exact ⟨h1, fun j hj => by rw [h2 j l[j] (List.getElem?_eq_getElem hj), List.getElem?_eq_getElem hj]⟩
theorem Row.at_ {h h' : Heap} {b o : Nat} {l : List Value} (r : Row h b o l) (hb : h'[b]? = h[b]?) : Row h' b o l := fun j hj => (cel_at hb (o + j)).trans (r j hj)
theorem Row.lt {h : Heap} {b o : Nat} {l : List Value} (r : Row h b o l) (hl : 0 < l.length) : b < h.size := by
  have := r 0 hl
  rw [List.getElem?_eq_getElem hl] at this
  exact cel_lt this
theorem Row.ext {h h' : Heap} {b o : Nat} {l : List Value} (r : Row h b o l) (e : Ext h h') : Row h' b o l := by
  by_cases hl : 0 < l.length
  · exact r.at_ (e.at_ b (r.lt hl))
  · have : l = [] := List.eq_nil_of_length_eq_zero (by omega)
    subst this; exact Row.nil _ _ _
theorem Blk.row {h : Heap} {b t : Nat} {l : List Value} (B : Blk h b t l) : Row h b 0 l := fun j _ => by rw [Nat.zero_add, B.cel]
theorem Blk.rd {h : Heap} {b t : Nat} {l : List Value} (B : Blk h b t l) (o m : Nat) (hj : o + m ≤ l.length) : AX.rd h b o m = some ((l.drop o).take m) := by
  have := B.row.rd o m hj; simpa using this
theorem Row.append {h : Heap} {b o : Nat} {l m : List Value} (r : Row h b o l) (s : Row h b (o + l.length) m) : Row h b o (l ++ m) := fun j hj => by
  by_cases hlt : j < l.length
  · rw [r j hlt, List.getElem?_append_left hlt]
  · rw [List.length_append] at hj
    have := s (j - l.length) (by omega)
    rw [show o + j = o + l.length + (j - l.length) by omega, this, List.getElem?_append_right (by omega)]

/-! ### Slices of the call's own -/
/-- h' is h but for new blocks and for block row, if that is named. -/
structure Gr (row : Option Nat) (h h' : Heap) : Prop where
  size : h.size ≤ h'.size
  at_ : ∀ k, k < h.size → some k ≠ row → h'[k]? = h[k]?
def ob (a : Option Addr) : Option Nat := a.map (·.block)

theorem Gr.ext {row : Option Nat} {a h h' : Heap} (g : Gr row h h') (e : Ext a h) (hr : ∀ k, row = some k → a.size ≤ k) : Ext a h' :=
  ⟨Nat.le_trans e.size g.size, fun b hb => (g.at_ b (Nat.lt_of_lt_of_le hb e.size) (fun he => by have := hr b he.symm; omega)).trans (e.at_ b hb)⟩
theorem Gr.row {row : Option Nat} {h h' : Heap} (g : Gr row h h') {b o : Nat} {l : List Value} (r : Row h b o l) (hb : some b ≠ row) : Row h' b o l := by
  by_cases hl : 0 < l.length
  · exact r.at_ (g.at_ b (r.lt hl) hb)
  · have : l = [] := List.eq_nil_of_length_eq_zero (by omega)
    subst this; exact Row.nil _ _ _
theorem Gr.blk {row : Option Nat} {h h' : Heap} (g : Gr row h h') {b t : Nat} {l : List Value} (B : Blk h b t l) (hb : some b ≠ row) : Blk h' b t l := (g.at_ b B.lt hb).trans B
theorem Ext.gr {h h' : Heap} (e : Ext h h') (row : Option Nat) : Gr row h h' := ⟨e.size, fun k hk _ => e.at_ k hk⟩
theorem Upd.gr {b : Nat} {h h' : Heap} (u : Upd b h h') : Gr (some b) h h' := ⟨by rw [u.size]; exact Nat.le_refl _, fun k _ hk => u.ne k (fun e => hk (by rw [e]))⟩
theorem Gr.trans {row : Option Nat} {a b c : Heap} (g : Gr row a b) (k : Gr row b c) : Gr row a c := ⟨Nat.le_trans g.size k.size, fun i hi hr => (k.at_ i (Nat.lt_of_lt_of_le hi g.size) hr).trans (g.at_ i hi hr)⟩

/-- A slice (address a, n elements of s cells of type e, capacity c) that owns its row: these cells; its block is one from lo on. -/
def Own (lo : Nat) (h : Heap) (e s : Nat) (a : Option Addr) (n c : Nat) (xs : List Value) : Prop :=
  xs.length = n * s ∧ ((a = none ∧ n = 0 ∧ c = 0) ∨
    ∃ g cur, a = some ⟨g, 0, none⟩ ∧ lo ≤ g ∧ h[g]? = some (.cells cur e (0, 0)) ∧ n ≤ c ∧ c ≤ maxLen ∧ cur.size = c * s ∧ cur.toList.take (n * s) = xs)

theorem Own.nil (lo : Nat) (h : Heap) (e s : Nat) : Own lo h e s none 0 0 [] := ⟨by simp, .inl ⟨rfl, rfl, rfl⟩⟩
theorem Own.mono {lo lo' : Nat} {h : Heap} {e s : Nat} {a : Option Addr} {n c : Nat} {xs : List Value} (o : Own lo h e s a n c xs) (hl : lo' ≤ lo) : Own lo' h e s a n c xs := by
  refine ⟨o.1, o.2.imp id ?_⟩
  rintro ⟨g, cur, h1, h2, h3⟩
  exact ⟨g, cur, h1, Nat.le_trans hl h2, h3⟩
theorem Own.ob {lo : Nat} {h : Heap} {e s : Nat} {a : Option Addr} {n c : Nat} {xs : List Value} (o : Own lo h e s a n c xs) : ∀ k, ob a = some k → lo ≤ k ∧ k < h.size := by
  intro k hk
  rcases o.2 with ⟨rfl, _⟩ | ⟨g, cur, rfl, h1, h2, _⟩
  · cases hk
  · cases hk
    refine ⟨h1, ?_⟩
    rcases Nat.lt_or_ge g h.size with hl | hl
    · exact hl
    · rw [Array.getElem?_eq_none hl] at h2; cases h2
theorem Own.gr {lo : Nat} {h h' : Heap} {e s : Nat} {a : Option Addr} {n c : Nat} {xs : List Value} (o : Own lo h e s a n c xs) {row : Option Nat} (g : Gr row h h') (hr : ∀ k, AX.ob a = some k → row ≠ some k) : Own lo h' e s a n c xs := by
  have hob := o.ob
  refine ⟨o.1, o.2.imp id ?_⟩
  rintro ⟨b, cur, rfl, h1, h2, h3⟩
  exact ⟨b, cur, rfl, h1, by rw [g.at_ b (hob b rfl).2 (fun e => hr b rfl e.symm)]; exact h2, h3⟩
theorem Own.ext {lo : Nat} {h h' : Heap} {e s : Nat} {a : Option Addr} {n c : Nat} {xs : List Value} (o : Own lo h e s a n c xs) (x : Ext h h') : Own lo h' e s a n c xs := o.gr (x.gr none) (fun _ _ h => by cases h)
/-- Where it is not empty, it has an address, and its cells lie there. -/
theorem Own.row {lo : Nat} {h : Heap} {e s : Nat} {a : Option Addr} {n c : Nat} {xs : List Value} (o : Own lo h e s a n c xs) (hn : 0 < n) : ∃ g, a = some ⟨g, 0, none⟩ ∧ lo ≤ g ∧ Row h g 0 xs := by
  rcases o.2 with ⟨_, h0, _⟩ | ⟨g, cur, rfl, h1, h2, h3, h4, h5, h6⟩
  · omega
  · refine ⟨g, rfl, h1, fun j hj => ?_⟩
    rw [← h6] at hj ⊢
    simp only [List.length_take] at hj
    rw [List.getElem?_take, if_pos (by omega)]
    simp [AX.cel, h2]

theorem own_iff (w : World) (lo e s : Nat) (a : Option Addr) (n c : Nat) (xs : List Value) (h : Own lo w.heap e s a n c xs) : w.ownsRow lo e s (.slice a n c) n xs := by
  refine ⟨h.1, ?_⟩
  rcases h.2 with ⟨rfl, rfl, rfl⟩ | ⟨g, cur, rfl, h1, h2, h3⟩
  · exact .inl ⟨rfl, rfl⟩
  · exact .inr ⟨g, c, cur, rfl, h1, h2, h3⟩
theorem own_of (w : World) (lo e s : Nat) (v : Value) (n : Nat) (xs : List Value) (h : w.ownsRow lo e s v n xs) : ∃ a c, v = .slice a n c ∧ Own lo w.heap e s a n c xs := by
  rcases h.2 with ⟨rfl, rfl⟩ | ⟨g, c, cur, rfl, h1, h2, h3⟩
  · exact ⟨none, 0, rfl, h.1, .inl ⟨rfl, rfl, rfl⟩⟩
  · exact ⟨_, c, rfl, h.1, .inr ⟨g, cur, rfl, h1, h2, h3⟩⟩

/-- t is a slice type over e, whose elements have s cells, bytes bytes. -/
def slT (P : Program) (t e s bytes : Nat) : Bool :=
  match P.underlying t, P.info? e with
  | some (.slice e'), some i => e' == e && i.size == s && i.bytes == bytes && (match i.zero with | some z => z.cells.size == s | none => false) && decide (0 < s)
  | _, _ => false
theorem slT_spec {P : Program} {t e s bytes : Nat} (h : slT P t e s bytes = true) :
    ∃ i z, P.underlying t = some (.slice e) ∧ P.info? e = some i ∧ i.zero = some z ∧ i.size = s ∧ i.bytes = bytes ∧ z.cells.size = s ∧ 0 < s := by
  unfold slT at h
  split at h
  · rename_i e' i hu hi
    simp only [Bool.and_eq_true, beq_iff_eq, decide_eq_true_eq] at h
    obtain ⟨⟨⟨⟨rfl, h2⟩, h3⟩, h4⟩, h5⟩ := h
    split at h4
    · rename_i z hz
      exact ⟨i, z, hu, hi, hz, h2, h3, by simpa using h4, h5⟩
    · cases h4
  · cases h

/-- 'append(x, y...)', x a slice of the call's own, y any slice that reads as these cells. -/
theorem raw_append {P : Program} {o : Oper} {σ : Env} {h : Heap} {K : Value → Heap → Prop} {x y : Operand} {t e s bytes : Nat} (hT : slT P t e s bytes = true)
    (ho : o.op = .call ⟨.builtin .append, #[x, y], #[t, t]⟩) {a a2 : Option Addr} {n c n2 c2 lo : Nat} {xs news : List Value}
    (hx : evO σ x = some (.slice a n c)) (hy : evO σ y = some (.slice a2 n2 c2)) (O : Own lo h e s a n c xs) (hl : news.length = n2 * s)
    (hr : n2 = 0 ∨ ∃ b q, a2 = some ⟨b, q, none⟩ ∧ Row h b q news) (h1 : ∀ v ∈ news, v.oneCell' = true) (hlen : n + n2 ≤ maxLen) (hb : (n + n2) * bytes ≤ 140737488355328) (hlo : lo ≤ h.size)
    (H : ∀ a' c' h', Own lo h' e s a' (n + n2) c' (xs ++ news) → Gr (ob a) h h' → (ob a' = ob a ∨ ∃ k, ob a' = some k ∧ h.size ≤ k) → K (.slice a' (n + n2) c') h') : RawW P o σ h K := by
  obtain ⟨i, z, hu, hi, hz, hs, hby, hzs, hsp⟩ := slT_spec hT
  refine ⟨?_, ?_, ?_⟩
  · rw [ho]; intro u hu'
    simp only [Op.operands, Call.operands, Array.mem_append, List.mem_toArray, List.mem_cons, List.not_mem_nil, or_false, false_or] at hu'
    rcases hu' with rfl | rfl
    · rw [hx]; rfl
    · rw [hy]; rfl
  · rw [ho]; intro cs b hh; cases hh
  · intro w hw
    subst hw
    have hown := own_iff w lo e s a n c xs O
    have key : ∃ v' w', (Builtin.append_ #[t, t] o.type #[.slice a n c, .slice a2 n2 c2]).run P w = .ok v' w' ∧ w'.ownsRow lo e s v' (n + n2) (xs ++ news) ∧ w.grownBy w' (Value.slice a n c).ownBlock ∧ (v'.ownBlock = (Value.slice a n c).ownBlock ∨ v'.ownBlock = some w.heap.size) := by
      rcases hr with rfl | ⟨b, q, rfl, r⟩
      · have hn : news = [] := List.eq_nil_of_length_eq_zero (by simpa using hl)
        subst hn
        cases a2 with
        | some ad =>
          obtain ⟨v', w', h1, h2, h3, _, h5⟩ := run_append_own_at (P := P) w lo t o.type e i z s bytes hu hi hz hs hby hzs hsp _ n xs hown ad 0 c2 [] (by simp) (fun j u hj => by simp at hj) h1 hlen hb hlo
          exact ⟨v', w', h1, h2, h3, h5⟩
        | none =>
          refine ⟨.slice a n c, w, ?_, by simpa using hown, World.grownBy.refl w _, .inl rfl⟩
          have hnc : n ≤ c := by
            rcases O.2 with ⟨_, h1, h2⟩ | ⟨g, cur, _, _, _, h1, _⟩ <;> omega
          cases a with
          | none => simp [Builtin.append_, run_underlying hu, sizeOf, typeInfo, hi, Builtin.lenOf, Builtin.firstCells, hnc]
          | some ad => simp [Builtin.append_, run_underlying hu, sizeOf, typeInfo, hi, Builtin.lenOf, Builtin.firstCells, hnc, storeCells]
      · obtain ⟨v', w', h1, h2, h3, _, h5⟩ := run_append_own_at (P := P) w lo t o.type e i z s bytes hu hi hz hs hby hzs hsp _ n xs hown ⟨b, q, none⟩ n2 c2 news hl (fun j u hj => by
          have hjl : j < news.length := by
            rcases Nat.lt_or_ge j news.length with hlt | hlt
            · exact hlt
            · rw [List.getElem?_eq_none hlt] at hj; cases hj
          rw [add_mk, cel_cell, r j hjl]; exact hj) h1 hlen hb hlo
        exact ⟨v', w', h1, h2, h3, h5⟩
    obtain ⟨v', w', hrun, hown', hg, hat⟩ := key
    obtain ⟨a', c', rfl, O'⟩ := own_of w' lo e s v' (n + n2) (xs ++ news) hown'
    have hobs : (Value.slice a n c).ownBlock = ob a := by cases a <;> rfl
    have hg' : Gr (ob a) w.heap w'.heap := ⟨hg.size, fun k hk hne => hg.block k hk (by rw [hobs]; exact hne)⟩
    refine ⟨.value (.slice a' (n + n2) c'), _, w', ?_, rfl, ⟨hg.os, hg.tape, hg.output⟩, H a' c' w'.heap O' hg' ?_⟩
    · simp only [execOp, ho, resolve, invoke, builtin, Sem.run_bind, Sem.run_pure, Result.andThen_ok, List.map_toArray, List.map_cons, List.map_nil, hx, hy, Option.getD_some, hrun]
    · have hob' : (Value.slice a' (n + n2) c').ownBlock = ob a' := by cases a' <;> rfl
      rw [hob', hobs] at hat
      rcases hat with e | e
      · exact .inl e
      · exact .inr ⟨_, e, Nat.le_refl _⟩

end Go.AX
/-
  What the program's data are, and how they lie in memory.
-/
namespace Go.AX
open Go

/-! ### The data -/
structure Stamp where
  wall : Int
  tie : Int
structure Try4 where
  node : Int
  life : Int
  seq : Int
  attempt : Int
structure Ver where
  at_ : Stamp
  drop : Bool
  data : ByteArray
structure Lck where
  by_ : Try4
  home : Int
  at_ : Stamp
  drop : Bool
  data : ByteArray
structure Cell where
  key : ByteArray
  vers : List Ver
  locked : Bool
  lock : Lck
structure Wri where
  key : ByteArray
  drop : Bool
  data : ByteArray
structure Spn where
  lo : ByteArray
  hi : ByteArray
structure Pai where
  key : ByteArray
  data : ByteArray
deriving instance Inhabited for Stamp, Try4
instance : Inhabited ByteArray := ⟨⟨#[]⟩⟩
deriving instance Inhabited for Ver, Lck, Cell, Wri, Spn, Pai
deriving instance DecidableEq for Stamp, Try4

def eStamp (s : Stamp) : List Value := [vi s.wall, vi s.tie]
def eTry (t : Try4) : List Value := [vi t.node, vi t.life, vi t.seq, vi t.attempt]
def eVer (v : Ver) : List Value := [vi v.at_.wall, vi v.at_.tie, .bool v.drop, .string v.data]
def eLck (l : Lck) : List Value := [vi l.by_.node, vi l.by_.life, vi l.by_.seq, vi l.by_.attempt, vi l.home, vi l.at_.wall, vi l.at_.tie, .bool l.drop, .string l.data]
def eWri (w : Wri) : List Value := [.string w.key, .bool w.drop, .string w.data]
def eSpn (s : Spn) : List Value := [.string s.lo, .string s.hi]
def ePai (p : Pai) : List Value := [.string p.key, .string p.data]

def noLock : Lck := ⟨⟨0, 0, 0, 0⟩, 0, ⟨0, 0⟩, false, ⟨#[]⟩⟩

/-- A cell as it lies in memory: its versions are elsewhere. -/
structure CV where
  key : ByteArray
  va : Option Addr
  vn : Nat
  vc : Nat
  locked : Bool
  lock : Lck
def eCV (c : CV) : List Value := [.string c.key, .slice c.va c.vn c.vc, .bool c.locked, vi c.lock.by_.node, vi c.lock.by_.life, vi c.lock.by_.seq, vi c.lock.by_.attempt, vi c.lock.home, vi c.lock.at_.wall, vi c.lock.at_.tie, .bool c.lock.drop, .string c.lock.data]

theorem eStamp_len (s : Stamp) : (eStamp s).length = 2 := rfl
theorem eTry_len (s : Try4) : (eTry s).length = 4 := rfl
theorem eVer_len (s : Ver) : (eVer s).length = 4 := rfl
theorem eLck_len (s : Lck) : (eLck s).length = 9 := rfl
theorem eWri_len (s : Wri) : (eWri s).length = 3 := rfl
theorem eSpn_len (s : Spn) : (eSpn s).length = 2 := rfl
theorem ePai_len (s : Pai) : (ePai s).length = 2 := rfl
theorem eCV_len (s : CV) : (eCV s).length = 12 := rfl
theorem eVer_one (x : Ver) : ∀ v ∈ eVer x, v.oneCell' = true := by
  intro v hv; simp only [eVer, List.mem_cons, List.not_mem_nil, or_false] at hv
  rcases hv with rfl | rfl | rfl | rfl <;> rfl
theorem eCV_one (x : CV) : ∀ v ∈ eCV x, v.oneCell' = true := by
  intro v hv; simp only [eCV, List.mem_cons, List.not_mem_nil, or_false] at hv
  rcases hv with rfl | rfl | rfl | rfl | rfl | rfl | rfl | rfl | rfl | rfl | rfl | rfl <;> rfl
theorem ePai_one (x : Pai) : ∀ v ∈ ePai x, v.oneCell' = true := by
  intro v hv; simp only [ePai, List.mem_cons, List.not_mem_nil, or_false] at hv
  rcases hv with rfl | rfl <;> rfl
theorem one_flatMap {α : Type} {e : α → List Value} (he : ∀ x, ∀ v ∈ e x, v.oneCell' = true) (ds : List α) : ∀ v ∈ ds.flatMap e, v.oneCell' = true := by
  intro v hv
  obtain ⟨x, _, hx⟩ := List.mem_flatMap.1 hv
  exact he x v hx

/-! ### Slices of data without memory behind it -/
theorem flatMap_length {α : Type} {e : α → List Value} {s : Nat} (he : ∀ x, (e x).length = s) : ∀ ds : List α, (ds.flatMap e).length = ds.length * s
  | [] => by simp
  | d :: ds => by simp [flatMap_length he ds, he, Nat.add_mul, Nat.add_comm]
theorem flatMap_at {α : Type} {e : α → List Value} {s : Nat} (he : ∀ x, (e x).length = s) : ∀ (ds : List α) (i : Nat) (d : α), ds[i]? = some d → ((ds.flatMap e).drop (i * s)).take s = e d
  | [], i, d, h => by simp at h
  | x :: ds, 0, d, h => by
    simp at h; subst h
    simp [List.take_append_of_le_length, he, List.take_of_length_le]
  | x :: ds, i + 1, d, h => by
    have := flatMap_at he ds i d (by simpa using h)
    rw [← this]
    simp only [List.flatMap_cons]
    rw [show (i + 1) * s = s + i * s by rw [Nat.add_mul]; omega, ← List.drop_drop, List.drop_append_of_le_length (by rw [he]; exact Nat.le_refl _)]
    congr 2
    rw [List.drop_of_length_le (by rw [he]; exact Nat.le_refl _), List.nil_append]

/-- A slice at a reads as these data; its block is one of B. -/
def SlF {α : Type} (B : Nat → Prop) (h : Heap) (e : α → List Value) (a : Option Addr) (ds : List α) : Prop :=
  ds ≠ [] → ∃ b o, a = some ⟨b, o, none⟩ ∧ B b ∧ Row h b o (ds.flatMap e)

section
variable {α : Type} {B B' : Nat → Prop} {h h' : Heap} {e : α → List Value} {a : Option Addr} {ds : List α}
theorem SlF.nil : SlF B h e a ([] : List α) := fun h => absurd rfl h
theorem SlF.imp (S : SlF B h e a ds) (hB : ∀ b, B b → B' b) : SlF B' h e a ds := fun hn => let ⟨b, o, h1, h2, h3⟩ := S hn; ⟨b, o, h1, hB b h2, h3⟩
theorem SlF.at_ (S : SlF B h e a ds) (hB : ∀ b, B b → h'[b]? = h[b]?) : SlF B h' e a ds := fun hn => let ⟨b, o, h1, h2, h3⟩ := S hn; ⟨b, o, h1, h2, h3.at_ (hB b h2)⟩
theorem SlF.ext (S : SlF B h e a ds) (x : Ext h h') : SlF B h' e a ds := fun hn => let ⟨b, o, h1, h2, h3⟩ := S hn; ⟨b, o, h1, h2, h3.ext x⟩
theorem SlF.elem (S : SlF B h e a ds) {s : Nat} (he : ∀ x, (e x).length = s) {i : Nat} {d : α} (hi : ds[i]? = some d) : ∃ b o, a = some ⟨b, o, none⟩ ∧ B b ∧ Row h b (o + i * s) (e d) := by
  obtain ⟨b, o, h1, h2, h3⟩ := S (by rintro rfl; simp at hi)
  refine ⟨b, o, h1, h2, ?_⟩
  have := h3.sub (i * s) s
  rwa [flatMap_at he ds i d hi] at this
theorem SlF.of_own {lo t s n c : Nat} (O : Own lo h t s a n c (ds.flatMap e)) (hn : n = ds.length) : SlF (fun b => lo ≤ b ∧ b < h.size ∧ ob a = some b) h e a ds := by
  intro hne
  have hpos : 0 < n := by rw [hn]; exact List.length_pos_iff.2 hne
  obtain ⟨g, rfl, h1, h2⟩ := O.row hpos
  exact ⟨g, 0, rfl, ⟨h1, (O.ob g rfl).2, rfl⟩, h2⟩
end

theorem row_ver {h : Heap} {b o : Nat} {v : Ver} (r : Row h b o (eVer v)) : rd h b o 4 = some (eVer v) ∧ rd h b (o + 0) 2 = some (eStamp v.at_) ∧ cel h b (o + 2) = some (.bool v.drop) ∧ cel h b (o + 3) = some (.string v.data) :=
  ⟨r.rd0 4 (Nat.le_refl _), r.rd 0 2 (by rw [eVer_len]; omega), r 2 (by rw [eVer_len]; omega), r 3 (by rw [eVer_len]; omega)⟩
theorem row_cv {h : Heap} {b o : Nat} {v : CV} (r : Row h b o (eCV v)) : rd h b o 12 = some (eCV v) ∧ cel h b (o + 0) = some (.string v.key) ∧ cel h b (o + 1) = some (.slice v.va v.vn v.vc) ∧ cel h b (o + 2) = some (.bool v.locked) ∧
    rd h b (o + 3) 9 = some (eLck v.lock) ∧ rd h b (o + 3 + 0) 4 = some (eTry v.lock.by_) ∧ rd h b (o + 3 + 5) 2 = some (eStamp v.lock.at_) ∧ cel h b (o + 3 + 7) = some (.bool v.lock.drop) ∧ cel h b (o + 3 + 8) = some (.string v.lock.data) :=
  ⟨r.rd0 12 (Nat.le_refl _), r 0 (by rw [eCV_len]; omega), r 1 (by rw [eCV_len]; omega), r 2 (by rw [eCV_len]; omega), r.rd 3 9 (by rw [eCV_len]; omega), r.rd 3 4 (by rw [eCV_len]; omega), r.rd 8 2 (by rw [eCV_len]; omega),
    r 10 (by rw [eCV_len]; omega), r 11 (by rw [eCV_len]; omega)⟩
/-! ### Cells -/
/-- The cell c lies as v, its versions in a block of B. -/
structure CR (B : Nat → Prop) (h : Heap) (v : CV) (c : Cell) : Prop where
  key : v.key = c.key
  locked : v.locked = c.locked
  lock : v.lock = c.lock
  vn : v.vn = c.vers.length
  cap : v.vn ≤ v.vc
  vers : SlF B h eVer v.va c.vers

theorem CR.imp {B B' : Nat → Prop} {h : Heap} {v : CV} {c : Cell} (r : CR B h v c) (hB : ∀ b, B b → B' b) : CR B' h v c := ⟨r.key, r.locked, r.lock, r.vn, r.cap, r.vers.imp hB⟩
theorem CR.at_ {B : Nat → Prop} {h h' : Heap} {v : CV} {c : Cell} (r : CR B h v c) (hB : ∀ b, B b → h'[b]? = h[b]?) : CR B h' v c := ⟨r.key, r.locked, r.lock, r.vn, r.cap, r.vers.at_ hB⟩
theorem CR.ext {B : Nat → Prop} {h h' : Heap} {v : CV} {c : Cell} (r : CR B h v c) (x : Ext h h') : CR B h' v c := ⟨r.key, r.locked, r.lock, r.vn, r.cap, r.vers.ext x⟩

theorem All2.get {α β : Type} {R : α → β → Prop} : ∀ {l : List α} {m : List β}, All2 R l m → ∀ {i : Nat} {b : β}, m[i]? = some b → ∃ a, l[i]? = some a ∧ R a b
  | _, _, .nil, i, b, h => by simp at h
  | _, _, .cons (a := a) r t, 0, b, h => by simp at h; subst h; exact ⟨a, rfl, r⟩
  | _, _, .cons r t, i + 1, b, h => by obtain ⟨a, h1, h2⟩ := t.get (i := i) (by simpa using h); exact ⟨a, by simpa using h1, h2⟩
theorem All2.length {α β : Type} {R : α → β → Prop} : ∀ {l : List α} {m : List β}, All2 R l m → l.length = m.length
  | _, _, .nil => rfl
  | _, _, .cons _ t => by simp [t.length]
theorem All2.append {α β : Type} {R : α → β → Prop} : ∀ {l : List α} {m : List β} {l' : List α} {m' : List β}, All2 R l m → All2 R l' m' → All2 R (l ++ l') (m ++ m')
  | _, _, _, _, .nil, u => u
  | _, _, _, _, .cons r t, u => .cons r (t.append u)

/-- A slice of cells: its row's block is one of B, the versions' are. -/
def SlC (B : Nat → Prop) (h : Heap) (a : Option Addr) (cs : List Cell) : Prop := ∃ vs : List CV, All2 (CR B h) vs cs ∧ SlF B h eCV a vs

section
variable {B B' : Nat → Prop} {h h' : Heap} {a : Option Addr} {cs : List Cell}
theorem SlC.nil : SlC B h a [] := ⟨[], .nil, .nil⟩
theorem SlC.imp (S : SlC B h a cs) (hB : ∀ b, B b → B' b) : SlC B' h a cs := let ⟨vs, h1, h2⟩ := S; ⟨vs, h1.imp fun _ _ r => r.imp hB, h2.imp hB⟩
theorem SlC.at_ (S : SlC B h a cs) (hB : ∀ b, B b → h'[b]? = h[b]?) : SlC B h' a cs := let ⟨vs, h1, h2⟩ := S; ⟨vs, h1.imp fun _ _ r => r.at_ hB, h2.at_ hB⟩
theorem SlC.ext (S : SlC B h a cs) (x : Ext h h') : SlC B h' a cs := let ⟨vs, h1, h2⟩ := S; ⟨vs, h1.imp fun _ _ r => r.ext x, h2.ext x⟩
theorem SlC.elem (S : SlC B h a cs) {i : Nat} {c : Cell} (hi : cs[i]? = some c) : ∃ b o v, a = some ⟨b, o, none⟩ ∧ B b ∧ Row h b (o + i * 12) (eCV v) ∧ CR B h v c := by
  obtain ⟨vs, h1, h2⟩ := S
  obtain ⟨v, hv, hr⟩ := h1.get hi
  obtain ⟨b, o, e1, e2, e3⟩ := h2.elem eCV_len hv
  exact ⟨b, o, v, e1, e2, e3, hr⟩
end

/-! ### A function of the model's own -/
theorem raw_ext {P : Program} {o : Oper} {σ : Env} {h : Heap} {K : Value → Heap → Prop} {f : FuncId} {fn : Func} {args : Array Operand} {at_ : Array TypeId} {e : Array Value → Sem Value} {vs : List Value} {v : Value}
    (ho : o.op = .call ⟨.value (.func f), args, at_⟩) (hf : P.funcs[f]? = some fn) (hb : fn.body.isNone = true) (hn : (fn.name == "runtime.NumGoroutine") = false) (h1 : (Extern.findNext fn).isNone = true) (h2 : Extern.find fn = some e)
    (hvs : evOs σ args.toList = some vs) (hr : ∀ w : World, w.heap = h → (e vs.toArray).run P w = .ok v w) (hK : K v h) : RawW P o σ h K := by
  have hall : ∀ (xs : List Operand) (vs : List Value), evOs σ xs = some vs → (∀ x ∈ xs, (evO σ x).isSome = true) ∧ xs.map (fun x => (evO σ x).getD undef) = vs := by
    intro xs
    induction xs with
    | nil => intro vs h; cases h; simp
    | cons x xs ih =>
      intro vs h
      simp only [evOs, Option.bind_eq_some_iff, Option.map_eq_some_iff] at h
      obtain ⟨u, hu, us, hus, rfl⟩ := h
      obtain ⟨i1, i2⟩ := ih us hus
      refine ⟨?_, by simp [hu, i2]⟩
      intro y hy
      rcases List.mem_cons.1 hy with rfl | hy
      · rw [hu]; rfl
      · exact i1 y hy
  obtain ⟨a1, a2⟩ := hall _ _ hvs
  refine ⟨?_, ?_, ?_⟩
  · rw [ho]; intro u hu
    simp only [Op.operands, Call.operands, Array.mem_append, List.mem_toArray, List.mem_cons, List.not_mem_nil, or_false] at hu
    rcases hu with rfl | hu
    · rfl
    · exact a1 u (by simpa using hu)
  · rw [ho]; intro cs b hh; cases hh
  · intro w hw
    have hargs : args.map (fun x => (evO σ x).getD undef) = vs.toArray := by apply Array.ext'; simpa using a2
    refine ⟨.value v, v, w, ?_, rfl, Same.refl w, by rw [hw]; exact hK⟩
    have hfn : Extern.findNext fn = none := by simpa using h1
    have hb' : fn.body = none := by simpa using hb
    have hn' : fn.name ≠ "runtime.NumGoroutine" := by simpa using hn
    have hfv : (evO σ (.func f)).getD undef = .func (.func f) #[] #[] := rfl
    simp [execOp, ho, resolve, hfv, Deferred.ofValue, invoke, hargs, callFunc, hf, hb', hn', hfn, h2, hr w hw]

end Go.AX
/-
  Plain mathematics: the order of stamps and of keys; versions and cells as lists.
-/
namespace Go.AX
open Go

/-! ### Keys -/
/-- One key ahead of another. -/
def klt (a b : ByteArray) : Bool := Op.bytesLess a.toList b.toList

theorem bl_irrefl : ∀ x : List UInt8, Op.bytesLess x x = false
  | [] => rfl
  | a :: x => by simp [Op.bytesLess, bl_irrefl x]
theorem bl_trans : ∀ x y z : List UInt8, Op.bytesLess x y = true → Op.bytesLess y z = true → Op.bytesLess x z = true
  | _, [], _, h, _ => by cases ‹List UInt8› <;> simp [Op.bytesLess] at h
  | _, _ :: _, [], _, h => by simp [Op.bytesLess] at h
  | [], _ :: _, _ :: _, _, _ => by simp [Op.bytesLess]
  | a :: x, b :: y, c :: z, h, k => by
    simp only [Op.bytesLess, Bool.or_eq_true, decide_eq_true_eq, Bool.and_eq_true, beq_iff_eq] at h k ⊢
    rcases h with h | ⟨rfl, h⟩
    · rcases k with k | ⟨rfl, k⟩
      · exact .inl (UInt8.lt_trans h k)
      · exact .inl h
    · rcases k with k | ⟨rfl, k⟩
      · exact .inl k
      · exact .inr ⟨rfl, bl_trans x y z h k⟩
theorem u8_tri (a b : UInt8) : a < b ∨ a = b ∨ b < a := by
  simp only [UInt8.lt_iff_toNat_lt, ← UInt8.toNat_inj]; omega
theorem bl_total : ∀ x y : List UInt8, Op.bytesLess x y = true ∨ x = y ∨ Op.bytesLess y x = true
  | [], [] => .inr (.inl rfl)
  | [], _ :: _ => .inl rfl
  | _ :: _, [] => .inr (.inr rfl)
  | a :: x, b :: y => by
    simp only [Op.bytesLess, Bool.or_eq_true, decide_eq_true_eq, Bool.and_eq_true, beq_iff_eq, List.cons.injEq]
    rcases u8_tri a b with h | h | h
    · exact .inl (.inl h)
    · subst h
      rcases bl_total x y with k | k | k
      · exact .inl (.inr ⟨rfl, k⟩)
      · exact .inr (.inl ⟨rfl, k⟩)
      · exact .inr (.inr (.inr ⟨rfl, k⟩))
    · exact .inr (.inr (.inl h))

theorem toList_inj {a b : ByteArray} (h : a.toList = b.toList) : a = b := by
  rw [ByteArray.toList_eq, ByteArray.toList_eq] at h
  cases a; cases b
  congr 1
  exact Array.ext' h
theorem keq_iff (a b : ByteArray) : (a.toList == b.toList) = decide (a = b) := by
  by_cases h : a = b
  · subst h; simp
  · rw [decide_eq_false h, beq_eq_false_iff_ne]
    exact fun e => h (toList_inj e)
theorem klt_irrefl (a : ByteArray) : klt a a = false := bl_irrefl _
theorem klt_trans {a b c : ByteArray} (h : klt a b = true) (k : klt b c = true) : klt a c = true := bl_trans _ _ _ h k
theorem klt_total (a b : ByteArray) : klt a b = true ∨ a = b ∨ klt b a = true := by
  rcases bl_total a.toList b.toList with h | h | h
  · exact .inl h
  · exact .inr (.inl (toList_inj h))
  · exact .inr (.inr h)
theorem klt_asymm {a b : ByteArray} (h : klt a b = true) : klt b a = false := by
  cases hb : klt b a with
  | false => rfl
  | true => have := klt_trans h hb; rw [klt_irrefl] at this; cases this
theorem klt_ne {a b : ByteArray} (h : klt a b = true) : a ≠ b := by rintro rfl; rw [klt_irrefl] at h; cases h
/-- not ahead: at or behind -/
theorem kle_iff (a b : ByteArray) : (klt a b || decide (a = b)) = !klt b a := by
  rcases klt_total a b with h | h | h
  · rw [h, klt_asymm h]; rfl
  · subst h; simp [klt_irrefl]
  · rw [h, klt_asymm h]; simp [(klt_ne h).symm]

/-- What strings.Compare tells. -/
def kcmp (a b : ByteArray) : Int := if klt a b then -1 else if klt b a then 1 else 0
theorem cmp_kcmp : ∀ x y : List UInt8, Lib.compareBytes x y = if Op.bytesLess x y then -1 else if Op.bytesLess y x then 1 else 0
  | [], [] => rfl
  | [], _ :: _ => rfl
  | _ :: _, [] => rfl
  | a :: x, b :: y => by
    simp only [Lib.compareBytes, Op.bytesLess, cmp_kcmp x y]
    by_cases h : a < b
    · simp [h]
    · by_cases k : b < a
      · have hne : a ≠ b := by rintro rfl; exact absurd k h
        simp [h, k, hne]
      · have he : a = b := by
          rcases u8_tri a b with h' | h' | h'
          · exact absurd h' h
          · exact h'
          · exact absurd h' k
        subst he
        simp [h]

/-! ### Stamps -/
def Stamp.lt (a b : Stamp) : Bool := decide (a.wall < b.wall) || (decide (a.wall = b.wall) && decide (a.tie < b.tie))
theorem Stamp.lt_iff (a b : Stamp) : Stamp.lt a b = true ↔ a.wall < b.wall ∨ (a.wall = b.wall ∧ a.tie < b.tie) := by simp [Stamp.lt]
theorem Stamp.ext_iff' (a b : Stamp) : a = b ↔ a.wall = b.wall ∧ a.tie = b.tie := by cases a; cases b; simp
theorem Stamp.lt_irrefl (a : Stamp) : Stamp.lt a a = false := by simp [Stamp.lt]
theorem Stamp.lt_trans {a b c : Stamp} (h : Stamp.lt a b = true) (k : Stamp.lt b c = true) : Stamp.lt a c = true := by
  rw [Stamp.lt_iff] at *; omega
theorem Stamp.lt_total (a b : Stamp) : Stamp.lt a b = true ∨ a = b ∨ Stamp.lt b a = true := by
  simp only [Stamp.lt_iff, Stamp.ext_iff']; omega
theorem Stamp.lt_asymm {a b : Stamp} (h : Stamp.lt a b = true) : Stamp.lt b a = false := by
  cases hb : Stamp.lt b a with
  | false => rfl
  | true => have := Stamp.lt_trans h hb; rw [Stamp.lt_irrefl] at this; cases this

/-! ### Versions -/
def lastK (vs : List Ver) (t : Stamp) : Nat → Int
  | 0 => -1
  | k + 1 => if Stamp.lt t (vs.getD k default).at_ then lastK vs t k else k
/-- The place of the last version that is not above a stamp; -1: none. -/
def lastV (vs : List Ver) (t : Stamp) : Int := lastK vs t vs.length
theorem lastK_le (vs : List Ver) (t : Stamp) : ∀ k, -1 ≤ lastK vs t k ∧ lastK vs t k < k
  | 0 => by simp [lastK]
  | k + 1 => by
    have := lastK_le vs t k
    unfold lastK; split <;> omega
theorem lastV_le (vs : List Ver) (t : Stamp) : -1 ≤ lastV vs t ∧ lastV vs t < vs.length := lastK_le vs t _

def noB : ByteArray := ⟨#[]⟩
/-- What versions tell at a stamp. -/
def tellV (vs : List Ver) (t : Stamp) : ByteArray × Bool :=
  if lastV vs t < 0 then (noB, false) else
  let v := vs.getD (lastV vs t).toNat default
  if v.drop then (noB, false) else (v.data, true)

/-- The reference's loop: the last one in the list's order that is not above the stamp. -/
def ofK (vs : List Ver) (t : Stamp) : Nat → ByteArray × Bool
  | 0 => (noB, false)
  | k + 1 => let v := vs.getD k default; if Stamp.lt t v.at_ then ofK vs t k else (v.data, !v.drop)
def ofV (vs : List Ver) (t : Stamp) : ByteArray × Bool := let r := ofK vs t vs.length; if r.2 then r else (noB, false)
theorem ofK_eq (vs : List Ver) (t : Stamp) : ∀ k, (let r := ofK vs t k; if r.2 then r else (noB, false)) = (if lastK vs t k < 0 then (noB, false) else
    let v := vs.getD (lastK vs t k).toNat default
    if v.drop then (noB, false) else (v.data, true))
  | 0 => rfl
  | k + 1 => by
    unfold ofK lastK
    simp only
    split
    · rename_i h; have := ofK_eq vs t k; simpa using this
    · rw [if_neg (by omega : ¬ ((k : Nat) : Int) < 0)]
      simp only [Int.toNat_natCast]
      cases (vs.getD k default).drop <;> simp
theorem ofV_eq (vs : List Ver) (t : Stamp) : ofV vs t = tellV vs t := ofK_eq vs t _

/-! ### Cells -/
/-- The keys rise. -/
def Sorted (cs : List Cell) : Prop := cs.Pairwise fun a b => klt a.key b.key = true

/-- The first place whose key is the key; -1: none. -/
def findK (cs : List Cell) (key : ByteArray) : Int := match cs.findIdx? (fun c => decide (c.key = key)) with | some i => i | none => -1
/-- How many keys are ahead. -/
def lbK (cs : List Cell) (key : ByteArray) : Nat := (cs.takeWhile fun c => klt c.key key).length
def hasK (cs : List Cell) (key : ByteArray) : Bool := match cs[lbK cs key]? with | some c => decide (c.key = key) | none => false

end Go.AX
/-
  Rules for copy, append of zeros, slices.overlaps.
-/
namespace Go.AX
open Go

/-! ### Slicing -/
theorem slc_lh {sz b o n c l u : Nat} {K : Value → Prop} (h1 : l ≤ u) (h2 : u ≤ c) (h3 : l < c) (H : K (.slice (some ⟨b, o + l * sz, none⟩) (u - l) (c - l))) : slcV sz (.slice (some ⟨b, o, none⟩) n c) (some (vi l)) (some (vi u)) none K := by
  simp only [slcV, asI_int, bd_some, Int.toNat_natCast]
  refine ⟨by omega, by omega, by omega, by omega, ?_⟩
  rw [if_neg (by omega), Option.map_some, add_mk]
  exact H
theorem slc_lo {sz b o n c l : Nat} {K : Value → Prop} (h1 : l ≤ n) (h2 : n ≤ c) (h3 : l < c) (H : K (.slice (some ⟨b, o + l * sz, none⟩) (n - l) (c - l))) : slcV sz (.slice (some ⟨b, o, none⟩) n c) (some (vi l)) none none K := by
  simp only [slcV, asI_int, bd_some, Int.toNat_natCast]
  refine ⟨by omega, by omega, by omega, by omega, ?_⟩
  rw [if_neg (by omega), Option.map_some, add_mk]
  exact H
theorem slc_hi {sz b o n c u : Nat} {K : Value → Prop} (h2 : u ≤ c) (H : K (.slice (some ⟨b, o, none⟩) u c)) : slcV sz (.slice (some ⟨b, o, none⟩) n c) none (some (vi u)) none K := by
  simp only [slcV, asI_int, bd_some, Int.toNat_natCast]
  refine ⟨by omega, by omega, by omega, by omega, ?_⟩
  have e : (if c = (0 : Int).toNat then some (⟨b, o, none⟩ : Addr) else (some (⟨b, o, none⟩ : Addr)).map (·.add ((0 : Int).toNat * sz))) = some ⟨b, o, none⟩ := by
    split
    · rfl
    · simp [add_mk]
  rw [e]
  exact H
/-- where the first bound is the end of what there is. -/
theorem slc_lo' {sz n c l : Nat} {a : Option Addr} {K : Value → Prop} (h1 : l ≤ n) (h2 : n ≤ c) (H : ∀ a', (l < c → a' = a.map (·.add (l * sz))) → K (.slice a' (n - l) (c - l))) : slcV sz (.slice a n c) (some (vi l)) none none K := by
  simp only [slcV, asI_int, bd_some, Int.toNat_natCast]
  refine ⟨by omega, by omega, by omega, by omega, H _ ?_⟩
  intro hl
  rw [if_neg (by omega)]

/-- 'copy(d, s)', d in a block that may be written. -/
theorem raw_copy {P : Program} {o : Oper} {σ : Env} {h : Heap} {K : Value → Heap → Prop} {x y : Operand} {t t' e s bytes : Nat} (hT : slT P t e s bytes = true)
    (ho : o.op = .call ⟨.builtin .copy, #[x, y], #[t, t']⟩) {g og n c b q n2 c2 te : Nat} {cur cs : List Value}
    (hx : evO σ x = some (.slice (some ⟨g, og, none⟩) n c)) (hy : evO σ y = some (.slice (some ⟨b, q, none⟩) n2 c2)) (B : Blk h g te cur) (hn : cs.length = min n2 n * s)
    (hs : Row h b q cs) (hfit : og + cs.length ≤ cur.length) (h1 : ∀ v ∈ cs, v.oneCell' = true)
    (H : ∀ h', Upd g h h' → Blk h' g te (cur.take og ++ cs ++ cur.drop (og + cs.length)) → K (vi (min n2 n : Nat)) h') : RawW P o σ h K := by
  obtain ⟨i, z, hu, hi, hz, hsz, hby, hzs, hsp⟩ := slT_spec hT
  refine ⟨?_, ?_, ?_⟩
  · rw [ho]; intro u hu'
    simp only [Op.operands, Call.operands, Array.mem_append, List.mem_toArray, List.mem_cons, List.not_mem_nil, or_false, false_or] at hu'
    rcases hu' with rfl | rfl
    · rw [hx]; rfl
    · rw [hy]; rfl
  · rw [ho]; intro cs b hh; cases hh
  · intro w hw
    subst hw
    have hsrc : ∀ j v, cs[j]? = some v → w.cell? ((⟨b, q, none⟩ : Addr).add j) = some v := fun j v hj => by
      have hjl : j < cs.length := (List.getElem?_eq_some_iff.1 hj).1
      rw [add_mk, cel_cell, hs j hjl]; exact hj
    have hl := run_firstCells_some (P := P) w s (Nat.min n2 n) ⟨b, q, none⟩ n2 c2 cs hn hsrc
    have hst := run_storeCells_at P g og te cs 0 cur.toArray w B (by simpa using hfit) h1
    have hrun : (Builtin.copy_ #[t, t'] o.type #[.slice (some ⟨g, og, none⟩) n c, .slice (some ⟨b, q, none⟩) n2 c2]).run P w = .ok (goInt (Nat.min n2 n)) (w.setRow g (cur.take og ++ cs ++ cur.drop (og + cs.length)).toArray) := by
      simp [Builtin.copy_, run_underlying hu, Builtin.lenOf, sizeOf, typeInfo, hi, hsz, hl, hst]
    refine ⟨.value (goInt (Nat.min n2 n)), vi (Nat.min n2 n), w.setRow g (cur.take og ++ cs ++ cur.drop (og + cs.length)).toArray, ?_, rfl, ⟨rfl, rfl, rfl⟩, H _ ⟨size_setRow w g _, fun k hk => setRow_other w g k _ hk⟩ (setRow_heap w g _ _ _ _ B)⟩
    simp only [execOp, ho, resolve, invoke, builtin, Sem.run_bind, Sem.run_pure, Result.andThen_ok, List.map_toArray, List.map_cons, List.map_nil, hx, hy, Option.getD_some, hrun]

/-- 'append(x, make(.., k)...)' without room. -/
theorem raw_zeros {P : Program} {o : Oper} {σ : Env} {h : Heap} {K : Value → Heap → Prop} {x y : Operand} {t tn e s bytes : Nat} {kn kq : IntKind} (hT : slT P t e s bytes = true) (htn : P.underlying tn = some (.int kn))
    (ho : o.op = .call ⟨.builtin .append, #[x, y], #[t, tn]⟩) {g og n c k : Nat} {olds : List Value}
    (hx : evO σ x = some (.slice (some ⟨g, og, none⟩) n c)) (hy : evO σ y = some (.int kq k)) (hr : Row h g og olds) (hl : olds.length = n * s) (h0 : 0 < k) (hg : c < n + k) (hlen : n + k ≤ maxLen) (hb : (n + k) * bytes ≤ 140737488355328)
    (H : ∀ h' c' zs, Ext h h' → h'.size = h.size + 1 → n + k ≤ c' → c' ≤ maxLen → zs.length = (c' - n) * s → Blk h' h.size e (olds ++ zs) → K (.slice (some ⟨h.size, 0, none⟩) (n + k) c') h') : RawW P o σ h K := by
  obtain ⟨i, z, hu, hi, hz, hsz, hby, hzs, hsp⟩ := slT_spec hT
  refine ⟨?_, ?_, ?_⟩
  · rw [ho]; intro u hu'
    simp only [Op.operands, Call.operands, Array.mem_append, List.mem_toArray, List.mem_cons, List.not_mem_nil, or_false, false_or] at hu'
    rcases hu' with rfl | rfl
    · rw [hx]; rfl
    · rw [hy]; rfl
  · rw [ho]; intro cs b hh; cases hh
  · intro w hw
    subst hw
    have hsrc : ∀ j v, olds[j]? = some v → w.drew.cell? ((⟨g, og, none⟩ : Addr).add j) = some v := fun j v hj => by
      have hjl : j < olds.length := (List.getElem?_eq_some_iff.1 hj).1
      show w.cell? _ = _
      rw [add_mk, cel_cell, hr j hjl]; exact hj
    have hold := run_firstCells_some (P := P) w.drew i.size n ⟨g, og, none⟩ n c olds (by rw [hsz]; exact hl) hsrc
    have hrun := Lib.run_append_grow_zeros (P := P) w t tn o.type e i z kq kn hu htn hi hz (some ⟨g, og, none⟩) n c olds hold k h0 (by omega) hg (by unfold maxLen at hlen; omega)
      (by rw [hby]; have : k * bytes ≤ (n + k) * bytes := Nat.mul_le_mul_right _ (by omega); omega) (by rw [hby]; exact growslice_fits hg hb)
    have hge := grownCap_ge w (n + k) c e
    have hle := grownCap_le_maxLen w (n + k) c e hlen
    have hzc : ∀ m, (Builtin.zeroCells z.cells m).size = m * s := fun m => by simp [Builtin.zeroCells, hzs]
    refine ⟨.value (.slice (some ⟨w.heap.size, 0, none⟩) (n + k) (grownCap w (n + k) c e)), .slice (some ⟨w.heap.size, 0, none⟩) (n + k) (grownCap w (n + k) c e), (w.drew.alloc (.cells (olds.toArray ++ Builtin.zeroCells z.cells k ++ Builtin.zeroCells z.cells (grownCap w (n + k) c e - (n + k))) e)), ?_, rfl, ⟨rfl, rfl, rfl⟩, H (w.drew.alloc (.cells (olds.toArray ++ Builtin.zeroCells z.cells k ++ Builtin.zeroCells z.cells (grownCap w (n + k) c e - (n + k))) e)).heap (grownCap w (n + k) c e)
      ((Builtin.zeroCells z.cells k).toList ++ (Builtin.zeroCells z.cells (grownCap w (n + k) c e - (n + k))).toList) ((Ext.refl _).push _) (Array.size_push _) hge hle ?_ ?_⟩
    · simp only [execOp, ho, resolve, invoke, builtin, Sem.run_bind, Sem.run_pure, Result.andThen_ok, List.map_toArray, List.map_cons, List.map_nil, hx, hy, Option.getD_some, hrun]
    · rw [List.length_append, Array.length_toList, Array.length_toList, hzc, hzc, ← Nat.add_mul]
      congr 1; omega
    · show (w.heap.push _)[w.heap.size]? = _
      rw [Array.getElem?_push_size]
      congr 2
      simp

/-- slices.overlaps of two blocks. -/
theorem raw_overlaps {P : Program} {o : Oper} {σ : Env} {h : Heap} {K : Value → Heap → Prop} {x y : Operand} {t t2 t3 e s bytes : Nat} (hT : slT P t e s bytes = true) {f : FuncId} {fn : Func}
    (ho : o.op = .call ⟨.value (.func f), #[x, y], #[t2, t3]⟩) (hf : P.funcs[f]? = some fn) (hb : fn.body.isNone = true) (hn : (fn.name == "runtime.NumGoroutine") = false) (hx1 : (Extern.findNext fn).isNone = true)
    {tR : TypeId} (h2 : Extern.find fn = some (Extern.SlicesOverlaps.overlaps #[t, t] #[tR])) {a b la ca lb cb oa o2 ta tb : Nat} {l m : List Value}
    (hx : evO σ x = some (.slice (some ⟨a, oa, none⟩) la ca)) (hy : evO σ y = some (.slice (some ⟨b, o2, none⟩) lb cb)) (A : Blk h a ta l) (B : Blk h b tb m) (hab : a ≠ b) (hm : 0 < m.length) (H : K (.bool false) h) : RawW P o σ h K := by
  obtain ⟨i, z, hu, hi, hz, hsz, hby, hzs, hsp⟩ := slT_spec hT
  refine raw_ext ho hf hb hn hx1 h2 (vs := [.slice (some ⟨a, oa, none⟩) la ca, .slice (some ⟨b, o2, none⟩) lb cb]) (v := .bool false) ?_ ?_ H
  · simp [evOs, hx, hy]
  · intro w hw
    subst hw
    unfold Blk at A B
    exact Lib.run_overlaps_apart w t tR e hu s (fun w => by simp [sizeOf, typeInfo, hi, hsz]) ⟨a, oa, none⟩ ⟨b, o2, none⟩ la ca lb cb hab ta tb l.length m.length
      (by simp [World.shape?, A]) (by simp [World.shape?, B]) (by omega) (by simp [World.frozen?, A]) (by simp [World.frozen?, A])
end Go.AX
/-
  Rules for conditions made of parts: both ways meet again, so they are one way with a value by cases.
-/
namespace Go.AX
open Go
theorem br_andL (c : Bool) (p A B : Prop) : br c (p ∧ A) B = ((c = true → p) ∧ br c A B) := by cases c <;> simp [br]
theorem br_andR (c : Bool) (p A B : Prop) : br c A (p ∧ B) = ((c = false → p) ∧ br c A B) := by cases c <;> simp [br]
theorem br_join (c x y : Bool) (P : Program) (m : Option Md) (r : List I) (C : Env → Heap → Prop) (d : Nat) (σ : Env) (h : Heap) :
    br c (wL P m r 0 C ((d, .bool x) :: σ) h) (wL P m r 0 C ((d, .bool y) :: σ) h) = wL P m r 0 C ((d, .bool (bif c then x else y)) :: σ) h := by cases c <;> simp [br]
theorem br_joinC (c x y : Bool) (P : Program) (e : C) (Q : X → Env → Heap → Prop) (d : Nat) (σ : Env) (h : Heap) :
    br c (wC P e Q ((d, .bool x) :: σ) h) (wC P e Q ((d, .bool y) :: σ) h) = wC P e Q ((d, .bool (bif c then x else y)) :: σ) h := by cases c <;> simp [br]
/-- A loop that stands last in its block. -/
theorem loop_in1 {P : Program} {B : C} {id : Nat} {Q : X → Env → Heap → Prop} {σ : Env} {h : Heap} (Inv : Nat → Env → Heap → Prop) (n : Nat) (h0 : Inv n σ h)
    (H : ∀ n σ h, Inv n σ h → ∀ Q' : X → Env → Heap → Prop, (∀ n' σ' h', n' < n → Inv n' σ' h' → Q' .normal σ' h') → (∀ σ' h', Q .normal σ' h' → Q' (.exit id) σ' h') → (∀ σ' h', Q .ret σ' h' → Q' .ret σ' h') →
      (∀ i σ' h', i ≠ id → Q (.exit i) σ' h' → Q' (.exit i) σ' h') → wC P B Q' σ h) :
    loopW (wC P B) (X.inBlock id Q) σ h := by
  refine ⟨Inv, n, h0, fun n σ h hI => H n σ h hI _ ?_ ?_ ?_ ?_⟩
  · intro n' σ' h' hn hI'; exact ⟨n', hn, hI'⟩
  · intro σ' h' hM; show (if id = id then Q .normal σ' h' else _); rw [if_pos rfl]; exact hM
  · intro σ' h' hq; exact hq
  · intro i σ' h' hi hq
    show (if i = id then Q .normal σ' h' else Q (.exit i) σ' h')
    rw [if_neg hi]; exact hq
/-- the same, where the first way turns the heap -/
theorem br_call {c x y : Bool} {P : Program} {m : Option Md} {r : List I} {C : Env → Heap → Prop} {d : Nat} {σ : Env} {h : Heap}
    (H : ∀ h', Ext h h' → wL P m r 0 C ((d, .bool (bif c then x else y)) :: σ) h') :
    (c = true → ∀ h', Ext h h' → wL P m r 0 C ((d, .bool x) :: σ) h') ∧ (c = false → wL P m r 0 C ((d, .bool y) :: σ) h) := by
  constructor
  · rintro rfl h' e; exact H h' e
  · rintro rfl; exact H h (Ext.refl _)
theorem br_not (c : Bool) (A B : Prop) : br (!c) A B = br c B A := by cases c <;> simp [br]
theorem cond_tr (c x : Bool) : (bif c then true else x) = (c || x) := by cases c <;> rfl
theorem cond_fr (c x : Bool) : (bif c then x else false) = (c && x) := by cases c <;> simp
theorem cond_xt (c x : Bool) : (bif c then x else true) = (!c || x) := by cases c <;> simp
theorem cond_fx (c x : Bool) : (bif c then false else x) = (!c && x) := by cases c <;> simp
set_option linter.defProp false in
def AXJ := And.intro @beq_true <| And.intro @beq_false <| And.intro @Bool.not_not <| And.intro @decide_eq_true_eq <| And.intro @decide_eq_false_iff_not <| And.intro @br_not <| And.intro @br_andL <| And.intro @br_andR <| And.intro @br_join <| And.intro @br_joinC <| And.intro @cond_tr <| And.intro @cond_fr <| And.intro @cond_xt <| @cond_fx
end Go.AX
/-
  Rules for going through code, such that nothing is looked at ahead of its time: what comes behind is a closed word until its value is known.
-/
namespace Go.AX
open Go
section
variable (P : Program) (m : Option Md) (r : List I) (C : Env → Heap → Prop) (d : Nat) (σ : Env) (h : Heap)
def K1 (v : Value) : Prop := wL P m r 0 C ((d, v) :: σ) h
theorem K1_eq (v : Value) : K1 P m r C d σ h v = wL P m r 0 C ((d, v) :: σ) h := rfl
def Kld1 (q : Nat × Nat) : Prop := ldOk m q.1 ∧ bd (cel (ldHeap m h) q.1 q.2) (K1 P m r C d σ h)
theorem Kld1_eq (b o : Nat) : Kld1 P m r C d σ h (b, o) = (ldOk m b ∧ bd (cel (ldHeap m h) b o) (K1 P m r C d σ h)) := rfl
def Kldn (n : Nat) (q : Nat × Nat) : Prop := ldOk m q.1 ∧ bd ((rd (ldHeap m h) q.1 q.2 n).map fun l => .agg l.toArray) (K1 P m r C d σ h)
theorem Kldn_eq (n b o : Nat) : Kldn P m r C d σ h n (b, o) = (ldOk m b ∧ bd ((rd (ldHeap m h) b o n).map fun l => .agg l.toArray) (K1 P m r C d σ h)) := rfl
def Kiad (sz : Nat) (q : (Nat × Nat × Nat × Nat) × Int) : Prop := 0 ≤ q.2 ∧ q.2 < q.1.2.2.1 ∧ wL P m r 0 C ((d, ptr q.1.1 (q.1.2.1 + q.2.toNat * sz)) :: σ) h
theorem Kiad_eq (sz b o n c : Nat) (k : Int) : Kiad P m r C d σ h sz ((b, o, n, c), k) = (0 ≤ k ∧ k < n ∧ wL P m r 0 C ((d, ptr b (o + k.toNat * sz)) :: σ) h) := rfl
def Ksc (c : Nat) (w : Bool) (n : Nat) (t : Bool) : Prop := br (t == w) (wL P m r 0 C ((c, .bool w) :: σ) h) (wL P m r n C ((c, .bool (!w)) :: σ) h)
theorem Ksc_eq (c : Nat) (w : Bool) (n : Nat) (t : Bool) : Ksc P m r C σ h c w n t = br (t == w) (wL P m r 0 C ((c, .bool w) :: σ) h) (wL P m r n C ((c, .bool (!w)) :: σ) h) := rfl
def KgS (w : Bool) (k : Nat) (d : Option Nat) (v : Value) : Prop := notB v w = true ∧ wL P m r k C (putE σ d undef) h
theorem KgS_eq (w : Bool) (k : Nat) (d : Option Nat) (v : Value) : KgS P m r C σ h w k d v = (notB v w = true ∧ wL P m r k C (putE σ d undef) h) := rfl
@[reducible] def Kret (d : Option Nat) (v : Value) (h' : Heap) : Prop := kpOk m h h' ∧ wL P m r 0 C (putE σ d v) h'
theorem Kret_eq (d : Option Nat) (v : Value) (h' : Heap) : Kret P m r C σ h d v h' = (kpOk m h h' ∧ wL P m r 0 C (putE σ d v) h') := rfl
def Kcall (f : Nat) (d : Option Nat) (vs : List Value) : Prop := CallsH P f vs h (Kret P m r C σ h d)
theorem Kcall_eq (f : Nat) (d : Option Nat) (vs : List Value) : Kcall P m r C σ h f d vs = CallsH P f vs h (Kret P m r C σ h d) := rfl
end
def iadV (x i : Option Value) : Option ((Nat × Nat × Nat × Nat) × Int) := (x.bind asSl).bind fun q => (i.bind asI).map fun k => (q, k)
section
variable {P : Program} {m : Option Md} {C : Env → Heap → Prop} {σ : Env} {h : Heap} {r : List I}
theorem bd_b {α β : Type} (o : Option α) (f : α → Option β) (k : β → Prop) : (bd o fun v => bd (f v) k) = bd (o.bind f) k := by cases o <;> rfl
theorem xL_sc (c : Nat) (w : Bool) (n : Nat) : wL P m (.sc c w n :: r) 0 C σ h = bd ((look σ c).bind asB) (Ksc P m r C σ h c w n) := by rw [← bd_b]; rfl
theorem xL_gS (c : Nat) (w : Bool) (j : J) (k : Nat) : wL P m (.g c w j :: r) (k + 1) C σ h = bd (look σ c) (KgS P m r C σ h w k j.dst) := rfl
theorem xL_mov (d : Nat) (x : Operand) : wL P m (.op (.mov d x) :: r) 0 C σ h = bd (evO σ x) (K1 P m r C d σ h) := rfl
theorem xL_pick (d : Nat) (c a b : Operand) : wL P m (.op (.pick d c a b) :: r) 0 C σ h = bd (((evO σ c).bind asB).bind fun t => evO σ (bif t then a else b)) (K1 P m r C d σ h) := by rw [← bd_b, ← bd_b]; rfl
theorem xL_ld1 (d : Nat) (x : Operand) : wL P m (.op (.ld d none x) :: r) 0 C σ h = bd ((evO σ x).bind asP) (Kld1 P m r C d σ h) := by rw [← bd_b]; rfl
theorem bd_m {α β : Type} (o : Option α) (f : α → β) (k : β → Prop) : (bd o fun v => k (f v)) = bd (o.map f) k := by cases o <;> rfl
theorem xL_ldn (d n : Nat) (x : Operand) : wL P m (.op (.ld d (some n) x) :: r) 0 C σ h = bd ((evO σ x).bind asP) (Kldn P m r C d σ h n) := by
  rw [← bd_b]; unfold Kldn; simp only [← bd_m]; rfl
theorem xL_fad (d off : Nat) (x : Operand) : wL P m (.op (.fad d off x) :: r) 0 C σ h = bd (((evO σ x).bind asP).map fun q => ptr q.1 (q.2 + off)) (K1 P m r C d σ h) := by rw [← bd_m, ← bd_b]; rfl
theorem xL_iad (d sz : Nat) (x i : Operand) : wL P m (.op (.iad d sz x i) :: r) 0 C σ h = bd (iadV (evO σ x) (evO σ i)) (Kiad P m r C d σ h sz) := by
  rw [wL_iad]
  unfold iadV
  cases evO σ x with
  | none => rfl
  | some v =>
    cases evO σ i with
    | none => simp only [bd_some, Option.bind_some, Option.bind_none, Option.map_none]; cases asSl v <;> rfl
    | some u =>
      simp only [bd_some, Option.bind_some]
      cases asSl v with
      | none => rfl
      | some q => cases asI u <;> rfl
theorem xL_ext (d : Nat) (x : Operand) (i : Nat) : wL P m (.op (.ext d x i) :: r) 0 C σ h = bd ((evO σ x).bind (extV i)) (K1 P m r C d σ h) := by rw [← bd_b]; rfl
theorem bd_2 (x y : Option Value) (f : Value → Value → Option Value) (k : Value → Prop) : (bd x fun v => bd y fun u => bd (f v u) k) = bd (x.bind fun v => y.bind fun u => f v u) k := by cases x <;> cases y <;> rfl
theorem xL_bin (d : Nat) (op : BinOp) (x y : Operand) : wL P m (.op (.bin d op x y) :: r) 0 C σ h = bd ((evO σ x).bind fun v => (evO σ y).bind fun u => binV op v u) (K1 P m r C d σ h) := by rw [← bd_2]; rfl
theorem xL_eqb (d : Nat) (neg : Bool) (x y : Operand) : wL P m (.op (.eqb d neg x y) :: r) 0 C σ h = bd ((evO σ x).bind fun v => (evO σ y).bind fun u => eqB neg v u) (K1 P m r C d σ h) := by rw [← bd_2]; rfl
theorem xL_eqn (d : Nat) (s neg : Bool) (x y : Operand) : wL P m (.op (.eqn d s neg x y) :: r) 0 C σ h = bd ((evO σ x).bind fun v => (evO σ y).bind fun u => eqN s neg v u) (K1 P m r C d σ h) := by rw [← bd_2]; rfl
theorem xL_eqa (d : Nat) (neg : Bool) (ks : List Kd) (x y : Operand) : wL P m (.op (.eqa d neg ks x y) :: r) 0 C σ h = bd ((evO σ x).bind fun v => (evO σ y).bind fun u => eqA neg ks v u) (K1 P m r C d σ h) := by rw [← bd_2]; rfl
theorem xL_un (d : Nat) (op : UnOp) (x : Operand) : wL P m (.op (.un d op x) :: r) 0 C σ h = bd ((evO σ x).bind (unV op)) (K1 P m r C d σ h) := by rw [← bd_b]; rfl
theorem xL_len (d : Nat) (s : Bool) (x : Operand) : wL P m (.op (.len d s x) :: r) 0 C σ h = bd ((evO σ x).bind (lenV s)) (K1 P m r C d σ h) := by rw [← bd_b]; rfl
theorem xL_cap (d : Nat) (x : Operand) : wL P m (.op (.cap d x) :: r) 0 C σ h = bd ((evO σ x).bind capV) (K1 P m r C d σ h) := by rw [← bd_b]; rfl
theorem xL_mm (d : Nat) (mx : Bool) (x y : Operand) : wL P m (.op (.mm d mx x y) :: r) 0 C σ h = bd ((evO σ x).bind fun v => (evO σ y).bind fun u => maxV mx v u) (K1 P m r C d σ h) := by rw [← bd_2]; rfl
theorem xL_cvt (d : Nat) (k : IntKind) (x : Operand) : wL P m (.op (.cvt d k x) :: r) 0 C σ h = bd ((evO σ x).bind (cvtV k)) (K1 P m r C d σ h) := by rw [← bd_b]; rfl
theorem xL_bld (d : Nat) (zero : List Value) (parts : List (Nat × Nat × Operand)) : wL P m (.op (.bld d zero parts) :: r) 0 C σ h = bd ((fillL σ zero parts).map fun cs => .agg cs.toArray) (K1 P m r C d σ h) := by rw [← bd_m]; rfl
theorem xL_fn (d f : Nat) (caps : List Operand) : wL P m (.op (.fn d f caps) :: r) 0 C σ h = bd ((evOs σ caps).map fun cs => .func (.func f) #[] cs.toArray) (K1 P m r C d σ h) := by rw [← bd_m]; rfl
theorem xL_call (d : Option Nat) (f : Nat) (args : List Operand) : wL P m (.op (.call d f args) :: r) 0 C σ h = bd (evOs σ args) (Kcall P m r C σ h f d) := rfl
end
theorem iadV_some (b o n c : Nat) (t : IntKind) (k : Int) : iadV (some (.slice (some ⟨b, o, none⟩) n c)) (some (.int t k)) = some ((b, o, n, c), k) := rfl
def Kslc (P : Program) (m : Option Md) (r : List I) (C : Env → Heap → Prop) (d : Nat) (σ : Env) (h : Heap) (sz : Nat) (q : Value × Option Value × Option Value × Option Value) : Prop := slcV sz q.1 q.2.1 q.2.2.1 q.2.2.2 (K1 P m r C d σ h)
theorem Kslc_eq (P : Program) (m : Option Md) (r : List I) (C : Env → Heap → Prop) (d : Nat) (σ : Env) (h : Heap) (sz : Nat) (v : Value) (a b c : Option Value) : Kslc P m r C d σ h sz (v, a, b, c) = slcV sz v a b c (K1 P m r C d σ h) := rfl
theorem xL_slc {P : Program} {m : Option Md} {C : Env → Heap → Prop} {σ : Env} {h : Heap} {r : List I} (d sz : Nat) (x : Operand) (lo hi mx : Option Operand) : wL P m (.op (.slc d sz x lo hi mx) :: r) 0 C σ h =
    bd ((evO σ x).bind fun v => (evOo σ lo).bind fun l => (evOo σ hi).bind fun u => (evOo σ mx).map fun m => (v, l, u, m)) (Kslc P m r C d σ h sz) := by
  rw [wL_slc]
  cases evO σ x with
  | none => rfl
  | some v =>
    cases evOo σ lo with
    | none => rfl
    | some l =>
      cases evOo σ hi with
      | none => rfl
      | some u => cases evOo σ mx <;> rfl
set_option linter.defProp false in
/-- All the rules as one. -/
def AXS := And.intro @bd_some <|
  And.intro @br_true <|
  And.intro @br_false <|
  And.intro @wL_nil <|
  And.intro @wL_kp <|
  And.intro @wL_g <|
  And.intro @wL_kpS <|
  And.intro @wL_scS <|
  And.intro @wL_nch <|
  And.intro @ldOk_none <|
  And.intro @ldHeap_none <|
  And.intro @kpOk_none <|
  And.intro @ldOk_some <|
  And.intro @ldHeap_some <|
  And.intro @then_normal <|
  And.intro @then_exit <|
  And.intro @then_ret <|
  And.intro @inBlock_normal <|
  And.intro @inBlock_ret <|
  And.intro @inBlock_exit <|
  And.intro @endW_ret <|
  And.intro @endW_normal <|
  And.intro @evO_tmp <|
  And.intro @evO_const <|
  And.intro @evO_func <|
  And.intro @look_cons <|
  And.intro @keep_cons <|
  And.intro @keep_nil <|
  And.intro @kc_some <|
  And.intro @evOs_cons <|
  And.intro @evOs_nil <|
  And.intro @evOo_none <|
  And.intro @evOo_some <|
  And.intro @asB_bool <|
  And.intro @asI_int <|
  And.intro @asP_ptr <|
  And.intro @asSl_sl <|
  And.intro @extV_tuple <|
  And.intro @unV_not <|
  And.intro @lenV_sl <|
  And.intro @lenV_str <|
  And.intro @capV_sl <|
  And.intro @eqB_bool <|
  And.intro @cvtV_int <|
  And.intro @maxV_int <|
  And.intro @notB_ft <|
  And.intro @notB_tf <|
  And.intro @br_eqT <|
  And.intro @br_eqF <|
  And.intro @notB_undef <|
  And.intro @putE_some <|
  And.intro @putE_none <|
  And.intro @one_one <|
  And.intro @one_two <|
  And.intro @resV_nil <|
  And.intro @resV_tmp <|
  And.intro @resV_cell <|
  And.intro @envOf_nil <|
  And.intro @envOf_cons <|
  And.intro @fillL_nil <|
  And.intro @fillL_cons <|
  And.intro @putL_nil <|
  And.intro @putL_cons <|
  And.intro @binV_add <|
  And.intro @binV_sub <|
  And.intro @binV_mul <|
  And.intro @binV_eql <|
  And.intro @binV_neq <|
  And.intro @binV_lss <|
  And.intro @binV_leq <|
  And.intro @binV_gtr <|
  And.intro @binV_geq <|
  And.intro @binS_eql <|
  And.intro @binS_neq <|
  And.intro @binS_lss <|
  And.intro @binS_leq <|
  And.intro @binS_gtr <|
  And.intro @binS_geq <|
  And.intro @xL_sc <|
  And.intro @xL_gS <|
  And.intro @xL_mov <|
  And.intro @xL_pick <|
  And.intro @xL_ld1 <|
  And.intro @xL_ldn <|
  And.intro @xL_fad <|
  And.intro @xL_iad <|
  And.intro @xL_ext <|
  And.intro @xL_bin <|
  And.intro @xL_eqb <|
  And.intro @xL_eqn <|
  And.intro @xL_eqa <|
  And.intro @xL_un <|
  And.intro @xL_len <|
  And.intro @xL_cap <|
  And.intro @xL_mm <|
  And.intro @xL_cvt <|
  And.intro @xL_bld <|
  And.intro @xL_fn <|
  And.intro @xL_call <|
  And.intro @xL_slc <|
  And.intro @iadV_some <|
  And.intro @K1_eq <|
  And.intro @Kld1_eq <|
  And.intro @Kldn_eq <|
  And.intro @Kiad_eq <|
  And.intro @Ksc_eq <|
  And.intro @KgS_eq <|
  And.intro @Kret_eq <|
  And.intro @Kcall_eq <|
  @Kslc_eq
end Go.AX
