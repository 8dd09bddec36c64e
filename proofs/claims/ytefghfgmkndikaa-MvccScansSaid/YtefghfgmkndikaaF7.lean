/-
  The small instruction language: rules for going through it, and words for the heap.
-/
import Derived.Test.YtefghfgmkndikaaF6
set_option linter.unusedSimpArgs false
set_option linter.unusedVariables false
namespace Go.AX
open Go

section
variable {P : Program} {m : Option Md} {C : Env → Heap → Prop} {σ : Env} {h : Heap} {r : List I}

theorem wL_nil (k : Nat) : wL P m [] k C σ h = C σ h := by cases k <;> rfl
theorem wL_kp (l : List Nat) : wL P m (.kp l :: r) 0 C σ h = wL P m r 0 C (keep l σ) h := rfl
theorem wL_sc (c : Nat) (w : Bool) (n : Nat) : wL P m (.sc c w n :: r) 0 C σ h =
  (bd (look σ c) fun v => bd (asB v) fun t => br (t == w) (wL P m r 0 C ((c, .bool w) :: σ) h) (wL P m r n C ((c, .bool (!w)) :: σ) h)) := rfl
theorem wL_g (c : Nat) (w : Bool) (j : J) : wL P m (.g c w j :: r) 0 C σ h = (look σ c = some (.bool w) ∧ wL P m (.op j :: r) 0 C σ h) := rfl
theorem wL_kpS (l : List Nat) (k : Nat) : wL P m (.kp l :: r) (k + 1) C σ h = wL P m r k C σ h := rfl
theorem wL_scS (c : Nat) (w : Bool) (n k : Nat) : wL P m (.sc c w n :: r) (k + 1) C σ h = wL P m r k C σ h := rfl
theorem wL_gS (c : Nat) (w : Bool) (j : J) (k : Nat) : wL P m (.g c w j :: r) (k + 1) C σ h = (bd (look σ c) fun v => notB v w = true ∧ wL P m r k C (putE σ j.dst undef) h) := rfl
theorem wL_mov (d : Nat) (x : Operand) : wL P m (.op (.mov d x) :: r) 0 C σ h = (bd (evO σ x) fun v => wL P m r 0 C ((d, v) :: σ) h) := rfl
theorem wL_pick (d : Nat) (c a b : Operand) : wL P m (.op (.pick d c a b) :: r) 0 C σ h = (bd (evO σ c) fun v => bd (asB v) fun t => bd (evO σ (bif t then a else b)) fun v => wL P m r 0 C ((d, v) :: σ) h) := rfl
theorem wL_ld1 (d : Nat) (x : Operand) : wL P m (.op (.ld d none x) :: r) 0 C σ h = (bd (evO σ x) fun v => bd (asP v) fun q => ldOk m q.1 ∧ bd (cel (ldHeap m h) q.1 q.2) fun v => wL P m r 0 C ((d, v) :: σ) h) := rfl
theorem wL_ldn (d n : Nat) (x : Operand) : wL P m (.op (.ld d (some n) x) :: r) 0 C σ h = (bd (evO σ x) fun v => bd (asP v) fun q => ldOk m q.1 ∧ bd (rd (ldHeap m h) q.1 q.2 n) fun l => wL P m r 0 C ((d, .agg l.toArray) :: σ) h) := rfl
theorem wL_fad (d off : Nat) (x : Operand) : wL P m (.op (.fad d off x) :: r) 0 C σ h = (bd (evO σ x) fun v => bd (asP v) fun q => wL P m r 0 C ((d, ptr q.1 (q.2 + off)) :: σ) h) := rfl
theorem wL_iad (d sz : Nat) (x i : Operand) : wL P m (.op (.iad d sz x i) :: r) 0 C σ h =
  (bd (evO σ x) fun v => bd (evO σ i) fun u => bd (asSl v) fun q => bd (asI u) fun k => 0 ≤ k ∧ k < q.2.2.1 ∧ wL P m r 0 C ((d, ptr q.1 (q.2.1 + k.toNat * sz)) :: σ) h) := rfl
theorem wL_slc (d sz : Nat) (x : Operand) (lo hi mx : Option Operand) : wL P m (.op (.slc d sz x lo hi mx) :: r) 0 C σ h =
  (bd (evO σ x) fun v => bd (evOo σ lo) fun l => bd (evOo σ hi) fun hh => bd (evOo σ mx) fun mm => slcV sz v l hh mm fun v => wL P m r 0 C ((d, v) :: σ) h) := rfl
theorem wL_ext (d : Nat) (x : Operand) (i : Nat) : wL P m (.op (.ext d x i) :: r) 0 C σ h = (bd (evO σ x) fun v => bd (extV i v) fun v => wL P m r 0 C ((d, v) :: σ) h) := rfl
theorem wL_bin (d : Nat) (op : BinOp) (x y : Operand) : wL P m (.op (.bin d op x y) :: r) 0 C σ h = (bd (evO σ x) fun v => bd (evO σ y) fun u => bd (binV op v u) fun v => wL P m r 0 C ((d, v) :: σ) h) := rfl
theorem wL_eqb (d : Nat) (neg : Bool) (x y : Operand) : wL P m (.op (.eqb d neg x y) :: r) 0 C σ h = (bd (evO σ x) fun v => bd (evO σ y) fun u => bd (eqB neg v u) fun v => wL P m r 0 C ((d, v) :: σ) h) := rfl
theorem wL_eqn (d : Nat) (s neg : Bool) (x y : Operand) : wL P m (.op (.eqn d s neg x y) :: r) 0 C σ h = (bd (evO σ x) fun v => bd (evO σ y) fun u => bd (eqN s neg v u) fun v => wL P m r 0 C ((d, v) :: σ) h) := rfl
theorem wL_eqa (d : Nat) (neg : Bool) (ks : List Kd) (x y : Operand) : wL P m (.op (.eqa d neg ks x y) :: r) 0 C σ h = (bd (evO σ x) fun v => bd (evO σ y) fun u => bd (eqA neg ks v u) fun v => wL P m r 0 C ((d, v) :: σ) h) := rfl
theorem wL_un (d : Nat) (op : UnOp) (x : Operand) : wL P m (.op (.un d op x) :: r) 0 C σ h = (bd (evO σ x) fun v => bd (unV op v) fun v => wL P m r 0 C ((d, v) :: σ) h) := rfl
theorem wL_len (d : Nat) (s : Bool) (x : Operand) : wL P m (.op (.len d s x) :: r) 0 C σ h = (bd (evO σ x) fun v => bd (lenV s v) fun v => wL P m r 0 C ((d, v) :: σ) h) := rfl
theorem wL_cap (d : Nat) (x : Operand) : wL P m (.op (.cap d x) :: r) 0 C σ h = (bd (evO σ x) fun v => bd (capV v) fun v => wL P m r 0 C ((d, v) :: σ) h) := rfl
theorem wL_mm (d : Nat) (mx : Bool) (x y : Operand) : wL P m (.op (.mm d mx x y) :: r) 0 C σ h = (bd (evO σ x) fun v => bd (evO σ y) fun u => bd (maxV mx v u) fun v => wL P m r 0 C ((d, v) :: σ) h) := rfl
theorem wL_cvt (d : Nat) (k : IntKind) (x : Operand) : wL P m (.op (.cvt d k x) :: r) 0 C σ h = (bd (evO σ x) fun v => bd (cvtV k v) fun v => wL P m r 0 C ((d, v) :: σ) h) := rfl
theorem wL_bld (d : Nat) (zero : List Value) (parts : List (Nat × Nat × Operand)) : wL P m (.op (.bld d zero parts) :: r) 0 C σ h = (bd (fillL σ zero parts) fun cs => wL P m r 0 C ((d, .agg cs.toArray) :: σ) h) := rfl
theorem wL_fn (d f : Nat) (caps : List Operand) : wL P m (.op (.fn d f caps) :: r) 0 C σ h = (bd (evOs σ caps) fun cs => wL P m r 0 C ((d, .func (.func f) #[] cs.toArray) :: σ) h) := rfl
theorem wL_nch (d : Option Nat) (x : Operand) : wL P m (.op (.nch d x) :: r) 0 C σ h = (bd (evO σ x) fun v => bd (nchV v) fun v => wL P m r 0 C (putE σ d v) h) := rfl
theorem wL_new (d t : Nat) (zero : List Value) : wL P m (.op (.new d t zero) :: r) 0 C σ h = (kpOk m h (h.push (.cells zero.toArray t)) ∧ wL P m r 0 C ((d, ptr h.size 0) :: σ) (h.push (.cells zero.toArray t))) := rfl
theorem wL_box (d t : Nat) (x : Operand) : wL P m (.op (.box d t x) :: r) 0 C σ h = (bd (evO σ x) fun v => kpOk m h (h.push (.cells v.cells t)) ∧ wL P m r 0 C ((d, ptr h.size 0) :: σ) (h.push (.cells v.cells t))) := rfl
theorem wL_bsl (d t n : Nat) (zero : List Value) (parts : List (Nat × Nat × Operand)) : wL P m (.op (.bsl d t n zero parts) :: r) 0 C σ h =
  (bd (fillL σ zero parts) fun cs => kpOk m h (h.push (.cells cs.toArray t)) ∧ wL P m r 0 C ((d, sl h.size 0 n n) :: σ) (h.push (.cells cs.toArray t))) := rfl
theorem wL_st (n : Nat) (x v : Operand) : wL P m (.op (.st n x v) :: r) 0 C σ h =
  (bd (evO σ x) fun p => bd (asP p) fun q => bd (evO σ v) fun u => u.cells.size = n ∧ wrOk h q.1 q.2 u.cells.toList ∧ kpOk m h (wr h q.1 q.2 u.cells.toList) ∧ wL P m r 0 C σ (wr h q.1 q.2 u.cells.toList)) := rfl
theorem wL_call (d : Option Nat) (f : Nat) (args : List Operand) : wL P m (.op (.call d f args) :: r) 0 C σ h = (bd (evOs σ args) fun vs => CallsH P f vs h fun v h' => kpOk m h h' ∧ wL P m r 0 C (putE σ d v) h') := rfl
theorem wL_cav (d : Option Nat) (f : FuncId) (first caps : Array Value) (vs : List Value) (x : Operand) (args : List Operand) (hx : evO σ x = some (.func (.func f) first caps)) (hvs : evOs σ args = some vs) (hc : callable P f = true)
    (H : CallsH P f (first.toList ++ vs ++ caps.toList) h fun v h' => kpOk m h h' ∧ wL P m r 0 C (putE σ d v) h') : wL P m (.op (.cav d x args) :: r) 0 C σ h := by
  unfold wL wJ
  rw [if_neg (by simp [J.take])]
  unfold wE
  simp only [hx, hvs, bd_some]
  exact ⟨hc, H⟩
theorem wL_raw (d : Option Nat) (o : Oper) : wL P m (.op (.raw d o) :: r) 0 C σ h = RawW P o σ h fun v h' => kpOk m h h' ∧ wL P m r 0 C (putE σ d v) h' := rfl
end

theorem br_eqT (t : Bool) (A B : Prop) : br (t == true) A B = br t A B := by cases t <;> rfl
theorem br_eqF (t : Bool) (A B : Prop) : br (t == false) A B = br t B A := by cases t <;> simp [br]
theorem ldOk_none (b : Nat) : ldOk none b = True := rfl
theorem ldHeap_none (h : Heap) : ldHeap none h = h := rfl
theorem kpOk_none (h h' : Heap) : kpOk none h h' = True := rfl
theorem ldOk_some (p : Nat → Prop) (h0 : Heap) (b : Nat) : ldOk (some ⟨p, h0⟩) b = p b := rfl
theorem ldHeap_some (p : Nat → Prop) (h0 h : Heap) : ldHeap (some ⟨p, h0⟩) h = h0 := rfl

theorem then_normal (K : Env → Heap → Prop) (Q : X → Env → Heap → Prop) (σ : Env) (h : Heap) : X.then K Q .normal σ h = K σ h := rfl
theorem then_exit (K : Env → Heap → Prop) (Q : X → Env → Heap → Prop) (i : Nat) (σ : Env) (h : Heap) : X.then K Q (.exit i) σ h = Q (.exit i) σ h := rfl
theorem then_ret (K : Env → Heap → Prop) (Q : X → Env → Heap → Prop) (σ : Env) (h : Heap) : X.then K Q .ret σ h = Q .ret σ h := rfl
theorem inBlock_normal (i : Nat) (Q : X → Env → Heap → Prop) (σ : Env) (h : Heap) : X.inBlock i Q .normal σ h = Q .normal σ h := rfl
theorem inBlock_ret (i : Nat) (Q : X → Env → Heap → Prop) (σ : Env) (h : Heap) : X.inBlock i Q .ret σ h = Q .ret σ h := rfl
theorem inBlock_exit (i j : Nat) (Q : X → Env → Heap → Prop) (σ : Env) (h : Heap) : X.inBlock i Q (.exit j) σ h = if j = i then Q .normal σ h else Q (.exit j) σ h := rfl
theorem endW_ret (res : List Rs) (R : Value → Heap → Prop) (σ : Env) (h : Heap) : endW res R .ret σ h = bd (resV h σ res) fun vs => R (one vs) h := rfl
theorem endW_normal (res : List Rs) (R : Value → Heap → Prop) (σ : Env) (h : Heap) : endW res R .normal σ h = bd (resV h σ res) fun vs => R (one vs) h := rfl

theorem evO_tmp (σ : Env) (t : Nat) : evO σ (.tmp t) = look σ t := rfl
theorem evO_const (σ : Env) (v : Value) : evO σ (.const v) = some v := rfl
theorem evO_func (σ : Env) (f : Nat) : evO σ (.func f) = some (.func (.func f) #[] #[]) := rfl
theorem look_cons (m : Nat) (v : Value) (σ : Env) (n : Nat) : look ((m, v) :: σ) n = if n = m then some v else look σ n := rfl
theorem keep_cons (s : Nat) (l : List Nat) (σ : Env) : keep (s :: l) σ = kc (look σ s) s (keep l σ) := rfl
theorem keep_nil (σ : Env) : keep [] σ = [] := rfl
theorem kc_some (v : Value) (s : Nat) (r : Env) : kc (some v) s r = (s, v) :: r := rfl
theorem evOs_cons (σ : Env) (x : Operand) (xs : List Operand) : evOs σ (x :: xs) = (evO σ x).bind fun v => (evOs σ xs).map (v :: ·) := rfl
theorem evOs_nil (σ : Env) : evOs σ [] = some [] := rfl
theorem evOo_none (σ : Env) : evOo σ none = some none := rfl
theorem evOo_some (σ : Env) (x : Operand) : evOo σ (some x) = (evO σ x).map some := rfl
theorem asB_bool (b : Bool) : asB (.bool b) = some b := rfl
theorem asI_int (k : IntKind) (n : Int) : asI (.int k n) = some n := rfl
theorem asP_ptr (b o : Nat) : asP (.pointer (some ⟨b, o, none⟩)) = some (b, o) := rfl
theorem asSl_sl (b o n c : Nat) : asSl (.slice (some ⟨b, o, none⟩) n c) = some (b, o, n, c) := rfl
theorem extV_tuple (i : Nat) (vs : Array Value) : extV i (.tuple vs) = vs[i]? := rfl
theorem unV_not (b : Bool) : unV .not (.bool b) = some (.bool !b) := rfl
theorem lenV_sl (a : Option Addr) (n c : Nat) : lenV true (.slice a n c) = some (vi n) := rfl
theorem lenV_str (s : ByteArray) : lenV false (.string s) = some (vi s.size) := rfl
theorem capV_sl (a : Option Addr) (n c : Nat) : capV (.slice a n c) = some (vi c) := rfl
theorem eqB_bool (neg a b : Bool) : eqB neg (.bool a) (.bool b) = some (.bool (if neg then !(a == b) else a == b)) := rfl
theorem cvtV_int (k k' : IntKind) (n : Int) : cvtV k (.int k' n) = some (.int k (k.wrap n)) := rfl
theorem maxV_int (mx : Bool) (k k' : IntKind) (x y : Int) : maxV mx (.int k x) (.int k' y) = some (.int k (if mx then (if y > x then y else x) else (if y < x then y else x))) := rfl
theorem notB_ft : notB (.bool false) true = true := rfl
theorem notB_tf : notB (.bool true) false = true := rfl
theorem notB_undef (w : Bool) : notB undef w = true := rfl
theorem putE_some (σ : Env) (d : Nat) (v : Value) : putE σ (some d) v = (d, v) :: σ := rfl
theorem putE_none (σ : Env) (v : Value) : putE σ none v = σ := rfl
theorem one_one (v : Value) : one [v] = v := rfl
theorem one_two (v u : Value) : one [v, u] = .tuple #[v, u] := rfl
theorem resV_nil (h : Heap) (σ : Env) : resV h σ [] = some [] := rfl
theorem resV_tmp (h : Heap) (σ : Env) (t : Nat) (r : List Rs) : resV h σ (.tmp t :: r) = (look σ t).bind fun v => (resV h σ r).map (v :: ·) := rfl
theorem resV_cell (h : Heap) (σ : Env) (t n : Nat) (r : List Rs) : resV h σ (.cell t n :: r) = (look σ t).bind fun v => (asP v).bind fun q => (rd h q.1 q.2 n).bind fun l => (resV h σ r).map (.agg l.toArray :: ·) := rfl
theorem envOf_nil (i : Nat) : envOf i [] = [] := rfl
theorem envOf_cons (i : Nat) (v : Value) (vs : List Value) : envOf i (v :: vs) = (i, v) :: envOf (i + 1) vs := rfl
theorem rd_zero (h : Heap) (b o : Nat) : rd h b o 0 = some [] := rfl
theorem rd_succ (h : Heap) (b o n : Nat) : rd h b o (n + 1) = (cel h b o).bind fun v => (rd h b (o + 1) n).map (v :: ·) := rfl
theorem fillL_nil (σ : Env) (cs : List Value) : fillL σ cs [] = some cs := rfl
theorem fillL_cons (σ : Env) (cs : List Value) (off size : Nat) (x : Operand) (r : List (Nat × Nat × Operand)) :
    fillL σ cs ((off, size, x) :: r) = (evO σ x).bind fun v => if v.cells.size = size ∧ off + size ≤ cs.length then fillL σ (putL cs off v.cells.toList) r else none := rfl
theorem putL_nil (cs : List Value) (o : Nat) : putL cs o [] = cs := rfl
theorem putL_cons (cs : List Value) (o : Nat) (v : Value) (vs : List Value) : putL cs o (v :: vs) = putL (cs.set o v) (o + 1) vs := rfl
section
variable (k : IntKind) (a b : Int) (s t : ByteArray)
theorem binV_add : binV .add (.int k a) (.int k b) = some (.int k (k.wrap (a + b))) := by simp [binV]
theorem binV_sub : binV .sub (.int k a) (.int k b) = some (.int k (k.wrap (a - b))) := by simp [binV]
theorem binV_mul : binV .mul (.int k a) (.int k b) = some (.int k (k.wrap (a * b))) := by simp [binV]
theorem binV_eql : binV .eql (.int k a) (.int k b) = some (.bool (a == b)) := by simp [binV]
theorem binV_neq : binV .neq (.int k a) (.int k b) = some (.bool (a != b)) := by simp [binV]
theorem binV_lss : binV .lss (.int k a) (.int k b) = some (.bool (decide (a < b))) := by simp [binV]
theorem binV_leq : binV .leq (.int k a) (.int k b) = some (.bool (decide (a ≤ b))) := by simp [binV]
theorem binV_gtr : binV .gtr (.int k a) (.int k b) = some (.bool (decide (a > b))) := by simp [binV]
theorem binV_geq : binV .geq (.int k a) (.int k b) = some (.bool (decide (a ≥ b))) := by simp [binV]
theorem binS_eql : binV .eql (.string s) (.string t) = some (.bool (s.toList == t.toList)) := rfl
theorem binS_neq : binV .neq (.string s) (.string t) = some (.bool !(s.toList == t.toList)) := rfl
theorem binS_lss : binV .lss (.string s) (.string t) = some (.bool (Op.bytesLess s.toList t.toList)) := rfl
theorem binS_leq : binV .leq (.string s) (.string t) = some (.bool (Op.bytesLess s.toList t.toList || s.toList == t.toList)) := rfl
theorem binS_gtr : binV .gtr (.string s) (.string t) = some (.bool !(Op.bytesLess s.toList t.toList || s.toList == t.toList)) := rfl
theorem binS_geq : binV .geq (.string s) (.string t) = some (.bool !(Op.bytesLess s.toList t.toList)) := rfl
end

set_option linter.defProp false in
/-- All the rules as one. -/
def AXR := And.intro @bd_some <|
  And.intro @br_true <|
  And.intro @br_false <|
  And.intro @wL_nil <|
  And.intro @wL_kp <|
  And.intro @wL_sc <|
  And.intro @wL_g <|
  And.intro @wL_kpS <|
  And.intro @wL_scS <|
  And.intro @wL_gS <|
  And.intro @wL_mov <|
  And.intro @wL_pick <|
  And.intro @wL_ld1 <|
  And.intro @wL_ldn <|
  And.intro @wL_fad <|
  And.intro @wL_iad <|
  And.intro @wL_slc <|
  And.intro @wL_ext <|
  And.intro @wL_bin <|
  And.intro @wL_eqb <|
  And.intro @wL_eqn <|
  And.intro @wL_eqa <|
  And.intro @wL_un <|
  And.intro @wL_len <|
  And.intro @wL_cap <|
  And.intro @wL_mm <|
  And.intro @wL_cvt <|
  And.intro @wL_bld <|
  And.intro @wL_fn <|
  And.intro @wL_nch <|
  And.intro @wL_call <|
  And.intro @ldOk_none <|
  And.intro @ldHeap_none <|
  And.intro @kpOk_none <|
  And.intro @ldOk_some <|
  And.intro @ldHeap_some <|
  And.intro @then_normal <|
  And.intro @then_exit <|
  And.intro @then_ret <|
  And.intro @inBlock_normal <|
  And.intro @inBlock_ret <|
  And.intro @inBlock_exit <|
  And.intro @endW_ret <|
  And.intro @endW_normal <|
  And.intro @evO_tmp <|
  And.intro @evO_const <|
  And.intro @evO_func <|
  And.intro @look_cons <|
  And.intro @keep_cons <|
  And.intro @keep_nil <|
  And.intro @kc_some <|
  And.intro @evOs_cons <|
  And.intro @evOs_nil <|
  And.intro @evOo_none <|
  And.intro @evOo_some <|
  And.intro @asB_bool <|
  And.intro @asI_int <|
  And.intro @asP_ptr <|
  And.intro @asSl_sl <|
  And.intro @extV_tuple <|
  And.intro @unV_not <|
  And.intro @lenV_sl <|
  And.intro @lenV_str <|
  And.intro @capV_sl <|
  And.intro @eqB_bool <|
  And.intro @cvtV_int <|
  And.intro @maxV_int <|
  And.intro @notB_ft <|
  And.intro @notB_tf <|
  And.intro @br_eqT <|
  And.intro @br_eqF <|
  And.intro @notB_undef <|
  And.intro @putE_some <|
  And.intro @putE_none <|
  And.intro @one_one <|
  And.intro @one_two <|
  And.intro @resV_nil <|
  And.intro @resV_tmp <|
  And.intro @resV_cell <|
  And.intro @envOf_nil <|
  And.intro @envOf_cons <|
  And.intro @fillL_nil <|
  And.intro @fillL_cons <|
  And.intro @putL_nil <|
  And.intro @putL_cons <|
  And.intro @binV_add <|
  And.intro @binV_sub <|
  And.intro @binV_mul <|
  And.intro @binV_eql <|
  And.intro @binV_neq <|
  And.intro @binV_lss <|
  And.intro @binV_leq <|
  And.intro @binV_gtr <|
  And.intro @binV_geq <|
  And.intro @binS_eql <|
  And.intro @binS_neq <|
  And.intro @binS_lss <|
  And.intro @binS_leq <|
  And.intro @binS_gtr <|
  @binS_geq
end Go.AX
