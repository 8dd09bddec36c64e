/-
  Words for the heap: what a heap keeps of an earlier one; cells behind new blocks and stores; slices that read as lists.
-/
import Derived.Test.YtefghfgmkndikaaF7
set_option linter.unusedSimpArgs false
set_option linter.unusedVariables false
namespace Go.AX
open Go

/-- h' has all of h's blocks, as they were. -/
structure Ext (h h' : Heap) : Prop where
  size : h.size ≤ h'.size
  at_ : ∀ b, b < h.size → h'[b]? = h[b]?

theorem Ext.refl (h : Heap) : Ext h h := ⟨Nat.le_refl _, fun _ _ => rfl⟩
theorem Ext.trans {a b c : Heap} (h : Ext a b) (k : Ext b c) : Ext a c := ⟨Nat.le_trans h.size k.size, fun i hi => (k.at_ i (Nat.lt_of_lt_of_le hi h.size)).trans (h.at_ i hi)⟩
theorem Ext.push {a h : Heap} (e : Ext a h) (o : Obj) : Ext a (h.push o) := e.trans ⟨by simp, fun b hb => by rw [Array.getElem?_push, if_neg (by omega)]⟩
theorem wr_size (h : Heap) (b o : Nat) (vs : List Value) : (wr h b o vs).size = h.size := by simp [wr]
theorem wr_other {h : Heap} {b o c : Nat} {vs : List Value} (hb : c ≠ b) : (wr h b o vs)[c]? = h[c]? := by
  simp only [wr, Array.getElem?_modify]
  rw [if_neg (by omega)]
theorem Ext.wr {a h : Heap} (e : Ext a h) {b : Nat} (hb : a.size ≤ b) (o : Nat) (vs : List Value) : Ext a (wr h b o vs) :=
  ⟨by rw [wr_size]; exact e.size, fun c hc => by rw [wr_other (by omega)]; exact e.at_ c hc⟩

theorem cel_at {h h' : Heap} {b : Nat} (hb : h'[b]? = h[b]?) (o : Nat) : cel h' b o = cel h b o := by unfold cel; rw [hb]
theorem rd_at' {h h' : Heap} {b : Nat} (hb : h'[b]? = h[b]?) : ∀ n o, rd h' b o n = rd h b o n
  | 0, _ => rfl
  | n + 1, o => by simp only [rd, cel_at hb, rd_at' hb n]
theorem Ext.cel {h h' : Heap} (e : Ext h h') {b : Nat} (hb : b < h.size) (o : Nat) : cel h' b o = cel h b o := cel_at (e.at_ b hb) o
theorem Ext.rd {h h' : Heap} (e : Ext h h') {b : Nat} (hb : b < h.size) (o n : Nat) : rd h' b o n = rd h b o n := rd_at' (e.at_ b hb) n o

theorem cel_push_lt {h : Heap} {b : Nat} (hb : b < h.size) (x : Obj) (o : Nat) : cel (h.push x) b o = cel h b o := cel_at (by rw [Array.getElem?_push, if_neg (by omega)]) o
theorem cel_push_eq {h : Heap} {b : Nat} (hb : b = h.size) (c : Array Value) (t : TypeId) (f : Nat × Nat) (o : Nat) : cel (h.push (.cells c t f)) b o = c[o]? := by
  subst hb; simp [cel]
theorem rd_push_lt {h : Heap} {b : Nat} (hb : b < h.size) (x : Obj) (o n : Nat) : rd (h.push x) b o n = rd h b o n := rd_at' (by rw [Array.getElem?_push, if_neg (by omega)]) n o
theorem cel_wr_ne {h : Heap} {b c : Nat} (hb : c ≠ b) (o k : Nat) (vs : List Value) : cel (wr h b o vs) c k = cel h c k := cel_at (wr_other hb) k
theorem rd_wr_ne {h : Heap} {b c : Nat} (hb : c ≠ b) (o k n : Nat) (vs : List Value) : rd (wr h b o vs) c k n = rd h c k n := rd_at' (wr_other hb) n k

theorem cel_lt {h : Heap} {b o : Nat} {v : Value} (hc : cel h b o = some v) : b < h.size := by
  unfold cel at hc
  rcases Nat.lt_or_ge b h.size with hl | hl
  · exact hl
  · rw [Array.getElem?_eq_none hl] at hc; cases hc

/-- A block of cells that may be written. -/
def Blk (h : Heap) (b : Nat) (t : TypeId) (l : List Value) : Prop := h[b]? = some (.cells l.toArray t (0, 0))
theorem Blk.lt {h : Heap} {b t : Nat} {l : List Value} (hb : Blk h b t l) : b < h.size := by
  unfold Blk at hb
  rcases Nat.lt_or_ge b h.size with hl | hl
  · exact hl
  · rw [Array.getElem?_eq_none hl] at hb; cases hb
theorem Blk.ext {h h' : Heap} {b t : Nat} {l : List Value} (hb : Blk h b t l) (e : Ext h h') : Blk h' b t l := (e.at_ b hb.lt).trans hb
theorem Blk.cel {h : Heap} {b t : Nat} {l : List Value} (hb : Blk h b t l) (o : Nat) : cel h b o = l[o]? := by
  unfold Blk at hb; simp [AX.cel, hb]
theorem Blk.push {h : Heap} {b t : Nat} {l : List Value} (hb : Blk h b t l) (x : Obj) : Blk (h.push x) b t l := hb.ext ((Ext.refl h).push x)
theorem Blk.new (h : Heap) (t : TypeId) (c : Array Value) : Blk (h.push (.cells c t)) h.size t c.toList := by simp [Blk]
theorem Blk.wr_ne {h : Heap} {b c t : Nat} {l : List Value} (hb : Blk h c t l) (hne : c ≠ b) (o : Nat) (vs : List Value) : Blk (wr h b o vs) c t l := (wr_other hne).trans hb
theorem patch_toList : ∀ (vs l : List Value) (o : Nat), (patch l.toArray o vs) = (putL l o vs).toArray
  | [], _, _ => rfl
  | v :: vs, l, o => by simp only [patch, putL, List.setIfInBounds_toArray, patch_toList vs]
theorem Blk.wr {h : Heap} {b t : Nat} {l : List Value} (hb : Blk h b t l) (o : Nat) (vs : List Value) : Blk (wr h b o vs) b t (putL l o vs) := by
  unfold Blk at hb ⊢
  simp [AX.wr, Array.getElem?_modify, hb, wrObj, patch_toList]
theorem Blk.wrOk {h : Heap} {b t : Nat} {l : List Value} (hb : Blk h b t l) {o : Nat} {vs : List Value} (hl : o + vs.length ≤ l.length) (h1 : ∀ v ∈ vs, v.oneCell' = true) : wrOk h b o vs :=
  ⟨_, _, hb, by simpa using hl, h1⟩

/-! ### Going into a region that draws -/
theorem drw_lt {P : Program} {is : List I} {Q : Env → Heap → Prop} {σ : Env} {h : Heap} (H : wL P (some ⟨(· < h.size), h⟩) is 0 Q σ h) : drwW P is Q σ h := ⟨_, fun _ hb => hb, H⟩
theorem drt_lt {P : Program} {t : L} {Q : Env → Heap → Prop} {σ : Env} {h : Heap} (H : wT P (some ⟨(· < h.size), h⟩) t Q σ h) : drtW P t Q σ h := ⟨_, fun _ hb => hb, H⟩
theorem kp_ext {h0 h h' : Heap} (hs : h0.size ≤ h.size) (e : Ext h h') : kpOk (some ⟨(· < h0.size), h0⟩) h h' := fun b hb => e.at_ b (Nat.lt_of_lt_of_le hb hs)
theorem kp_push {h0 h : Heap} (hs : h0.size ≤ h.size) (o : Obj) : kpOk (some ⟨(· < h0.size), h0⟩) h (h.push o) := kp_ext hs ((Ext.refl h).push o)
theorem kp_wr {h0 h : Heap} {b : Nat} (hb : h0.size ≤ b) (o : Nat) (vs : List Value) : kpOk (some ⟨(· < h0.size), h0⟩) h (wr h b o vs) := fun c hc => wr_other (by have : c < h0.size := hc; omega)

theorem cells_agg (c : Array Value) : (Value.agg c).cells = c := rfl
theorem cells_int (k : IntKind) (n : Int) : (Value.int k n).cells = #[.int k n] := rfl
theorem cells_bool (b : Bool) : (Value.bool b).cells = #[.bool b] := rfl
theorem cells_string (s : ByteArray) : (Value.string s).cells = #[.string s] := rfl
theorem cells_slice (a : Option Addr) (n c : Nat) : (Value.slice a n c).cells = #[.slice a n c] := rfl
theorem cells_pointer (a : Option Addr) : (Value.pointer a).cells = #[.pointer a] := rfl

/-! ### Boxes, stores -/
/-- h' is h but for block b. -/
structure Upd (b : Nat) (h h' : Heap) : Prop where
  size : h'.size = h.size
  ne : ∀ c, c ≠ b → h'[c]? = h[c]?
theorem Upd.blk {b : Nat} {h h' : Heap} (u : Upd b h h') {c t : Nat} {l : List Value} (B : Blk h c t l) (hc : c ≠ b) : Blk h' c t l := (u.ne c hc).trans B
theorem Upd.ext {b : Nat} {a h h' : Heap} (u : Upd b h h') (e : Ext a h) (hb : a.size ≤ b) : Ext a h' := ⟨by rw [u.size]; exact e.size, fun c hc => (u.ne c (by omega)).trans (e.at_ c hc)⟩
theorem Upd.cel {b : Nat} {h h' : Heap} (u : Upd b h h') {c : Nat} (hc : c ≠ b) (o : Nat) : cel h' c o = cel h c o := cel_at (u.ne c hc) o
theorem Upd.rd {b : Nat} {h h' : Heap} (u : Upd b h h') {c : Nat} (hc : c ≠ b) (o n : Nat) : rd h' c o n = rd h c o n := rd_at' (u.ne c hc) n o
theorem Upd.of_wr (h : Heap) (b o : Nat) (vs : List Value) : Upd b h (wr h b o vs) := ⟨wr_size h b o vs, fun _ hc => wr_other hc⟩

section
variable {P : Program} {C : Env → Heap → Prop} {σ : Env} {h h0 : Heap} {r : List I}
theorem wL_boxN {d t : Nat} {x : Operand} {v : Value} (hx : evO σ x = some v) (H : ∀ b h', Ext h h' → h'.size = h.size + 1 → b = h.size → Blk h' b t v.cells.toList → wL P none r 0 C ((d, ptr b 0) :: σ) h') :
    wL P none (.op (.box d t x) :: r) 0 C σ h := by
  rw [wL_box, hx, bd_some, kpOk_none, true_and]
  exact H _ _ ((Ext.refl h).push _) (by simp) rfl (Blk.new h t _)
theorem wL_boxD {d t : Nat} {x : Operand} {v : Value} (hx : evO σ x = some v) (hs : h0.size ≤ h.size) (H : ∀ b h', Ext h h' → h'.size = h.size + 1 → b = h.size → Blk h' b t v.cells.toList → wL P (some ⟨(· < h0.size), h0⟩) r 0 C ((d, ptr b 0) :: σ) h') :
    wL P (some ⟨(· < h0.size), h0⟩) (.op (.box d t x) :: r) 0 C σ h := by
  rw [wL_box, hx, bd_some]
  exact ⟨kp_push hs _, H _ _ ((Ext.refl h).push _) (by simp) rfl (Blk.new h t _)⟩
theorem wL_newN {d t : Nat} {z : List Value} (H : ∀ b h', Ext h h' → h'.size = h.size + 1 → b = h.size → Blk h' b t z → wL P none r 0 C ((d, ptr b 0) :: σ) h') :
    wL P none (.op (.new d t z) :: r) 0 C σ h := by
  rw [wL_new, kpOk_none, true_and]
  exact H _ _ ((Ext.refl h).push _) (by simp) rfl (Blk.new h t _)
theorem wL_newD {d t : Nat} {z : List Value} (hs : h0.size ≤ h.size) (H : ∀ b h', Ext h h' → h'.size = h.size + 1 → b = h.size → Blk h' b t z → wL P (some ⟨(· < h0.size), h0⟩) r 0 C ((d, ptr b 0) :: σ) h') :
    wL P (some ⟨(· < h0.size), h0⟩) (.op (.new d t z) :: r) 0 C σ h := by
  rw [wL_new]
  exact ⟨kp_push hs _, H _ _ ((Ext.refl h).push _) (by simp) rfl (Blk.new h t _)⟩
theorem wL_bslN {d t n : Nat} {z cs : List Value} {parts : List (Nat × Nat × Operand)} (hx : fillL σ z parts = some cs) (H : ∀ b h', Ext h h' → h'.size = h.size + 1 → b = h.size → Blk h' b t cs → wL P none r 0 C ((d, sl b 0 n n) :: σ) h') :
    wL P none (.op (.bsl d t n z parts) :: r) 0 C σ h := by
  rw [wL_bsl, hx, bd_some, kpOk_none, true_and]
  exact H _ _ ((Ext.refl h).push _) (by simp) rfl (Blk.new h t _)
theorem wL_bslD {d t n : Nat} {z cs : List Value} {parts : List (Nat × Nat × Operand)} (hx : fillL σ z parts = some cs) (hs : h0.size ≤ h.size) (H : ∀ b h', Ext h h' → h'.size = h.size + 1 → b = h.size → Blk h' b t cs → wL P (some ⟨(· < h0.size), h0⟩) r 0 C ((d, sl b 0 n n) :: σ) h') :
    wL P (some ⟨(· < h0.size), h0⟩) (.op (.bsl d t n z parts) :: r) 0 C σ h := by
  rw [wL_bsl, hx, bd_some]
  exact ⟨kp_push hs _, H _ _ ((Ext.refl h).push _) (by simp) rfl (Blk.new h t _)⟩
theorem wL_stN {n : Nat} {x v : Operand} {b o t : Nat} {u : Value} {l : List Value} (hx : evO σ x = some (ptr b o)) (hv : evO σ v = some u) (hn : u.cells.size = n) (B : Blk h b t l) (hl : o + n ≤ l.length) (h1 : ∀ v ∈ u.cells.toList, v.oneCell' = true)
    (H : ∀ h', Upd b h h' → Blk h' b t (putL l o u.cells.toList) → wL P none r 0 C σ h') : wL P none (.op (.st n x v) :: r) 0 C σ h := by
  rw [wL_st, hx, bd_some, asP_ptr, bd_some, hv, bd_some]
  exact ⟨hn, B.wrOk (by simp [hn]; exact hl) h1, trivial, H _ (Upd.of_wr h b o _) (B.wr o _)⟩
theorem wL_stD {p : Nat → Prop} {n : Nat} {x v : Operand} {b o t : Nat} {u : Value} {l : List Value} (hx : evO σ x = some (ptr b o)) (hv : evO σ v = some u) (hp : ¬ p b) (hn : u.cells.size = n) (B : Blk h b t l) (hl : o + n ≤ l.length) (h1 : ∀ v ∈ u.cells.toList, v.oneCell' = true)
    (H : ∀ h', Upd b h h' → Blk h' b t (putL l o u.cells.toList) → wL P (some ⟨p, h0⟩) r 0 C σ h') : wL P (some ⟨p, h0⟩) (.op (.st n x v) :: r) 0 C σ h := by
  rw [wL_st, hx, bd_some, asP_ptr, bd_some, hv, bd_some]
  exact ⟨hn, B.wrOk (by simp [hn]; exact hl) h1, fun c hc => wr_other (by rintro rfl; exact hp hc), H _ (Upd.of_wr h b o _) (B.wr o _)⟩
end

/-! ### Loops -/
theorem loop_in {P : Program} {B : C} {id : Nat} {M : Env → Heap → Prop} {Q : X → Env → Heap → Prop} {σ : Env} {h : Heap} (Inv : Nat → Env → Heap → Prop) (n : Nat) (h0 : Inv n σ h)
    (H : ∀ n σ h, Inv n σ h → ∀ Q' : X → Env → Heap → Prop, (∀ n' σ' h', n' < n → Inv n' σ' h' → Q' .normal σ' h') → (∀ σ' h', M σ' h' → Q' (.exit id) σ' h') → (∀ σ' h', Q .ret σ' h' → Q' .ret σ' h') →
      (∀ i σ' h', i ≠ id → Q (.exit i) σ' h' → Q' (.exit i) σ' h') → wC P B Q' σ h) :
    loopW (wC P B) (X.inBlock id (X.then M Q)) σ h := by
  refine ⟨Inv, n, h0, fun n σ h hI => H n σ h hI _ ?_ ?_ ?_ ?_⟩
  · intro n' σ' h' hn hI'; exact ⟨n', hn, hI'⟩
  · intro σ' h' hM; show (if id = id then M σ' h' else _); rw [if_pos rfl]; exact hM
  · intro σ' h' hq; exact hq
  · intro i σ' h' hi hq
    show (if i = id then M σ' h' else Q (.exit i) σ' h')
    rw [if_neg hi]; exact hq
set_option linter.defProp false in
/-- Lemmas of the library that every step uses. -/
def AXB := And.intro @cond_true.{1} <|
  And.intro @cond_false.{1} <|
  And.intro @eq_self.{1} <|
  And.intro @List.take_succ_cons.{0} <|
  And.intro @List.take_zero.{0} <|
  And.intro @List.drop_succ_cons.{0} <|
  And.intro @List.drop_zero.{0} <|
  And.intro @Option.bind_some.{0, 0} <|
  And.intro @Option.map_some.{0, 0} <|
  And.intro @List.length_cons.{0} <|
  And.intro @List.length_nil.{0} <|
  And.intro @List.getElem?_cons_zero.{0} <|
  And.intro @List.getElem?_cons_succ.{0} <|
  And.intro @List.size_toArray.{0} <|
  And.intro @Int.toNat_natCast <|
  And.intro @Bool.not_true <|
  And.intro @Bool.not_false <|
  And.intro @true_and <|
  And.intro @and_true <|
  And.intro @beq_self_eq_true.{0} <|
  And.intro @bne_self_eq_false.{0} <|
  And.intro @cells_agg <|
  And.intro @cells_int <|
  And.intro @cells_bool <|
  And.intro @cells_string <|
  And.intro @cells_slice <|
  And.intro @cells_pointer <|
  And.intro @List.getElem_toArray.{0} <|
  And.intro @List.getElem_cons_zero.{0} <|
  And.intro @List.getElem_cons_succ.{0} <|
  And.intro @List.getElem?_toArray.{0} <|
  And.intro @List.set_cons_zero.{0} <|
  And.intro @List.set_cons_succ.{0} <|
  @List.length_set.{0}
end Go.AX
