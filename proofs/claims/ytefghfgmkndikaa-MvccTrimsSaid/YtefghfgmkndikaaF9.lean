/-
  Words for memory: rows of cells, slices of the call's own, append.
-/
import Derived.Test.YtefghfgmkndikaaF8
import Derived.Maps.AppendAt
set_option linter.unusedSimpArgs false
set_option linter.unusedVariables false
namespace Go.AX
open Go

/-! ### Rows of cells -/
/-- From place o of block b on lie these cells. -/
def Row (h : Heap) (b o : Nat) (l : List Value) : Prop := ∀ j, j < l.length → cel h b (o + j) = l[j]?

theorem Row.nil (h : Heap) (b o : Nat) : Row h b o [] := fun j hj => by simp at hj
theorem Row.cel {h : Heap} {b o : Nat} {l : List Value} (r : Row h b o l) (j : Nat) (hj : j < l.length) : cel h b (o + j) = l[j]? := r j hj
theorem Row.cel0 {h : Heap} {b o : Nat} {l : List Value} (r : Row h b o l) (hj : 0 < l.length) : AX.cel h b o = l[0]? := r 0 hj
theorem rd_eq {h : Heap} {b : Nat} : ∀ (n o : Nat) (l : List Value), l.length = n → Row h b o l → rd h b o n = some l
  | 0, o, l, hl, _ => by
    have : l = [] := List.eq_nil_of_length_eq_zero hl
    subst this; rfl
  | n + 1, o, [], hl, _ => by simp at hl
  | n + 1, o, v :: l, hl, r => by
    have h0 : AX.cel h b o = some v := by simpa using r 0 (by simp)
    have ih := rd_eq n (o + 1) l (by simpa using hl) (fun j hj => by
      have := r (j + 1) (by simpa using hj)
      rw [show o + 1 + j = o + (j + 1) by omega, this]; simp)
    simp [AX.rd, h0, ih]
theorem Row.sub {h : Heap} {b o : Nat} {l : List Value} (r : Row h b o l) (j m : Nat) : Row h b (o + j) ((l.drop j).take m) := fun k hk => by
  simp only [List.length_take, List.length_drop] at hk
  have hk1 : k < m := by omega
  rw [Nat.add_assoc, r (j + k) (by omega), List.getElem?_take, if_pos hk1, List.getElem?_drop]
theorem Row.rd {h : Heap} {b o : Nat} {l : List Value} (r : Row h b o l) (j m : Nat) (hj : j + m ≤ l.length) : rd h b (o + j) m = some ((l.drop j).take m) :=
  rd_eq m (o + j) _ (by simp; omega) (r.sub j m)
theorem Row.rd0 {h : Heap} {b o : Nat} {l : List Value} (r : Row h b o l) (m : Nat) (hj : m ≤ l.length) : AX.rd h b o m = some (l.take m) := by
  have := r.rd 0 m (by omega); simpa using this
theorem Row.of_rd {h : Heap} {b o n : Nat} {l : List Value} (hr : AX.rd h b o n = some l) : l.length = n ∧ Row h b o l := by
  obtain ⟨h1, h2⟩ := rd_at hr
  exact ⟨h1, fun j hj => by rw [h2 j l[j] (List.getElem?_eq_getElem hj), List.getElem?_eq_getElem hj]⟩
theorem Row.at_ {h h' : Heap} {b o : Nat} {l : List Value} (r : Row h b o l) (hb : h'[b]? = h[b]?) : Row h' b o l := fun j hj => (cel_at hb (o + j)).trans (r j hj)
theorem Row.lt {h : Heap} {b o : Nat} {l : List Value} (r : Row h b o l) (hl : 0 < l.length) : b < h.size := by
  have := r 0 hl
  rw [List.getElem?_eq_getElem hl] at this
  exact cel_lt this
theorem Row.ext {h h' : Heap} {b o : Nat} {l : List Value} (r : Row h b o l) (e : Ext h h') : Row h' b o l := by
  by_cases hl : 0 < l.length
  · exact r.at_ (e.at_ b (r.lt hl))
  · have : l = [] := List.eq_nil_of_length_eq_zero (by omega)
    subst this; exact Row.nil _ _ _
theorem Blk.row {h : Heap} {b t : Nat} {l : List Value} (B : Blk h b t l) : Row h b 0 l := fun j _ => by rw [Nat.zero_add, B.cel]
theorem Blk.rd {h : Heap} {b t : Nat} {l : List Value} (B : Blk h b t l) (o m : Nat) (hj : o + m ≤ l.length) : AX.rd h b o m = some ((l.drop o).take m) := by
  have := B.row.rd o m hj; simpa using this
theorem Row.append {h : Heap} {b o : Nat} {l m : List Value} (r : Row h b o l) (s : Row h b (o + l.length) m) : Row h b o (l ++ m) := fun j hj => by
  by_cases hlt : j < l.length
  · rw [r j hlt, List.getElem?_append_left hlt]
  · rw [List.length_append] at hj
    have := s (j - l.length) (by omega)
    rw [show o + j = o + l.length + (j - l.length) by omega, this, List.getElem?_append_right (by omega)]

/-! ### Slices of the call's own -/
/-- h' is h but for new blocks and for block row, if that is named. -/
structure Gr (row : Option Nat) (h h' : Heap) : Prop where
  size : h.size ≤ h'.size
  at_ : ∀ k, k < h.size → some k ≠ row → h'[k]? = h[k]?
def ob (a : Option Addr) : Option Nat := a.map (·.block)

theorem Gr.ext {row : Option Nat} {a h h' : Heap} (g : Gr row h h') (e : Ext a h) (hr : ∀ k, row = some k → a.size ≤ k) : Ext a h' :=
  ⟨Nat.le_trans e.size g.size, fun b hb => (g.at_ b (Nat.lt_of_lt_of_le hb e.size) (fun he => by have := hr b he.symm; omega)).trans (e.at_ b hb)⟩
theorem Gr.row {row : Option Nat} {h h' : Heap} (g : Gr row h h') {b o : Nat} {l : List Value} (r : Row h b o l) (hb : some b ≠ row) : Row h' b o l := by
  by_cases hl : 0 < l.length
  · exact r.at_ (g.at_ b (r.lt hl) hb)
  · have : l = [] := List.eq_nil_of_length_eq_zero (by omega)
    subst this; exact Row.nil _ _ _
theorem Gr.blk {row : Option Nat} {h h' : Heap} (g : Gr row h h') {b t : Nat} {l : List Value} (B : Blk h b t l) (hb : some b ≠ row) : Blk h' b t l := (g.at_ b B.lt hb).trans B
theorem Ext.gr {h h' : Heap} (e : Ext h h') (row : Option Nat) : Gr row h h' := ⟨e.size, fun k hk _ => e.at_ k hk⟩
theorem Upd.gr {b : Nat} {h h' : Heap} (u : Upd b h h') : Gr (some b) h h' := ⟨by rw [u.size]; exact Nat.le_refl _, fun k _ hk => u.ne k (fun e => hk (by rw [e]))⟩
theorem Gr.trans {row : Option Nat} {a b c : Heap} (g : Gr row a b) (k : Gr row b c) : Gr row a c := ⟨Nat.le_trans g.size k.size, fun i hi hr => (k.at_ i (Nat.lt_of_lt_of_le hi g.size) hr).trans (g.at_ i hi hr)⟩

/-- A slice (address a, n elements of s cells of type e, capacity c) that owns its row: these cells; its block is one from lo on. -/
def Own (lo : Nat) (h : Heap) (e s : Nat) (a : Option Addr) (n c : Nat) (xs : List Value) : Prop :=
  xs.length = n * s ∧ ((a = none ∧ n = 0 ∧ c = 0) ∨
    ∃ g cur, a = some ⟨g, 0, none⟩ ∧ lo ≤ g ∧ h[g]? = some (.cells cur e (0, 0)) ∧ n ≤ c ∧ c ≤ maxLen ∧ cur.size = c * s ∧ cur.toList.take (n * s) = xs)

theorem Own.nil (lo : Nat) (h : Heap) (e s : Nat) : Own lo h e s none 0 0 [] := ⟨by simp, .inl ⟨rfl, rfl, rfl⟩⟩
theorem Own.mono {lo lo' : Nat} {h : Heap} {e s : Nat} {a : Option Addr} {n c : Nat} {xs : List Value} (o : Own lo h e s a n c xs) (hl : lo' ≤ lo) : Own lo' h e s a n c xs := by
  refine ⟨o.1, o.2.imp id ?_⟩
  rintro ⟨g, cur, h1, h2, h3⟩
  exact ⟨g, cur, h1, Nat.le_trans hl h2, h3⟩
theorem Own.ob {lo : Nat} {h : Heap} {e s : Nat} {a : Option Addr} {n c : Nat} {xs : List Value} (o : Own lo h e s a n c xs) : ∀ k, ob a = some k → lo ≤ k ∧ k < h.size := by
  intro k hk
  rcases o.2 with ⟨rfl, _⟩ | ⟨g, cur, rfl, h1, h2, _⟩
  · cases hk
  · cases hk
    refine ⟨h1, ?_⟩
    rcases Nat.lt_or_ge g h.size with hl | hl
    · exact hl
    · rw [Array.getElem?_eq_none hl] at h2; cases h2
theorem Own.gr {lo : Nat} {h h' : Heap} {e s : Nat} {a : Option Addr} {n c : Nat} {xs : List Value} (o : Own lo h e s a n c xs) {row : Option Nat} (g : Gr row h h') (hr : ∀ k, AX.ob a = some k → row ≠ some k) : Own lo h' e s a n c xs := by
  have hob := o.ob
  refine ⟨o.1, o.2.imp id ?_⟩
  rintro ⟨b, cur, rfl, h1, h2, h3⟩
  exact ⟨b, cur, rfl, h1, by rw [g.at_ b (hob b rfl).2 (fun e => hr b rfl e.symm)]; exact h2, h3⟩
theorem Own.ext {lo : Nat} {h h' : Heap} {e s : Nat} {a : Option Addr} {n c : Nat} {xs : List Value} (o : Own lo h e s a n c xs) (x : Ext h h') : Own lo h' e s a n c xs := o.gr (x.gr none) (fun _ _ h => by cases h)
/-- Where it is not empty, it has an address, and its cells lie there. -/
theorem Own.row {lo : Nat} {h : Heap} {e s : Nat} {a : Option Addr} {n c : Nat} {xs : List Value} (o : Own lo h e s a n c xs) (hn : 0 < n) : ∃ g, a = some ⟨g, 0, none⟩ ∧ lo ≤ g ∧ Row h g 0 xs := by
  rcases o.2 with ⟨_, h0, _⟩ | ⟨g, cur, rfl, h1, h2, h3, h4, h5, h6⟩
  · omega
  · refine ⟨g, rfl, h1, fun j hj => ?_⟩
    rw [← h6] at hj ⊢
    simp only [List.length_take] at hj
    rw [List.getElem?_take, if_pos (by omega)]
    simp [AX.cel, h2]

theorem own_iff (w : World) (lo e s : Nat) (a : Option Addr) (n c : Nat) (xs : List Value) (h : Own lo w.heap e s a n c xs) : w.ownsRow lo e s (.slice a n c) n xs := by
  refine ⟨h.1, ?_⟩
  rcases h.2 with ⟨rfl, rfl, rfl⟩ | ⟨g, cur, rfl, h1, h2, h3⟩
  · exact .inl ⟨rfl, rfl⟩
  · exact .inr ⟨g, c, cur, rfl, h1, h2, h3⟩
theorem own_of (w : World) (lo e s : Nat) (v : Value) (n : Nat) (xs : List Value) (h : w.ownsRow lo e s v n xs) : ∃ a c, v = .slice a n c ∧ Own lo w.heap e s a n c xs := by
  rcases h.2 with ⟨rfl, rfl⟩ | ⟨g, c, cur, rfl, h1, h2, h3⟩
  · exact ⟨none, 0, rfl, h.1, .inl ⟨rfl, rfl, rfl⟩⟩
  · exact ⟨_, c, rfl, h.1, .inr ⟨g, cur, rfl, h1, h2, h3⟩⟩

/-- t is a slice type over e, whose elements have s cells, bytes bytes. -/
def slT (P : Program) (t e s bytes : Nat) : Bool :=
  match P.underlying t, P.info? e with
  | some (.slice e'), some i => e' == e && i.size == s && i.bytes == bytes && (match i.zero with | some z => z.cells.size == s | none => false) && decide (0 < s)
  | _, _ => false
theorem slT_spec {P : Program} {t e s bytes : Nat} (h : slT P t e s bytes = true) :
    ∃ i z, P.underlying t = some (.slice e) ∧ P.info? e = some i ∧ i.zero = some z ∧ i.size = s ∧ i.bytes = bytes ∧ z.cells.size = s ∧ 0 < s := by
  unfold slT at h
  split at h
  · rename_i e' i hu hi
    simp only [Bool.and_eq_true, beq_iff_eq, decide_eq_true_eq] at h
    obtain ⟨⟨⟨⟨rfl, h2⟩, h3⟩, h4⟩, h5⟩ := h
    split at h4
    · rename_i z hz
      exact ⟨i, z, hu, hi, hz, h2, h3, by simpa using h4, h5⟩
    · cases h4
  · cases h

/-- 'append(x, y...)', x a slice of the call's own, y any slice that reads as these cells. -/
theorem raw_append {P : Program} {o : Oper} {σ : Env} {h : Heap} {K : Value → Heap → Prop} {x y : Operand} {t e s bytes : Nat} (hT : slT P t e s bytes = true)
    (ho : o.op = .call ⟨.builtin .append, #[x, y], #[t, t]⟩) {a a2 : Option Addr} {n c n2 c2 lo : Nat} {xs news : List Value}
    (hx : evO σ x = some (.slice a n c)) (hy : evO σ y = some (.slice a2 n2 c2)) (O : Own lo h e s a n c xs) (hl : news.length = n2 * s)
    (hr : n2 = 0 ∨ ∃ b q, a2 = some ⟨b, q, none⟩ ∧ Row h b q news) (h1 : ∀ v ∈ news, v.oneCell' = true) (hlen : n + n2 ≤ maxLen) (hb : (n + n2) * bytes ≤ 140737488355328) (hlo : lo ≤ h.size)
    (H : ∀ a' c' h', Own lo h' e s a' (n + n2) c' (xs ++ news) → Gr (ob a) h h' → (ob a' = ob a ∨ ∃ k, ob a' = some k ∧ h.size ≤ k) → K (.slice a' (n + n2) c') h') : RawW P o σ h K := by
  obtain ⟨i, z, hu, hi, hz, hs, hby, hzs, hsp⟩ := slT_spec hT
  refine ⟨?_, ?_, ?_⟩
  · rw [ho]; intro u hu'
    simp only [Op.operands, Call.operands, Array.mem_append, List.mem_toArray, List.mem_cons, List.not_mem_nil, or_false, false_or] at hu'
    rcases hu' with rfl | rfl
    · rw [hx]; rfl
    · rw [hy]; rfl
  · rw [ho]; intro cs b hh; cases hh
  · intro w hw
    subst hw
    have hown := own_iff w lo e s a n c xs O
    have key : ∃ v' w', (Builtin.append_ #[t, t] o.type #[.slice a n c, .slice a2 n2 c2]).run P w = .ok v' w' ∧ w'.ownsRow lo e s v' (n + n2) (xs ++ news) ∧ w.grownBy w' (Value.slice a n c).ownBlock ∧ (v'.ownBlock = (Value.slice a n c).ownBlock ∨ v'.ownBlock = some w.heap.size) := by
      rcases hr with rfl | ⟨b, q, rfl, r⟩
      · have hn : news = [] := List.eq_nil_of_length_eq_zero (by simpa using hl)
        subst hn
        cases a2 with
        | some ad =>
          obtain ⟨v', w', h1, h2, h3, _, h5⟩ := run_append_own_at (P := P) w lo t o.type e i z s bytes hu hi hz hs hby hzs hsp _ n xs hown ad 0 c2 [] (by simp) (fun j u hj => by simp at hj) h1 hlen hb hlo
          exact ⟨v', w', h1, h2, h3, h5⟩
        | none =>
          refine ⟨.slice a n c, w, ?_, by simpa using hown, World.grownBy.refl w _, .inl rfl⟩
          have hnc : n ≤ c := by
            rcases O.2 with ⟨_, h1, h2⟩ | ⟨g, cur, _, _, _, h1, _⟩ <;> omega
          cases a with
          | none => simp [Builtin.append_, run_underlying hu, sizeOf, typeInfo, hi, Builtin.lenOf, Builtin.firstCells, hnc]
          | some ad => simp [Builtin.append_, run_underlying hu, sizeOf, typeInfo, hi, Builtin.lenOf, Builtin.firstCells, hnc, storeCells]
      · obtain ⟨v', w', h1, h2, h3, _, h5⟩ := run_append_own_at (P := P) w lo t o.type e i z s bytes hu hi hz hs hby hzs hsp _ n xs hown ⟨b, q, none⟩ n2 c2 news hl (fun j u hj => by
          have hjl : j < news.length := by
            rcases Nat.lt_or_ge j news.length with hlt | hlt
            · exact hlt
            · rw [List.getElem?_eq_none hlt] at hj; cases hj
          rw [add_mk, cel_cell, r j hjl]; exact hj) h1 hlen hb hlo
        exact ⟨v', w', h1, h2, h3, h5⟩
    obtain ⟨v', w', hrun, hown', hg, hat⟩ := key
    obtain ⟨a', c', rfl, O'⟩ := own_of w' lo e s v' (n + n2) (xs ++ news) hown'
    have hobs : (Value.slice a n c).ownBlock = ob a := by cases a <;> rfl
    have hg' : Gr (ob a) w.heap w'.heap := ⟨hg.size, fun k hk hne => hg.block k hk (by rw [hobs]; exact hne)⟩
    refine ⟨.value (.slice a' (n + n2) c'), _, w', ?_, rfl, ⟨hg.os, hg.tape, hg.output⟩, H a' c' w'.heap O' hg' ?_⟩
    · simp only [execOp, ho, resolve, invoke, builtin, Sem.run_bind, Sem.run_pure, Result.andThen_ok, List.map_toArray, List.map_cons, List.map_nil, hx, hy, Option.getD_some, hrun]
    · have hob' : (Value.slice a' (n + n2) c').ownBlock = ob a' := by cases a' <;> rfl
      rw [hob', hobs] at hat
      rcases hat with e | e
      · exact .inl e
      · exact .inr ⟨_, e, Nat.le_refl _⟩

end Go.AX
