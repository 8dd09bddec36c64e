/-
  The small instruction language: what it says of an operation is what the model does.
-/
import Derived.Test.YtefghfgmkndikaaF1
import Derived.Deep.LoopGhost
set_option linter.unusedSimpArgs false
set_option linter.unusedVariables false
namespace Go.AX
open Go

/-! ### The frame and the partial environment -/

structure Agr (n : Nat) (σ : Env) (a : Act) : Prop where
  size : a.tmps.size = n
  defers : a.defers = []
  at_ : ∀ s v, look σ s = some v → a.tmps[s]? = some v

theorem Agr.eval {n : Nat} {σ : Env} {a : Act} (h : Agr n σ a) {x : Operand} {v : Value} (hx : evO σ x = some v) : a.eval x = v := by
  cases x with
  | tmp t =>
    have := h.at_ t v hx
    simp [Act.eval, Array.getD_eq_getD_getElem?, this]
  | const u => simpa [evO, Act.eval] using hx
  | global g => simpa [evO, Act.eval] using hx
  | func f => simpa [evO, Act.eval] using hx

theorem Agr.evals {n : Nat} {σ : Env} {a : Act} (h : Agr n σ a) : ∀ {xs : List Operand} {vs : List Value}, evOs σ xs = some vs → xs.map a.eval = vs
  | [], vs, hx => by simpa [evOs] using hx
  | x :: xs, vs, hx => by
    simp only [evOs, Option.bind_eq_some_iff, Option.map_eq_some_iff] at hx
    obtain ⟨v, hv, us, hus, rfl⟩ := hx
    simp [h.eval hv, Agr.evals h hus]

theorem Agr.evalo {n : Nat} {σ : Env} {a : Act} (h : Agr n σ a) {x : Option Operand} {v : Option Value} (hx : evOo σ x = some v) : x.map a.eval = v := by
  cases x with
  | none => simpa [evOo] using hx
  | some x =>
    simp only [evOo, Option.map_eq_some_iff] at hx
    obtain ⟨u, hu, rfl⟩ := hx
    simp [h.eval hu]

theorem Agr.put {n : Nat} {σ : Env} {a : Act} (h : Agr n σ a) {d : Option Nat} (hd : ∀ k, d = some k → k < n) (v : Value) : Agr n (putE σ d v) (a.put d v) := by
  cases d with
  | none => exact h
  | some d =>
    have hdn := hd d rfl
    refine ⟨by simp [Act.put, h.size], h.defers, fun s u hs => ?_⟩
    simp only [putE, look] at hs
    split at hs
    · rename_i e
      subst e
      cases hs
      simp [Act.put, h.size, hdn]
    · rename_i e
      simp only [Act.put]
      rw [Array.getElem?_setIfInBounds_ne (by omega)]
      exact h.at_ s u hs

theorem Agr.keep {n : Nat} {σ : Env} {a : Act} (h : Agr n σ a) (l : List Nat) : Agr n (keep l σ) a :=
  ⟨h.size, h.defers, fun s v hs => h.at_ s v (look_keep l σ s v hs)⟩

theorem Agr.same {n : Nat} {σ : Env} {a : Act} (h : Agr n σ a) {c : Nat} {v : Value} (hc : look σ c = some v) : Agr n ((c, v) :: σ) a :=
  ⟨h.size, h.defers, fun s u hs => by
    simp only [look] at hs
    split at hs
    · rename_i e; subst e; cases hs; exact h.at_ _ _ hc
    · exact h.at_ s u hs⟩

/-! ### Cells -/

theorem cel_cell (w : World) (b o : Nat) : w.cell? ⟨b, o, none⟩ = cel w.heap b o := by
  unfold World.cell? cel
  split <;> simp_all

theorem add_mk (b o n : Nat) : (⟨b, o, none⟩ : Addr).add n = ⟨b, o + n, none⟩ := by
  unfold Addr.add
  split
  · subst_vars; rfl
  · rfl

theorem rd_at {h : Heap} {b : Nat} : ∀ {n o : Nat} {l : List Value}, rd h b o n = some l → l.length = n ∧ ∀ j v, l[j]? = some v → cel h b (o + j) = some v
  | 0, o, l, hl => by simp only [rd, Option.some.injEq] at hl; subst hl; simp
  | n + 1, o, l, hl => by
    simp only [rd, Option.bind_eq_some_iff, Option.map_eq_some_iff] at hl
    obtain ⟨v, hv, vs, hvs, rfl⟩ := hl
    obtain ⟨h1, h2⟩ := rd_at hvs
    refine ⟨by simp [h1], fun j u hj => ?_⟩
    cases j with
    | zero => simp at hj; subst hj; simpa using hv
    | succ j =>
      have := h2 j u (by simpa using hj)
      rw [← this]; congr 1; omega

theorem run_loadCells_rd {P : Program} (w : World) {b o n : Nat} {l : List Value} (h : rd w.heap b o n = some l) :
    (loadCells ⟨b, o, none⟩ n).run P w = .ok l.toArray w := by
  obtain ⟨h1, h2⟩ := rd_at h
  subst h1
  exact run_loadCells_list w _ l fun j v hj => by rw [add_mk, cel_cell]; exact h2 j v hj

theorem cel_of_heapOk {m : Option Md} {h hp : Heap} (hk : heapOk m h hp) {b : Nat} (hb : ldOk m b) (o : Nat) : cel hp b o = cel (ldHeap m h) b o := by
  cases m with
  | none => have e : hp = h := hk; subst e; rfl
  | some m => unfold cel; rw [hk b hb]; rfl

theorem rd_of_heapOk {m : Option Md} {h hp : Heap} (hk : heapOk m h hp) {b : Nat} (hb : ldOk m b) : ∀ (n o : Nat), rd hp b o n = rd (ldHeap m h) b o n
  | 0, _ => rfl
  | n + 1, o => by simp only [rd, cel_of_heapOk hk hb, rd_of_heapOk hk hb n]

theorem patch_size : ∀ (vs : List Value) (c : Array Value) (o : Nat), (patch c o vs).size = c.size
  | [], _, _ => rfl
  | v :: vs, c, o => by simp [patch, patch_size vs]

theorem run_storeCells_wr {P : Program} : ∀ (vs : List Value) (i b o : Nat) (w : World), wrOk w.heap b (o + i) vs →
    (storeCells ⟨b, o, none⟩ vs i).run P w = .ok () { w with heap := wr w.heap b (o + i) vs }
  | [], i, b, o, w, _ => by
    simp only [storeCells, Sem.run_pure, wr]
    have : w.heap.modify b (wrObj (o + i) []) = w.heap := by
      apply Array.ext_getElem?
      intro k
      rw [Array.getElem?_modify]
      split
      · cases w.heap[k]? with
        | none => rfl
        | some x => cases x <;> rfl
      · rfl
    rw [this]
  | v :: vs, i, b, o, w, ⟨c, t, hc, hl, h1⟩ => by
    have hi : o + i < c.size := by simp at hl; omega
    have hcell : w.cell? ⟨b, o + i, none⟩ = some c[o + i] := by simp [World.cell?, hc, hi]
    have hfro : w.frozen? ⟨b, o + i, none⟩ = false := by simp [World.frozen?, hc]
    have hset : w.setCell ⟨b, o + i, none⟩ v = { w with heap := wr w.heap b (o + i) [v] } := by
      unfold World.setCell wr
      congr 1
    have hst : (store ((⟨b, o, none⟩ : Addr).add i) v).run P w = .ok () { w with heap := wr w.heap b (o + i) [v] } := by
      rw [add_mk, run_store P w _ v _ (h1 v (by simp)), hcell]
      simp [hfro, hset]
    simp only [storeCells, Sem.run_bind, hst, Result.andThen_ok]
    have hb : b < w.heap.size := (Array.getElem?_eq_some_iff.1 hc).1
    rw [run_storeCells_wr vs (i + 1) b o _ ⟨c.setIfInBounds (o + i) v, t, by simp [wr, Array.getElem?_modify, hc, wrObj, patch], by simp at hl ⊢; omega, fun u hu => h1 u (by simp [hu])⟩]
    congr 2
    apply Array.ext_getElem?
    intro k
    simp only [wr, Array.getElem?_modify]
    split
    · cases w.heap[k]? with
      | none => rfl
      | some x => cases x <;> rfl
    · rfl

/-! ### Types -/

theorem dst1_some {n : Nat} {o : Oper} {d : Nat} (h : dst1 n o = some d) : o.dst = some d ∧ d < n := by
  unfold dst1 at h
  split at h
  · split at h
    · cases h; exact ⟨by assumption, by assumption⟩
    · cases h
  · cases h
theorem dst0_some {n : Nat} {o : Oper} {d : Option Nat} (h : dst0 n o = some d) : o.dst = d ∧ ∀ k, d = some k → k < n := by
  unfold dst0 at h
  split at h
  · split at h
    · cases h
      refine ⟨by assumption, fun k hk => ?_⟩
      cases hk; assumption
    · cases h
  · cases h
    exact ⟨by assumption, fun k hk => by cases hk⟩

theorem run_sizeOf' {P : Program} {t : TypeId} {s : Nat} (h : sizeT P t = some s) (w : World) : (sizeOf t).run P w = .ok s w := by
  unfold sizeT at h
  obtain ⟨i, hi, rfl⟩ := Option.map_eq_some_iff.1 h
  simp [sizeOf, typeInfo, hi]
theorem run_zeroValue' {P : Program} {t : TypeId} {z : List Value} (h : zeroT P t = some z) (w : World) : ∃ v, (zeroValue t).run P w = .ok v w ∧ v.cells = z.toArray := by
  unfold zeroT at h
  simp only [Option.bind_eq_some_iff, Option.map_eq_some_iff] at h
  obtain ⟨i, hi, v, hv, rfl⟩ := h
  exact ⟨v, by simp [zeroValue, typeInfo, hi, hv], by simp⟩
theorem run_isAgg' {P : Program} {t : TypeId} {s : Option Nat} (h : aggSz P t = some s) (w : World) : (isAgg t).run P w = .ok s.isSome w ∧ ∀ n, s = some n → sizeT P t = some n := by
  unfold aggSz at h
  split at h
  · rename_i hu
    obtain ⟨i, hi, rfl⟩ := Option.map_eq_some_iff.1 h
    refine ⟨by simp [isAgg, run_underlying hu], fun n hn => ?_⟩
    cases hn; simp [sizeT, hi]
  · rename_i hu
    obtain ⟨i, hi, rfl⟩ := Option.map_eq_some_iff.1 h
    refine ⟨by simp [isAgg, run_underlying hu], fun n hn => ?_⟩
    cases hn; simp [sizeT, hi]
  · rename_i d h1 h2 hu
    cases h
    refine ⟨?_, fun n hn => by cases hn⟩
    simp only [isAgg, Sem.run_bind, run_underlying hu, Result.andThen_ok]
    cases d <;> first | rfl | exact absurd hu (h1 _) | exact absurd hu (h2 _ _)
  · cases h

theorem asP_some {v : Value} {q : Nat × Nat} (h : asP v = some q) : v = ptr q.1 q.2 := by
  unfold asP at h
  split at h
  · cases h; rfl
  · cases h
theorem asSl_some {v : Value} {q : Nat × Nat × Nat × Nat} (h : asSl v = some q) : v = sl q.1 q.2.1 q.2.2.1 q.2.2.2 := by
  unfold asSl at h
  split at h
  · cases h; rfl
  · cases h
theorem asI_some {v : Value} {n : Int} (h : asI v = some n) : ∃ k, v = .int k n := by
  unfold asI at h
  split at h
  · cases h; exact ⟨_, rfl⟩
  · cases h
theorem asB_some {v : Value} {b : Bool} (h : asB v = some b) : v = .bool b := by
  unfold asB at h
  split at h
  · cases h; rfl
  · cases h

end Go.AX
