/-
  Rules for copy, append of zeros, slices.overlaps.
-/
import Derived.Test.YtefghfgmkndikaaFM
import Derived.Lib.AppendZerosOnto
import Derived.Laws.CopyRow
import Derived.Laws.AppendOwn
set_option linter.unusedSimpArgs false
set_option linter.unusedVariables false
namespace Go.AX
open Go

/-! ### Slicing -/
theorem slc_lh {sz b o n c l u : Nat} {K : Value → Prop} (h1 : l ≤ u) (h2 : u ≤ c) (h3 : l < c) (H : K (.slice (some ⟨b, o + l * sz, none⟩) (u - l) (c - l))) : slcV sz (.slice (some ⟨b, o, none⟩) n c) (some (vi l)) (some (vi u)) none K := by
  simp only [slcV, asI_int, bd_some, Int.toNat_natCast]
  refine ⟨by omega, by omega, by omega, by omega, ?_⟩
  rw [if_neg (by omega), Option.map_some, add_mk]
  exact H
theorem slc_lo {sz b o n c l : Nat} {K : Value → Prop} (h1 : l ≤ n) (h2 : n ≤ c) (h3 : l < c) (H : K (.slice (some ⟨b, o + l * sz, none⟩) (n - l) (c - l))) : slcV sz (.slice (some ⟨b, o, none⟩) n c) (some (vi l)) none none K := by
  simp only [slcV, asI_int, bd_some, Int.toNat_natCast]
  refine ⟨by omega, by omega, by omega, by omega, ?_⟩
  rw [if_neg (by omega), Option.map_some, add_mk]
  exact H
theorem slc_hi {sz b o n c u : Nat} {K : Value → Prop} (h2 : u ≤ c) (H : K (.slice (some ⟨b, o, none⟩) u c)) : slcV sz (.slice (some ⟨b, o, none⟩) n c) none (some (vi u)) none K := by
  simp only [slcV, asI_int, bd_some, Int.toNat_natCast]
  refine ⟨by omega, by omega, by omega, by omega, ?_⟩
  have e : (if c = (0 : Int).toNat then some (⟨b, o, none⟩ : Addr) else (some (⟨b, o, none⟩ : Addr)).map (·.add ((0 : Int).toNat * sz))) = some ⟨b, o, none⟩ := by
    split
    · rfl
    · simp [add_mk]
  rw [e]
  exact H
/-- where the first bound is the end of what there is. -/
theorem slc_lo' {sz n c l : Nat} {a : Option Addr} {K : Value → Prop} (h1 : l ≤ n) (h2 : n ≤ c) (H : ∀ a', (l < c → a' = a.map (·.add (l * sz))) → K (.slice a' (n - l) (c - l))) : slcV sz (.slice a n c) (some (vi l)) none none K := by
  simp only [slcV, asI_int, bd_some, Int.toNat_natCast]
  refine ⟨by omega, by omega, by omega, by omega, H _ ?_⟩
  intro hl
  rw [if_neg (by omega)]

/-- 'copy(d, s)', d in a block that may be written. -/
theorem raw_copy {P : Program} {o : Oper} {σ : Env} {h : Heap} {K : Value → Heap → Prop} {x y : Operand} {t t' e s bytes : Nat} (hT : slT P t e s bytes = true)
    (ho : o.op = .call ⟨.builtin .copy, #[x, y], #[t, t']⟩) {g og n c b q n2 c2 te : Nat} {cur cs : List Value}
    (hx : evO σ x = some (.slice (some ⟨g, og, none⟩) n c)) (hy : evO σ y = some (.slice (some ⟨b, q, none⟩) n2 c2)) (B : Blk h g te cur) (hn : cs.length = min n2 n * s)
    (hs : Row h b q cs) (hfit : og + cs.length ≤ cur.length) (h1 : ∀ v ∈ cs, v.oneCell' = true)
    (H : ∀ h', Upd g h h' → Blk h' g te (cur.take og ++ cs ++ cur.drop (og + cs.length)) → K (vi (min n2 n : Nat)) h') : RawW P o σ h K := by
  obtain ⟨i, z, hu, hi, hz, hsz, hby, hzs, hsp⟩ := slT_spec hT
  refine ⟨?_, ?_, ?_⟩
  · rw [ho]; intro u hu'
    simp only [Op.operands, Call.operands, Array.mem_append, List.mem_toArray, List.mem_cons, List.not_mem_nil, or_false, false_or] at hu'
    rcases hu' with rfl | rfl
    · rw [hx]; rfl
    · rw [hy]; rfl
  · rw [ho]; intro cs b hh; cases hh
  · intro w hw
    subst hw
    have hsrc : ∀ j v, cs[j]? = some v → w.cell? ((⟨b, q, none⟩ : Addr).add j) = some v := fun j v hj => by
      have hjl : j < cs.length := (List.getElem?_eq_some_iff.1 hj).1
      rw [add_mk, cel_cell, hs j hjl]; exact hj
    have hl := run_firstCells_some (P := P) w s (Nat.min n2 n) ⟨b, q, none⟩ n2 c2 cs hn hsrc
    have hst := run_storeCells_at P g og te cs 0 cur.toArray w B (by simpa using hfit) h1
    have hrun : (Builtin.copy_ #[t, t'] o.type #[.slice (some ⟨g, og, none⟩) n c, .slice (some ⟨b, q, none⟩) n2 c2]).run P w = .ok (goInt (Nat.min n2 n)) (w.setRow g (cur.take og ++ cs ++ cur.drop (og + cs.length)).toArray) := by
      simp [Builtin.copy_, run_underlying hu, Builtin.lenOf, sizeOf, typeInfo, hi, hsz, hl, hst]
    refine ⟨.value (goInt (Nat.min n2 n)), vi (Nat.min n2 n), w.setRow g (cur.take og ++ cs ++ cur.drop (og + cs.length)).toArray, ?_, rfl, ⟨rfl, rfl, rfl⟩, H _ ⟨size_setRow w g _, fun k hk => setRow_other w g k _ hk⟩ (setRow_heap w g _ _ _ _ B)⟩
    simp only [execOp, ho, resolve, invoke, builtin, Sem.run_bind, Sem.run_pure, Result.andThen_ok, List.map_toArray, List.map_cons, List.map_nil, hx, hy, Option.getD_some, hrun]

/-- 'append(x, make(.., k)...)' without room. -/
theorem raw_zeros {P : Program} {o : Oper} {σ : Env} {h : Heap} {K : Value → Heap → Prop} {x y : Operand} {t tn e s bytes : Nat} {kn kq : IntKind} (hT : slT P t e s bytes = true) (htn : P.underlying tn = some (.int kn))
    (ho : o.op = .call ⟨.builtin .append, #[x, y], #[t, tn]⟩) {g og n c k : Nat} {olds : List Value}
    (hx : evO σ x = some (.slice (some ⟨g, og, none⟩) n c)) (hy : evO σ y = some (.int kq k)) (hr : Row h g og olds) (hl : olds.length = n * s) (h0 : 0 < k) (hg : c < n + k) (hlen : n + k ≤ maxLen) (hb : (n + k) * bytes ≤ 140737488355328)
    (H : ∀ h' c' zs, Ext h h' → h'.size = h.size + 1 → n + k ≤ c' → c' ≤ maxLen → zs.length = (c' - n) * s → Blk h' h.size e (olds ++ zs) → K (.slice (some ⟨h.size, 0, none⟩) (n + k) c') h') : RawW P o σ h K := by
  obtain ⟨i, z, hu, hi, hz, hsz, hby, hzs, hsp⟩ := slT_spec hT
  refine ⟨?_, ?_, ?_⟩
  · rw [ho]; intro u hu'
    simp only [Op.operands, Call.operands, Array.mem_append, List.mem_toArray, List.mem_cons, List.not_mem_nil, or_false, false_or] at hu'
    rcases hu' with rfl | rfl
    · rw [hx]; rfl
    · rw [hy]; rfl
  · rw [ho]; intro cs b hh; cases hh
  · intro w hw
    subst hw
    have hsrc : ∀ j v, olds[j]? = some v → w.drew.cell? ((⟨g, og, none⟩ : Addr).add j) = some v := fun j v hj => by
      have hjl : j < olds.length := (List.getElem?_eq_some_iff.1 hj).1
      show w.cell? _ = _
      rw [add_mk, cel_cell, hr j hjl]; exact hj
    have hold := run_firstCells_some (P := P) w.drew i.size n ⟨g, og, none⟩ n c olds (by rw [hsz]; exact hl) hsrc
    have hrun := Lib.run_append_grow_zeros (P := P) w t tn o.type e i z kq kn hu htn hi hz (some ⟨g, og, none⟩) n c olds hold k h0 (by omega) hg (by unfold maxLen at hlen; omega)
      (by rw [hby]; have : k * bytes ≤ (n + k) * bytes := Nat.mul_le_mul_right _ (by omega); omega) (by rw [hby]; exact growslice_fits hg hb)
    have hge := grownCap_ge w (n + k) c e
    have hle := grownCap_le_maxLen w (n + k) c e hlen
    have hzc : ∀ m, (Builtin.zeroCells z.cells m).size = m * s := fun m => by simp [Builtin.zeroCells, hzs]
    refine ⟨.value (.slice (some ⟨w.heap.size, 0, none⟩) (n + k) (grownCap w (n + k) c e)), .slice (some ⟨w.heap.size, 0, none⟩) (n + k) (grownCap w (n + k) c e), (w.drew.alloc (.cells (olds.toArray ++ Builtin.zeroCells z.cells k ++ Builtin.zeroCells z.cells (grownCap w (n + k) c e - (n + k))) e)), ?_, rfl, ⟨rfl, rfl, rfl⟩, H (w.drew.alloc (.cells (olds.toArray ++ Builtin.zeroCells z.cells k ++ Builtin.zeroCells z.cells (grownCap w (n + k) c e - (n + k))) e)).heap (grownCap w (n + k) c e)
      ((Builtin.zeroCells z.cells k).toList ++ (Builtin.zeroCells z.cells (grownCap w (n + k) c e - (n + k))).toList) ((Ext.refl _).push _) (Array.size_push _) hge hle ?_ ?_⟩
    · simp only [execOp, ho, resolve, invoke, builtin, Sem.run_bind, Sem.run_pure, Result.andThen_ok, List.map_toArray, List.map_cons, List.map_nil, hx, hy, Option.getD_some, hrun]
    · rw [List.length_append, Array.length_toList, Array.length_toList, hzc, hzc, ← Nat.add_mul]
      congr 1; omega
    · show (w.heap.push _)[w.heap.size]? = _
      rw [Array.getElem?_push_size]
      congr 2
      simp

/-- slices.overlaps of two blocks. -/
theorem raw_overlaps {P : Program} {o : Oper} {σ : Env} {h : Heap} {K : Value → Heap → Prop} {x y : Operand} {t t2 t3 e s bytes : Nat} (hT : slT P t e s bytes = true) {f : FuncId} {fn : Func}
    (ho : o.op = .call ⟨.value (.func f), #[x, y], #[t2, t3]⟩) (hf : P.funcs[f]? = some fn) (hb : fn.body.isNone = true) (hn : (fn.name == "runtime.NumGoroutine") = false) (hx1 : (Extern.findNext fn).isNone = true)
    {tR : TypeId} (h2 : Extern.find fn = some (Extern.SlicesOverlaps.overlaps #[t, t] #[tR])) {a b la ca lb cb oa o2 ta tb : Nat} {l m : List Value}
    (hx : evO σ x = some (.slice (some ⟨a, oa, none⟩) la ca)) (hy : evO σ y = some (.slice (some ⟨b, o2, none⟩) lb cb)) (A : Blk h a ta l) (B : Blk h b tb m) (hab : a ≠ b) (hm : 0 < m.length) (H : K (.bool false) h) : RawW P o σ h K := by
  obtain ⟨i, z, hu, hi, hz, hsz, hby, hzs, hsp⟩ := slT_spec hT
  refine raw_ext ho hf hb hn hx1 h2 (vs := [.slice (some ⟨a, oa, none⟩) la ca, .slice (some ⟨b, o2, none⟩) lb cb]) (v := .bool false) ?_ ?_ H
  · simp [evOs, hx, hy]
  · intro w hw
    subst hw
    unfold Blk at A B
    exact Lib.run_overlaps_apart w t tR e hu s (fun w => by simp [sizeOf, typeInfo, hi, hsz]) ⟨a, oa, none⟩ ⟨b, o2, none⟩ la ca lb cb hab ta tb l.length m.length
      (by simp [World.shape?, A]) (by simp [World.shape?, B]) (by omega) (by simp [World.frozen?, A]) (by simp [World.frozen?, A])
end Go.AX
