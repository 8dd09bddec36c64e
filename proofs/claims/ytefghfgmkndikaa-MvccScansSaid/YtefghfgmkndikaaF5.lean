/-
  The small instruction language: the operations that may turn the heap.
-/
import Derived.Test.YtefghfgmkndikaaF4
set_option linter.unusedSimpArgs false
set_option linter.unusedVariables false
namespace Go.AX
open Go

theorem run_callFunc {P : Program} {f : FuncId} (hc : callable P f = true) (args : Array Value) (w : World) : (callFunc f args).run P w = .ok (.enter f args) w := by
  unfold callable at hc
  split at hc
  · rename_i fn hf
    simp only [Bool.not_eq_true', Bool.or_eq_false_iff] at hc
    have hb : fn.body ≠ none := by
      intro e; rw [e] at hc; simp at hc
    have hn : fn.name ≠ "runtime.NumGoroutine" := by simpa using hc.2
    simp [callFunc, hf, hb, hn]
  · cases hc

theorem push_world (w : World) (o : Obj) : ({ w with heap := w.heap.push o } : World).heap = w.heap.push o := rfl

theorem eff_ok {P : Program} {n : Nat} {o : Oper} {j : J} (hj : cmpJ P n o = some j) (ht : j.take = false) {h : Heap} {σ : Env} {a : Act} (ha : Agr n σ a) {w : World} (hw : w.heap = h) {K : Value → Heap → Prop} (he : wE P h σ j K) :
    (∀ (next : Act → World → Prop) (Q : Exit → Act → World → Prop), (∀ v w', K v w'.heap → Same w w' → next (a.put o.dst v) w') → o.wp P a w next Q) ∧ o.dst = j.dst ∧ ∀ k, j.dst = some k → k < n := by
  subst hw
  have raw : ∀ (d : Option Nat), j = .raw d o → o.dst = d → (∀ k, d = some k → k < n) →
      (∀ (next : Act → World → Prop) (Q : Exit → Act → World → Prop), (∀ v w', K v w'.heap → Same w w' → next (a.put o.dst v) w') → o.wp P a w next Q) ∧ o.dst = j.dst ∧ ∀ k, j.dst = some k → k < n := by
    rintro d rfl hd hk
    refine ⟨fun next Q hn => ?_, hd, hk⟩
    obtain ⟨h1, h2, h3⟩ := he
    obtain ⟨r, v, w', hr, hrv, hs, hK⟩ := h3 w rfl
    have hcong : execOp a.eval o = execOp (fun x => (evO σ x).getD undef) o := execOp_congr o h2 fun x hx => by
      obtain ⟨u, hu⟩ := Option.isSome_iff_exists.1 (h1 x hx)
      rw [ha.eval hu, hu]; rfl
    unfold Oper.wp
    rw [hcong, hr]
    cases r <;> simp only [nextV, reduceCtorEq, Option.some.injEq] at hrv <;> subst hrv
    · exact hn _ w' hK hs
    · exact hn _ w' hK hs
  obtain ⟨dst, op, type, pos, after, guard⟩ := o
  have d1 : ∀ {d : Nat}, dst1 n ⟨dst, op, type, pos, after, guard⟩ = some d → dst = some d ∧ ∀ k, some d = some k → k < n := fun hd => ⟨(dst1_some hd).1, fun k hk => by cases hk; exact (dst1_some hd).2⟩
  cases op <;> simp only [cmpJ, reduceCtorEq] at hj
  case move x => obtain ⟨d, hd, rfl⟩ := Option.map_eq_some_iff.1 hj; cases ht
  case assign x => obtain ⟨d, hd, rfl⟩ := Option.map_eq_some_iff.1 hj; cases ht
  case pick => obtain ⟨d, hd, rfl⟩ := Option.map_eq_some_iff.1 hj; cases ht
  case load =>
    simp only [Option.bind_eq_some_iff, Option.map_eq_some_iff] at hj
    obtain ⟨d, hd, s, hs, rfl⟩ := hj; cases ht
  case store t x v =>
    cases dst with
    | some d => cases hj
    | none =>
      obtain ⟨s, hs, rfl⟩ := Option.map_eq_some_iff.1 hj
      obtain ⟨p, hp, g1⟩ := bd_elim he
      obtain ⟨q, hq, g2⟩ := bd_elim g1
      obtain ⟨u, hu, hsz, hok, hK⟩ := bd_elim g2
      refine ⟨fun next Q hn => ?_, rfl, fun k hk => by cases hk⟩
      have hpp := asP_some hq
      have hr := run_storeCells_wr (P := P) u.cells.toList 0 q.1 q.2 w hok
      unfold Oper.wp
      have : (execOp a.eval ⟨none, .store t x v, type, pos, after, guard⟩).run P w = .ok .skip { w with heap := wr w.heap q.1 q.2 u.cells.toList } := by
        simp only [execOp, Instr.storeAt, Sem.run_bind, ha.eval hp, ha.eval hu, hpp, Instr.sureAddr, storeVar, run_sizeOf' hs, Result.andThen_ok, Sem.run_pure, Sem.run_ite, hsz, ne_eq, not_true_eq_false, if_false, Bool.false_eq_true]
        rw [hr]; rfl
      rw [this]
      exact hn undef _ hK ⟨rfl, rfl, rfl⟩
  case fieldAddr s x f =>
    obtain ⟨d, hd, hj⟩ := Option.bind_eq_some_iff.1 hj
    split at hj
    · simp only [Option.bind_eq_some_iff] at hj
      obtain ⟨fl, hfl, z, hz, hj⟩ := hj
      split at hj
      · cases hj
      · cases hj; cases ht
    · cases hj
  case indexAddr t x i =>
    obtain ⟨d, hd, hj⟩ := Option.bind_eq_some_iff.1 hj
    split at hj
    · obtain ⟨z, hz, rfl⟩ := Option.map_eq_some_iff.1 hj; cases ht
    · cases hj
  case slice t x lo hi mx =>
    obtain ⟨d, hd, hj⟩ := Option.bind_eq_some_iff.1 hj
    split at hj
    · split at hj
      · cases hj
      · obtain ⟨z, hz, rfl⟩ := Option.map_eq_some_iff.1 hj; cases ht
    · cases hj
  case extract => obtain ⟨d, hd, rfl⟩ := Option.map_eq_some_iff.1 hj; cases ht
  case unOp => obtain ⟨d, hd, rfl⟩ := Option.map_eq_some_iff.1 hj; cases ht
  case build t parts =>
    obtain ⟨d, hd, hj⟩ := Option.bind_eq_some_iff.1 hj
    split at hj
    · simp only [Option.bind_eq_some_iff, Option.map_eq_some_iff] at hj
      obtain ⟨z, hz, ps, hps, rfl⟩ := hj; cases ht
    · cases hj
  case makeFunc fn first caps =>
    cases fn <;> simp only [reduceCtorEq] at hj
    split at hj
    · obtain ⟨d, hd, rfl⟩ := Option.map_eq_some_iff.1 hj; cases ht
    · cases hj
  case nilCheck => obtain ⟨d, hd, rfl⟩ := Option.map_eq_some_iff.1 hj; cases ht
  case convert s t x =>
    obtain ⟨d, hd, hj⟩ := Option.bind_eq_some_iff.1 hj
    split at hj
    · cases hj; cases ht
    · cases hj; exact raw _ rfl (d1 hd).1 (d1 hd).2
    · cases hj
  case binOp op t x y yt =>
    obtain ⟨d, hd, hj⟩ := Option.bind_eq_some_iff.1 hj
    generalize hu : P.underlying t = U at hj
    split at hj
    · cases hj; cases ht
    · cases hj; cases ht
    · cases hj; cases ht
    · cases hj; cases ht
    · cases hj; cases ht
    · cases hj; cases ht
    · split at hj
      · obtain ⟨ks, hks, rfl⟩ := Option.map_eq_some_iff.1 hj; cases ht
      · cases hj
    · split at hj
      · obtain ⟨ks, hks, rfl⟩ := Option.map_eq_some_iff.1 hj; cases ht
      · cases hj
    · cases hj; exact raw _ rfl (d1 hd).1 (d1 hd).2
    · cases hj; exact raw _ rfl (d1 hd).1 (d1 hd).2
    · cases hj; exact raw _ rfl (d1 hd).1 (d1 hd).2
    · cases hj; exact raw _ rfl (d1 hd).1 (d1 hd).2
    · cases hj; cases ht
    · cases hj; cases ht
    · cases hj
  case alloc t =>
    simp only [Option.bind_eq_some_iff, Option.map_eq_some_iff] at hj
    obtain ⟨d, hd, z, hz, rfl⟩ := hj
    refine ⟨fun next Q hn => ?_, (d1 hd).1, (d1 hd).2⟩
    obtain ⟨zv, hzr, hzc⟩ := run_zeroValue' hz w
    unfold Oper.wp
    have : (execOp a.eval ⟨dst, .alloc t, type, pos, after, guard⟩).run P w = .ok (.value (ptr w.heap.size 0)) { w with heap := w.heap.push (.cells z.toArray t) } := by
      simp [execOp, Instr.alloc, hzr, hzc, newVar, newRow]
    rw [this]
    exact hn _ _ he ⟨rfl, rfl, rfl⟩
  case box t x =>
    obtain ⟨d, hd, rfl⟩ := Option.map_eq_some_iff.1 hj
    obtain ⟨v, hx, hK⟩ := bd_elim he
    refine ⟨fun next Q hn => ?_, (d1 hd).1, (d1 hd).2⟩
    unfold Oper.wp
    have : (execOp a.eval ⟨dst, .box t x, type, pos, after, guard⟩).run P w = .ok (.value (ptr w.heap.size 0)) { w with heap := w.heap.push (.cells v.cells t) } := by
      simp [execOp, Instr.box, ha.eval hx, newVar, newRow]
    rw [this]
    exact hn _ _ hK ⟨rfl, rfl, rfl⟩
  case buildSlice t len parts =>
    obtain ⟨d, hd, hj⟩ := Option.bind_eq_some_iff.1 hj
    split at hj
    · rename_i e hu
      obtain ⟨z, hz, hj⟩ := Option.bind_eq_some_iff.1 hj
      split at hj
      · rename_i hl0
        split at hj
        · rename_i hp0
          cases hj
          have hK : K (sl w.heap.size 0 0 0) (w.heap.push (.cells #[] e)) := he
          refine ⟨fun next Q hn => ?_, (d1 hd).1, (d1 hd).2⟩
          subst hl0
          have hpe : parts = #[] := by simpa using hp0
          subst hpe
          unfold Oper.wp
          have : (execOp a.eval ⟨dst, .buildSlice t 0 #[], type, pos, after, guard⟩).run P w = .ok (.value (sl w.heap.size 0 0 0)) { w with heap := w.heap.push (.cells #[] e) } := by
            have hr0 : Array.range 0 = #[] := by apply Array.ext'; simp
            simp [execOp, Instr.buildSlice, run_underlying hu, run_sizeOf' hz, Instr.fill, newRow, hr0]
          rw [this]
          exact hn _ _ hK ⟨rfl, rfl, rfl⟩
        · cases hj
      rename_i hl0
      split at hj
      · cases hj
      · rename_i hno
        obtain ⟨zc, hzc, hj⟩ := Option.bind_eq_some_iff.1 hj
        split at hj
        · cases hj
        rename_i hzl
        cases hj
        obtain ⟨cs, hcs, hK⟩ := bd_elim he
        refine ⟨fun next Q hn => ?_, (d1 hd).1, (d1 hd).2⟩
        have hbig : ¬ len * z > 2 ^ 24 := fun h => hno (.inl h)
        have hz0 : z ≠ 0 := fun h => hno (.inr h)
        obtain ⟨zv, hzr, hzcells⟩ := run_zeroValue' hzc w
        have hlz : ¬ len * z = 0 := by
          intro h; rcases Nat.mul_eq_zero.1 h with h | h <;> contradiction
        have hrel : ∀ (ps : List (Nat × Operand)), All2 (fun (p : Nat × Operand) (q : Nat × Nat × Operand) => (fun i => some (i * z, z)) p.1 = some (q.1, q.2.1) ∧ p.2 = q.2.2) ps (partsSl z ps) := by
          intro ps
          induction ps with
          | nil => exact .nil
          | cons p ps ih => obtain ⟨i, x⟩ := p; exact .cons ⟨rfl, rfl⟩ ih
        have hfill := fill_eq ha (fun i => some (i * z, z)) parts.toList (partsSl z parts.toList) _ cs (hrel _) hcs
        have hzeros : ((Array.range (len * z)).map (fun x => zc.toArray[x % zc.toArray.size]!)) = ((List.range (len * z)).map fun i => zc.getD (i % zc.length) undef).toArray := by
          apply Array.ext'
          simp only [Array.toList_map, Array.toList_range]
          apply List.map_congr_left
          intro i _
          have hlt : i % zc.length < zc.length := Nat.mod_lt _ (by omega)
          simp [hlt]
        unfold Oper.wp
        have : (execOp a.eval ⟨dst, .buildSlice t len parts, type, pos, after, guard⟩).run P w = .ok (.value (sl w.heap.size 0 len len)) { w with heap := w.heap.push (.cells cs.toArray e) } := by
          simp only [execOp, Instr.buildSlice, Sem.run_bind, run_underlying hu, Result.andThen_ok, run_sizeOf' hz, Sem.run_ite, if_neg hbig, if_neg hlz, hzr, Sem.run_pure, hzcells, hzeros]
          rw [show (Array.map (fun x => match x with | (i, x) => (i, a.eval x)) parts).toList = parts.toList.map fun p => (p.1, a.eval p.2) from by simp]
          rw [hfill]
          simp [newRow]
        rw [this]
        exact hn _ _ hK ⟨rfl, rfl, rfl⟩
    · cases hj
  case call c =>
    obtain ⟨callee, args, argTypes⟩ := c
    simp only at hj
    split at hj
    · rename_i f
      split at hj
      · rename_i hc
        obtain ⟨d, hd, rfl⟩ := Option.map_eq_some_iff.1 hj
        obtain ⟨vs, hvs, hK⟩ := bd_elim he
        refine ⟨fun next Q hn => ?_, (dst0_some hd).1, (dst0_some hd).2⟩
        unfold Oper.wp
        have hargs : args.map a.eval = vs.toArray := by apply Array.ext'; simpa using ha.evals hvs
        have : (execOp a.eval ⟨dst, .call ⟨.value (.func f), args, argTypes⟩, type, pos, after, guard⟩).run P w = .ok (.enter f vs.toArray) w := by
          simp [execOp, resolve, Act.eval, Deferred.ofValue, invoke, hargs, run_callFunc hc]
        rw [this, Oper.upon_enter]
        refine (hK w rfl).mono ?_
        rintro e w' ⟨v, rfl, hR, hs⟩
        exact hn v w' hR hs
      · obtain ⟨d, hd, rfl⟩ := Option.map_eq_some_iff.1 hj
        exact raw _ rfl (dst0_some hd).1 (dst0_some hd).2
    · rename_i x hx
      obtain ⟨d, hd, rfl⟩ := Option.map_eq_some_iff.1 hj
      obtain ⟨v, hv, g1⟩ := bd_elim he
      obtain ⟨vs, hvs, g2⟩ := bd_elim g1
      split at g2
      · rename_i f first caps
        obtain ⟨hc, hK⟩ := g2
        refine ⟨fun next Q hn => ?_, (dst0_some hd).1, (dst0_some hd).2⟩
        unfold Oper.wp
        have hargs : args.map a.eval = vs.toArray := by apply Array.ext'; simpa using ha.evals hvs
        have : (execOp a.eval ⟨dst, .call ⟨.value x, args, argTypes⟩, type, pos, after, guard⟩).run P w = .ok (.enter f (first.toList ++ vs ++ caps.toList).toArray) w := by
          simp only [execOp, resolve, ha.eval hv, Deferred.ofValue, invoke, Sem.run_bind, Sem.run_pure, Result.andThen_ok, hargs, run_callFunc hc]
          congr 2
          apply Array.ext'
          simp
        rw [this, Oper.upon_enter]
        refine (hK w rfl).mono ?_
        rintro e w' ⟨v, rfl, hR, hs⟩
        exact hn v w' hR hs
      · exact g2.elim
    · obtain ⟨d, hd, hj⟩ := Option.bind_eq_some_iff.1 hj
      split at hj <;> first | (cases hj; cases ht) | cases hj
    · obtain ⟨d, hd, hj⟩ := Option.bind_eq_some_iff.1 hj
      split at hj <;> first | (cases hj; cases ht) | cases hj
    · obtain ⟨d, hd, hj⟩ := Option.bind_eq_some_iff.1 hj
      split at hj <;> first | (cases hj; cases ht) | cases hj
    · obtain ⟨d, hd, hj⟩ := Option.bind_eq_some_iff.1 hj
      split at hj <;> first | (cases hj; cases ht) | cases hj
    all_goals first
      | (cases hj; done)
      | (obtain ⟨d, hd, rfl⟩ := Option.map_eq_some_iff.1 hj; exact raw _ rfl (dst0_some hd).1 (dst0_some hd).2)
  all_goals (obtain ⟨d, hd, rfl⟩ := Option.map_eq_some_iff.1 hj; exact raw _ rfl (dst0_some hd).1 (dst0_some hd).2)
end Go.AX
