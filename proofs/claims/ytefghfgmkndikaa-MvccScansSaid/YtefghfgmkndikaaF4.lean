/-
  The small instruction language: each instruction says what its operation does.
-/
import Derived.Test.YtefghfgmkndikaaF3
set_option linter.unusedSimpArgs false
set_option linter.unusedVariables false
namespace Go.AX
open Go

theorem slcV_run {P : Program} {t e : TypeId} {sz : Nat} (hu : P.underlying t = some (.slice e)) (hs : sizeT P e = some sz) {x : Value} {lo hi mx : Option Value} (hm : mx.isSome = true → hi.isSome = true) {K : Value → Prop}
    (h : slcV sz x lo hi mx K) : ∃ v, K v ∧ ∀ w : World, (Instr.sliceAt t x lo hi mx).run P w = .ok v w := by
  unfold slcV at h
  split at h
  · rename_i a n c
    obtain ⟨m, hm', g1⟩ := bd_elim h
    obtain ⟨hh, hh', g2⟩ := bd_elim g1
    obtain ⟨l, hl', h0, h1, h2, h3, hK⟩ := bd_elim g2
    refine ⟨_, hK, fun w => ?_⟩
    clear hK g1 g2 h
    have b1 : ∀ (x : Value) (i : Int) (y : Nat) (code : BoundsCode), asI x = some i → 0 ≤ i → i ≤ y → (Instr.sliceBound x y code).run P w = .ok i.toNat w := by
      intro x i y code hx h0 h1
      obtain ⟨k, rfl⟩ := asI_some hx
      simp [Instr.sliceBound, asIntOf, h0, h1]
    have hbounds : (Instr.sliceBounds true n c lo hi mx).run P w = .ok (l.toNat, hh.toNat, m.toNat) w := by
      unfold Instr.sliceBounds
      cases mx with
      | none =>
        cases hm'
        cases hi with
        | none =>
          cases hh'
          cases lo with
          | none => cases hl'; simp
          | some v => have hb := b1 v l n .sliceB hl' h0 h1; simp [hb]
        | some v =>
          have hb := b1 v hh c .sliceAcap hh' (by omega) h2
          cases lo with
          | none => cases hl'; simp [hb]
          | some u => have hb2 := b1 u l hh.toNat .sliceB hl' h0 (by omega); simp [hb, hb2]
      | some vm =>
        cases hi with
        | none => simp at hm
        | some v =>
          have hb1 := b1 vm m c .slice3Acap hm' (by omega) h3
          have hb := b1 v hh m.toNat .slice3B hh' (by omega) (by omega)
          cases lo with
          | none => cases hl'; simp [hb, hb1]
          | some u => have hb2 := b1 u l hh.toNat .slice3C hl' h0 (by omega); simp [hb, hb1, hb2]
    simp [Instr.sliceAt, Instr.slice, run_underlying hu, hbounds, run_sizeOf' hs]
  · exact h.elim

theorem putL_eq : ∀ (vs : List Value) (k off : Nat) (cells : Array Value),
    (vs.zipIdx k).foldl (fun cs (x : Value × Nat) => cs.setIfInBounds (off + x.2) x.1) cells = (putL cells.toList (off + k) vs).toArray
  | [], _, _, _ => by simp [putL]
  | v :: vs, k, off, cells => by
    simp only [List.zipIdx_cons, List.foldl_cons, putL]
    rw [putL_eq vs (k + 1) off]
    simp [Nat.add_assoc]

theorem putL_length : ∀ (vs : List Value) (cs : List Value) (o : Nat), (putL cs o vs).length = cs.length
  | [], _, _ => rfl
  | v :: vs, cs, o => by simp [putL, putL_length vs]

inductive All2 {α β : Type} (R : α → β → Prop) : List α → List β → Prop
  | nil : All2 R [] []
  | cons {a : α} {b : β} {l : List α} {m : List β} : R a b → All2 R l m → All2 R (a :: l) (b :: m)

theorem fill_eq {n : Nat} {σ : Env} {a : Act} (ha : Agr n σ a) (place : Nat → Option (Nat × Nat)) : ∀ (parts : List (Nat × Operand)) (ps : List (Nat × Nat × Operand)) (cs out : List Value),
    All2 (fun (p : Nat × Operand) (q : Nat × Nat × Operand) => place p.1 = some (q.1, q.2.1) ∧ p.2 = q.2.2) parts ps → fillL σ cs ps = some out →
    Instr.fill place cs.toArray (parts.map fun p => (p.1, a.eval p.2)) = some out.toArray
  | [], _, cs, out, hf, h => by
    cases hf
    simp only [fillL, Option.some.injEq] at h
    subst h; rfl
  | (i, x) :: parts, (off, size, y) :: ps, cs, out, hf, h => by
    cases hf with
    | cons h1 hf =>
      obtain ⟨hp, rfl⟩ := h1
      simp only [fillL, Option.bind_eq_some_iff] at h
      obtain ⟨v, hv, h⟩ := h
      split at h
      · rename_i hc
        have ih := fill_eq ha place parts ps _ out hf h
        have hp' : place i = some (off, size) := hp
        have e1 : ¬ (v.cells.size ≠ size || decide (off + v.cells.size > cs.toArray.size)) = true := by
          simp only [ne_eq, hc.1, not_true_eq_false, decide_false, Bool.false_or, decide_eq_true_eq]
          simp; omega
        simp only [List.map_cons, Instr.fill, hp', ha.eval hv]
        rw [if_neg (by simpa using e1)]
        have e2 : (Array.foldl (fun (cs : Array Value) (x : Value × Nat) => cs.setIfInBounds (off + x.2) x.1) cs.toArray v.cells.zipIdx) = (putL cs off v.cells.toList).toArray := by
          rw [← Array.foldl_toList, Array.toList_zipIdx]
          simpa using putL_eq v.cells.toList 0 off cs.toArray
        rw [← ih]
        congr 1
      · cases h

theorem partsOf_rel {P : Program} {t : TypeId} {fs : Array Field} (hu : P.underlying t = some (.struct fs)) : ∀ (parts : List (Nat × Operand)) (ps : List (Nat × Nat × Operand)), partsOf P t parts = some ps →
    All2 (fun (p : Nat × Operand) (q : Nat × Nat × Operand) => (∃ f, fs[p.1]? = some f ∧ f.offset = q.1 ∧ sizeT P f.type = some q.2.1) ∧ p.2 = q.2.2) parts ps
  | [], ps, h => by simp only [partsOf, Option.some.injEq] at h; subst h; exact .nil
  | (i, x) :: parts, ps, h => by
    simp only [partsOf, hu, Option.bind_eq_some_iff, Option.map_eq_some_iff] at h
    obtain ⟨f, hf, s, hs, qs, hq, rfl⟩ := h
    exact .cons ⟨⟨f, hf, rfl, hs⟩, rfl⟩ (partsOf_rel hu parts qs hq)

theorem run_mapM_places {P : Program} (w : World) : ∀ (fs : List Field), (fs.all fun f => (sizeT P f.type).isSome) = true →
    (fs.mapM fun f => do pure (f.offset, ← sizeOf f.type) : Sem (List (Nat × Nat))).run P w = .ok (fs.map fun f => (f.offset, (sizeT P f.type).getD 0)) w
  | [], _ => by simp
  | f :: fs, h => by
    simp only [List.all_cons, Bool.and_eq_true] at h
    obtain ⟨s, hs⟩ := Option.isSome_iff_exists.1 h.1
    have ih := run_mapM_places w fs h.2
    simp only [List.mapM_cons, Sem.run_bind, run_sizeOf' hs, Result.andThen_ok, Sem.run_pure, ih, List.map_cons, hs, Option.getD_some]

theorem All2.imp {α β : Type} {R S : α → β → Prop} (h : ∀ a b, R a b → S a b) : ∀ {l : List α} {m : List β}, All2 R l m → All2 S l m
  | _, _, .nil => .nil
  | _, _, .cons a b => .cons (h _ _ a) (All2.imp h b)

section
variable {P : Program} (w : World)
theorem eqIn_bool (d : Nat) {t : TypeId} (hu : P.underlying t = some .bool) (a b : Bool) : (Op.equalIn (d + 1) t (.bool a) (.bool b)).run P w = .ok (a == b) w := run_equalIn_bool w d t a b hu
theorem eqIn_pn (d : Nat) {t e : TypeId} (hu : P.underlying t = some (.pointer e)) (b : Option Addr) : (Op.equalIn (d + 1) t (.pointer none) (.pointer b)).run P w = .ok b.isNone w := by
  simp only [Op.equalIn, Sem.run_bind, run_underlying hu, Result.andThen_ok, Sem.run_pure]
theorem eqIn_np (d : Nat) {t e : TypeId} (hu : P.underlying t = some (.pointer e)) (b : Addr) : (Op.equalIn (d + 1) t (.pointer (some b)) (.pointer none)).run P w = .ok false w := by
  simp only [Op.equalIn, Sem.run_bind, run_underlying hu, Result.andThen_ok, Sem.run_pure]
theorem eqIn_sn (d : Nat) {t e : TypeId} (hu : P.underlying t = some (.slice e)) (b : Option Addr) (n c n' c' : Nat) : (Op.equalIn (d + 1) t (.slice none n c) (.slice b n' c')).run P w = .ok b.isNone w := by
  simp only [Op.equalIn, Sem.run_bind, run_underlying hu, Result.andThen_ok, Sem.run_pure]
theorem eqIn_ns (d : Nat) {t e : TypeId} (hu : P.underlying t = some (.slice e)) (b : Addr) (n c n' c' : Nat) : (Op.equalIn (d + 1) t (.slice (some b) n c) (.slice none n' c')).run P w = .ok false w := by
  simp only [Op.equalIn, Sem.run_bind, run_underlying hu, Result.andThen_ok, Sem.run_pure]
theorem bin_eq {t : TypeId} {x y : Value} {r : Bool} (neg : Bool) (h1 : binOp .eql t x y = do pure (.bool (← Op.equal t x y))) (h2 : binOp .neq t x y = do pure (.bool (!(← Op.equal t x y))))
    (h : (Op.equalIn (9999 + 1) t x y).run P w = .ok r w) : (binOp (if neg then .neq else .eql) t x y).run P w = .ok (.bool (if neg then !r else r)) w := by
  have he : (Op.equal t x y).run P w = .ok r w := h
  cases neg
  · simp only [Bool.false_eq_true, if_false, h1, Sem.run_bind, he, Result.andThen_ok, Sem.run_pure]
  · simp only [if_true, h2, Sem.run_bind, he, Result.andThen_ok, Sem.run_pure]
end

def plainTwo (v u : Value) : Prop := match v, u with | .nilIface, .nilIface => False | .agg _, .agg _ => False | _, _ => True
theorem eqGuard_plain {P : Program} (op : BinOp) (t : TypeId) (x y : Operand) {v u : Value} (hvu : plainTwo v u) (w : World) : (eqGuard op t x y v u).run P w = .ok () w := by
  cases op <;> first | rfl | (cases v <;> cases u <;> first | rfl | exact hvu.elim)

/-- An instruction that leaves the heap alone: the operation yields its value in every world whose heap may be the one at hand. -/
theorem take_ok {P : Program} {n : Nat} {o : Oper} {j : J} (hj : cmpJ P n o = some j) (ht : j.take = true) {m : Option Md} {h : Heap} {σ : Env} {a : Act} (ha : Agr n σ a) {K : Value → Prop} (hv : wV m h σ j K) :
    ∃ v, K v ∧ (∀ w : World, heapOk m h w.heap → (execOp a.eval o).run P w = .ok (.value v) w) ∧ o.dst = j.dst ∧ ∀ k, j.dst = some k → k < n := by
  obtain ⟨dst, op, type, pos, after, guard⟩ := o
  have d1 : ∀ {d : Nat}, dst1 n ⟨dst, op, type, pos, after, guard⟩ = some d → dst = some d ∧ ∀ k, some d = some k → k < n := fun hd => ⟨(dst1_some hd).1, fun k hk => by cases hk; exact (dst1_some hd).2⟩
  cases op <;> simp only [cmpJ, reduceCtorEq] at hj
  case move x =>
    obtain ⟨d, hd, rfl⟩ := Option.map_eq_some_iff.1 hj
    obtain ⟨v, hx, hK⟩ := bd_elim hv
    exact ⟨v, hK, fun w _ => by simp [execOp, ha.eval hx], (d1 hd).1, (d1 hd).2⟩
  case assign x =>
    obtain ⟨d, hd, rfl⟩ := Option.map_eq_some_iff.1 hj
    obtain ⟨v, hx, hK⟩ := bd_elim hv
    exact ⟨v, hK, fun w _ => by simp [execOp, ha.eval hx], (d1 hd).1, (d1 hd).2⟩
  case pick c x y =>
    obtain ⟨d, hd, rfl⟩ := Option.map_eq_some_iff.1 hj
    obtain ⟨vc, hc, g1⟩ := bd_elim hv
    obtain ⟨t, htb, g2⟩ := bd_elim g1
    obtain ⟨v, hx, hK⟩ := bd_elim g2
    have hcb := asB_some htb
    refine ⟨v, hK, fun w _ => ?_, (d1 hd).1, (d1 hd).2⟩
    cases t <;> simp at hx <;> simp [execOp, ha.eval hc, hcb, ha.eval hx, asBool]
  case load t x =>
    simp only [Option.bind_eq_some_iff, Option.map_eq_some_iff] at hj
    obtain ⟨d, hd, s, hs, rfl⟩ := hj
    obtain ⟨v, hx, g1⟩ := bd_elim hv
    obtain ⟨q, hq, hok, g2⟩ := bd_elim g1
    have hp := asP_some hq
    cases s with
    | none =>
      obtain ⟨u, hu, hK⟩ := bd_elim g2
      refine ⟨u, hK, fun w hw => ?_, (d1 hd).1, (d1 hd).2⟩
      have hc : w.cell? ⟨q.1, q.2, none⟩ = some u := by rw [cel_cell, cel_of_heapOk hw hok]; exact hu
      simp [execOp, ha.eval hx, hp, Instr.loadAt, Instr.sureAddr, loadVar, (run_isAgg' hs w).1, hc]
    | some k =>
      obtain ⟨l, hl, hK⟩ := bd_elim g2
      refine ⟨_, hK, fun w hw => ?_, (d1 hd).1, (d1 hd).2⟩
      have hc : rd w.heap q.1 q.2 k = some l := by rw [rd_of_heapOk hw hok]; exact hl
      simp [execOp, ha.eval hx, hp, Instr.loadAt, Instr.sureAddr, loadVar, (run_isAgg' hs w).1, run_sizeOf' ((run_isAgg' hs w).2 k rfl), run_loadCells_rd w hc]
  case store t x v =>
    cases dst with
    | none => obtain ⟨s, _, rfl⟩ := Option.map_eq_some_iff.1 hj; cases ht
    | some d => cases hj
  case fieldAddr s x f =>
    obtain ⟨d, hd, hj⟩ := Option.bind_eq_some_iff.1 hj
    split at hj
    · rename_i fs hu
      simp only [Option.bind_eq_some_iff] at hj
      obtain ⟨fl, hfl, z, hz, hj⟩ := hj
      split at hj
      · cases hj
      · rename_i hz0
        cases hj
        obtain ⟨v, hx, g1⟩ := bd_elim hv
        obtain ⟨q, hq, hK⟩ := bd_elim g1
        have hp := asP_some hq
        refine ⟨_, hK, fun w _ => ?_, (d1 hd).1, (d1 hd).2⟩
        simp [execOp, ha.eval hx, hp, Instr.fieldAt, run_underlying hu, hfl, Instr.sureAddr, fieldPlace, run_sizeOf' hz, hz0, add_mk]
    · cases hj
  case indexAddr t x i =>
    obtain ⟨d, hd, hj⟩ := Option.bind_eq_some_iff.1 hj
    split at hj
    · rename_i e hu
      obtain ⟨z, hz, rfl⟩ := Option.map_eq_some_iff.1 hj
      obtain ⟨v, hx, g1⟩ := bd_elim hv
      obtain ⟨u, hi, g2⟩ := bd_elim g1
      obtain ⟨q, hq, g3⟩ := bd_elim g2
      obtain ⟨k, hk, h0, h1, hK⟩ := bd_elim g3
      have hp := asSl_some hq
      obtain ⟨kk, hkk⟩ := asI_some hk
      refine ⟨_, hK, fun w _ => ?_, (d1 hd).1, (d1 hd).2⟩
      have he : P.elem t = e := by simp [Program.elem, hu]
      simp [execOp, ha.eval hx, ha.eval hi, hp, hkk, run_indexAt_slice w t _ _ _ _ _ (by rw [he]; exact hu), he, h0, h1, run_sizeOf' hz, add_mk]
    · cases hj
  case slice t x lo hi mx =>
    obtain ⟨d, hd, hj⟩ := Option.bind_eq_some_iff.1 hj
    split at hj
    · rename_i e hu
      split at hj
      · cases hj
      · rename_i hmx
        obtain ⟨z, hz, rfl⟩ := Option.map_eq_some_iff.1 hj
        obtain ⟨v, hx, g1⟩ := bd_elim hv
        obtain ⟨l, hl, g2⟩ := bd_elim g1
        obtain ⟨hh, hhi, g3⟩ := bd_elim g2
        obtain ⟨mm, hmm, g4⟩ := bd_elim g3
        obtain ⟨u, hK, hr⟩ := slcV_run hu hz (by
          intro hs
          cases mx with
          | none => cases hmm; cases hs
          | some y => cases hi with
            | none => simp at hmx
            | some y => simp only [evOo, Option.map_eq_some_iff] at hhi; obtain ⟨_, _, rfl⟩ := hhi; rfl) g4
        refine ⟨u, hK, fun w _ => ?_, (d1 hd).1, (d1 hd).2⟩
        simp only [execOp, Sem.run_bind, ha.eval hx, ha.evalo hl, ha.evalo hhi, ha.evalo hmm, hr w, Result.andThen_ok, Sem.run_pure]
    · cases hj
  case extract x i =>
    obtain ⟨d, hd, rfl⟩ := Option.map_eq_some_iff.1 hj
    obtain ⟨v, hx, hv⟩ := bd_elim hv
    obtain ⟨u, hu, hK⟩ := bd_elim hv
    refine ⟨u, hK, fun w _ => ?_, (d1 hd).1, (d1 hd).2⟩
    cases v <;> simp only [extV, reduceCtorEq] at hu
    simp [execOp, ha.eval hx, Instr.extract, hu]
  case unOp op t x =>
    obtain ⟨d, hd, rfl⟩ := Option.map_eq_some_iff.1 hj
    obtain ⟨v, hx, hv⟩ := bd_elim hv
    obtain ⟨u, hu, hK⟩ := bd_elim hv
    refine ⟨u, hK, fun w _ => ?_, (d1 hd).1, (d1 hd).2⟩
    cases op <;> cases v <;> simp only [unV, reduceCtorEq, Option.some.injEq] at hu <;> subst hu <;> simp [execOp, ha.eval hx, Op.unary, Op.intArith]
  case build t parts =>
    obtain ⟨d, hd, hj⟩ := Option.bind_eq_some_iff.1 hj
    split at hj
    · rename_i hok
      simp only [Option.bind_eq_some_iff, Option.map_eq_some_iff] at hj
      obtain ⟨z, hz, ps, hps, rfl⟩ := hj
      obtain ⟨cs, hcs, hK⟩ := bd_elim hv
      refine ⟨_, hK, fun w _ => ?_, (d1 hd).1, (d1 hd).2⟩
      unfold fieldsOk at hok
      split at hok
      · rename_i fs hu
        obtain ⟨zv, hzr, hzc⟩ := run_zeroValue' hz w
        have hpl : (fs.mapM fun f => do pure (f.offset, ← sizeOf f.type) : Sem (Array (Nat × Nat))).run P w = .ok (fs.toList.map fun f => (f.offset, (sizeT P f.type).getD 0)).toArray w := by
          rw [Array.mapM_eq_mapM_toList]
          simp only [Sem.run_map, run_mapM_places w fs.toList hok, Result.andThen_ok]
        have hrel := partsOf_rel hu parts.toList ps hps
        have hfill := fill_eq ha (fun i => (fs.toList.map fun f => (f.offset, (sizeT P f.type).getD 0)).toArray[i]?) parts.toList ps z cs (All2.imp (fun p q h => by
          obtain ⟨⟨f, hf, ho, hs⟩, he⟩ := h
          refine ⟨?_, he⟩
          simp [hf, hs, ho]) hrel) hcs
        have hparts : (parts.map fun x => (x.1, a.eval x.2)).toList = parts.toList.map fun p => (p.1, a.eval p.2) := by simp
        simp only [execOp, Instr.build, Sem.run_bind, hzr, Result.andThen_ok, run_underlying hu, hpl, hzc]
        rw [show (Array.map (fun x => match x with | (i, x) => (i, a.eval x)) parts).toList = parts.toList.map fun p => (p.1, a.eval p.2) from by simp]
        rw [hfill]
        simp
      · cases hok
    · cases hj
  case makeFunc fn first caps =>
    cases fn <;> simp only [reduceCtorEq] at hj
    split at hj
    · rename_i hf
      obtain ⟨d, hd, rfl⟩ := Option.map_eq_some_iff.1 hj
      obtain ⟨cs, hcs, hK⟩ := bd_elim hv
      refine ⟨_, hK, fun w _ => ?_, (d1 hd).1, (d1 hd).2⟩
      have hfe : first = #[] := by simpa using hf
      subst hfe
      have := ha.evals hcs
      have hc : caps.map a.eval = cs.toArray := by apply Array.ext'; simpa using this
      simp [execOp, Instr.makeFunc, hc]
    · cases hj
  case nilCheck x =>
    obtain ⟨d, hd, rfl⟩ := Option.map_eq_some_iff.1 hj
    obtain ⟨v, hx, hv⟩ := bd_elim hv
    obtain ⟨u, hu, hK⟩ := bd_elim hv
    refine ⟨u, hK, fun w _ => ?_, (dst0_some hd).1, (dst0_some hd).2⟩
    unfold nchV at hu
    split at hu
    · cases hu; simp [execOp, ha.eval hx]
    · cases hu; simp [execOp, ha.eval hx]
    · cases hu
  case convert s t x =>
    obtain ⟨d, hd, hj⟩ := Option.bind_eq_some_iff.1 hj
    split at hj
    · rename_i k1 k hs hu
      cases hj
      obtain ⟨v, hx, hv⟩ := bd_elim hv
      obtain ⟨u, hu', hK⟩ := bd_elim hv
      refine ⟨u, hK, fun w _ => ?_, (d1 hd).1, (d1 hd).2⟩
      cases v <;> simp only [cvtV, reduceCtorEq, Option.some.injEq] at hu'
      subst hu'
      simp [execOp, ha.eval hx, convert, run_underlying hs, run_underlying hu, Conv.intToInt]
    · cases hj; cases ht
    · cases hj
  case binOp op t x y yt =>
    obtain ⟨d, hd, hj⟩ := Option.bind_eq_some_iff.1 hj
    have hmain : ∀ (v u : Value) (r : Value), evO σ x = some v → evO σ y = some u → (∀ w : World, (eqGuard op t x y v u).run P w = .ok () w) → (∀ w : World, (binOp op t v u).run P w = .ok r w) → ∀ w : World,
        (execOp a.eval ⟨dst, .binOp op t x y yt, type, pos, after, guard⟩).run P w = .ok (.value r) w := by
      intro v u r hx hy hg hb w
      simp [execOp, ha.eval hx, ha.eval hy, hg w, hb w]
    have hgi : ∀ (v u : Value), plainTwo v u → ∀ w : World, (eqGuard op t x y v u).run P w = .ok () w := fun v u h w => eqGuard_plain op t x y h w
    have heqb : ∀ (neg : Bool) (hop : op = if neg then .neq else .eql) (hu : P.underlying t = some .bool), j = .eqb d neg x y → ∃ v, K v ∧ (∀ w : World, heapOk m h w.heap → (execOp a.eval ⟨dst, .binOp op t x y yt, type, pos, after, guard⟩).run P w = .ok (.value v) w) ∧ dst = some d ∧ ∀ k, some d = some k → k < n := by
      rintro neg hop hu rfl
      obtain ⟨v, hx, g1⟩ := bd_elim hv
      obtain ⟨u, hy, g2⟩ := bd_elim g1
      obtain ⟨r, hr, hK⟩ := bd_elim g2
      refine ⟨r, hK, fun w _ => ?_, (d1 hd).1, (d1 hd).2⟩
      cases v <;> cases u <;> simp only [eqB, reduceCtorEq, Option.some.injEq] at hr
      refine hmain _ _ _ hx hy (hgi _ _ trivial) (fun w => ?_) w
      subst hr; subst hop
      exact bin_eq w neg rfl rfl (eqIn_bool w _ hu _ _)
    have heqn : ∀ (sl neg : Bool) (hop : op = if neg then .neq else .eql) (hu : if sl then (∃ e, P.underlying t = some (.slice e)) else (∃ e, P.underlying t = some (.pointer e))), j = .eqn d sl neg x y → ∃ v, K v ∧ (∀ w : World, heapOk m h w.heap → (execOp a.eval ⟨dst, .binOp op t x y yt, type, pos, after, guard⟩).run P w = .ok (.value v) w) ∧ dst = some d ∧ ∀ k, some d = some k → k < n := by
      rintro sl neg hop hu rfl
      obtain ⟨v, hx, g1⟩ := bd_elim hv
      obtain ⟨u, hy, g2⟩ := bd_elim g1
      obtain ⟨r, hr, hK⟩ := bd_elim g2
      refine ⟨r, hK, fun w _ => ?_, (d1 hd).1, (d1 hd).2⟩
      subst hop
      have hfin : ∀ b : Bool, plainTwo v u → (∀ w : World, (binOp (if neg then .neq else .eql) t v u).run P w = .ok (.bool b) w) → Value.bool b = r →
          (execOp a.eval ⟨dst, .binOp (if neg then .neq else .eql) t x y yt, type, pos, after, guard⟩).run P w = .ok (.value r) w := by
        rintro b h1 h2 rfl
        exact hmain _ _ _ hx hy (hgi _ _ h1) h2 w
      cases sl
      · obtain ⟨e, hu⟩ := hu
        cases v <;> cases u <;> (try simp only [eqN, reduceCtorEq] at hr)
        rename_i p q
        cases p with
        | none =>
          simp only [eqN, Option.some.injEq] at hr
          exact hfin _ trivial (fun w => bin_eq w neg rfl rfl (eqIn_pn w _ hu _)) hr
        | some p =>
          cases q <;> simp only [eqN, reduceCtorEq, Option.some.injEq] at hr
          refine hfin _ trivial (fun w => bin_eq w neg rfl rfl (eqIn_np w _ hu _)) ?_
          rw [← hr]; cases neg <;> rfl
      · obtain ⟨e, hu⟩ := hu
        cases v <;> cases u <;> (try simp only [eqN, reduceCtorEq] at hr)
        rename_i p n1 c1 q n2 c2
        cases p with
        | none =>
          simp only [eqN, Option.some.injEq] at hr
          exact hfin _ trivial (fun w => bin_eq w neg rfl rfl (eqIn_sn w _ hu _ _ _ _ _)) hr
        | some p =>
          cases q <;> simp only [eqN, reduceCtorEq, Option.some.injEq] at hr
          refine hfin _ trivial (fun w => bin_eq w neg rfl rfl (eqIn_ns w _ hu _ _ _ _ _)) ?_
          rw [← hr]; cases neg <;> rfl
    have heqa : ∀ (neg : Bool) (ks : List Kd) (hop : op = if neg then .neq else .eql) (hu : ∃ fs, P.underlying t = some (.struct fs)), P.eqGuardType P.depth t = false → flatT P 20 t = some ks → j = .eqa d neg ks x y → ∃ v, K v ∧ (∀ w : World, heapOk m h w.heap → (execOp a.eval ⟨dst, .binOp op t x y yt, type, pos, after, guard⟩).run P w = .ok (.value v) w) ∧ dst = some d ∧ ∀ k, some d = some k → k < n := by
      rintro neg ks hop ⟨fs, hu⟩ hgt hfl rfl
      obtain ⟨v, hx, g1⟩ := bd_elim hv
      obtain ⟨u, hy, g2⟩ := bd_elim g1
      obtain ⟨r, hr, hK⟩ := bd_elim g2
      refine ⟨r, hK, fun w _ => ?_, (d1 hd).1, (d1 hd).2⟩
      unfold eqA at hr
      split at hr
      · rename_i xs ys
        obtain ⟨b, hb, rfl⟩ := Option.map_eq_some_iff.1 hr
        have he : ∀ w : World, (Op.equalIn 10000 t (.agg xs) (.agg ys)).run P w = .ok b w := by
          intro w
          have := equalIn_flat w 20 10000 (by decide) t ks xs.toList ys.toList b hfl hb
          simpa [mkV, hu] using this
        refine hmain _ _ _ hx hy (fun w => run_eqGuard_agg w op t x y xs ys hgt) (fun w => ?_) w
        cases neg <;> simp at hop <;> subst hop
        · rw [run_eql_struct, he]; rfl
        · rw [run_neq_struct, he]; rfl
      · cases hr
    have hbin : j = .bin d op x y → ∃ v, K v ∧ (∀ w : World, heapOk m h w.heap → (execOp a.eval ⟨dst, .binOp op t x y yt, type, pos, after, guard⟩).run P w = .ok (.value v) w) ∧ dst = some d ∧ ∀ k, some d = some k → k < n := by
      rintro rfl
      obtain ⟨v, hx, g1⟩ := bd_elim hv
      obtain ⟨u, hy, g2⟩ := bd_elim g1
      obtain ⟨r, hr, hK⟩ := bd_elim g2
      refine ⟨r, hK, fun w _ => ?_, (d1 hd).1, (d1 hd).2⟩
      cases v <;> cases u <;> simp only [binV, reduceCtorEq] at hr
      · split at hr
        · cases hr
        · rename_i hk
          have hk' := Classical.not_not.1 hk
          subst hk'
          refine hmain _ _ _ hx hy (hgi _ _ trivial) (fun w => ?_) w
          cases op <;> simp only [reduceCtorEq, Option.some.injEq] at hr <;> subst hr <;> simp [binOp, Op.intArith, Op.intCmp]
      · refine hmain _ _ _ hx hy (hgi _ _ trivial) (fun w => ?_) w
        cases op <;> simp only [reduceCtorEq, Option.some.injEq] at hr <;> subst hr <;> simp [binOp, Op.stringOp]
    generalize hu : P.underlying t = U at hj
    split at hj
    · cases hj; exact heqb false rfl hu rfl
    · cases hj; exact heqb true rfl hu rfl
    · cases hj; exact heqn false false rfl ⟨_, hu⟩ rfl
    · cases hj; exact heqn true false rfl ⟨_, hu⟩ rfl
    · cases hj; exact heqn false true rfl ⟨_, hu⟩ rfl
    · cases hj; exact heqn true true rfl ⟨_, hu⟩ rfl
    · split at hj
      · rename_i hg; obtain ⟨ks, hks, rfl⟩ := Option.map_eq_some_iff.1 hj; exact heqa false ks rfl ⟨_, hu⟩ hg hks rfl
      · cases hj
    · split at hj
      · rename_i hg; obtain ⟨ks, hks, rfl⟩ := Option.map_eq_some_iff.1 hj; exact heqa true ks rfl ⟨_, hu⟩ hg hks rfl
      · cases hj
    · cases hj; cases ht
    · cases hj; cases ht
    · cases hj; cases ht
    · cases hj; cases ht
    · cases hj; exact hbin rfl
    · cases hj; exact hbin rfl
    · cases hj
  case call c =>
    obtain ⟨callee, args, argTypes⟩ := c
    simp only at hj
    split at hj
    · split at hj
      · obtain ⟨d, _, rfl⟩ := Option.map_eq_some_iff.1 hj; cases ht
      · obtain ⟨d, _, rfl⟩ := Option.map_eq_some_iff.1 hj; cases ht
    · obtain ⟨d, _, rfl⟩ := Option.map_eq_some_iff.1 hj; cases ht
    · -- len
      obtain ⟨d, hd, hj⟩ := Option.bind_eq_some_iff.1 hj
      generalize hU : (argTypes[0]?).bind P.underlying = U at hj
      generalize hA : args.toList = A at hj
      split at hj
      · rename_i x
        cases hj
        obtain ⟨v, hv1, g1⟩ := bd_elim hv
        obtain ⟨r, hr, hK⟩ := bd_elim g1
        refine ⟨r, hK, fun w _ => ?_, (d1 hd).1, (d1 hd).2⟩
        have hargs : args = #[x] := by apply Array.ext'; simpa using hA
        subst hargs
        obtain ⟨t, hat, hu⟩ := Option.bind_eq_some_iff.1 hU
        simp only [execOp, resolve, invoke, builtin, Sem.run_bind, Sem.run_pure, Result.andThen_ok, List.map_toArray, List.map_cons, List.map_nil, ha.eval hv1]
        cases v <;> simp only [lenV, reduceCtorEq, Option.some.injEq] at hr
        subst hr
        simp [Builtin.len_, hat, run_underlying hu, goInt]
      · rename_i e x
        cases hj
        obtain ⟨v, hv1, g1⟩ := bd_elim hv
        obtain ⟨r, hr, hK⟩ := bd_elim g1
        refine ⟨r, hK, fun w _ => ?_, (d1 hd).1, (d1 hd).2⟩
        have hargs : args = #[x] := by apply Array.ext'; simpa using hA
        subst hargs
        obtain ⟨t, hat, hu⟩ := Option.bind_eq_some_iff.1 hU
        simp only [execOp, resolve, invoke, builtin, Sem.run_bind, Sem.run_pure, Result.andThen_ok, List.map_toArray, List.map_cons, List.map_nil, ha.eval hv1]
        cases v <;> simp only [lenV, reduceCtorEq, Option.some.injEq] at hr
        subst hr
        simp [Builtin.len_, hat, run_underlying hu, goInt]
      · cases hj
    · -- cap
      obtain ⟨d, hd, hj⟩ := Option.bind_eq_some_iff.1 hj
      generalize hU : (argTypes[0]?).bind P.underlying = U at hj
      generalize hA : args.toList = A at hj
      split at hj
      · rename_i e x
        cases hj
        obtain ⟨v, hv1, g1⟩ := bd_elim hv
        obtain ⟨r, hr, hK⟩ := bd_elim g1
        refine ⟨r, hK, fun w _ => ?_, (d1 hd).1, (d1 hd).2⟩
        have hargs : args = #[x] := by apply Array.ext'; simpa using hA
        subst hargs
        obtain ⟨t, hat, hu⟩ := Option.bind_eq_some_iff.1 hU
        simp only [execOp, resolve, invoke, builtin, Sem.run_bind, Sem.run_pure, Result.andThen_ok, List.map_toArray, List.map_cons, List.map_nil, ha.eval hv1]
        cases v <;> simp only [capV, reduceCtorEq, Option.some.injEq] at hr
        subst hr
        simp [Builtin.cap_, hat, run_underlying hu, goInt]
      · cases hj
    · -- max
      obtain ⟨d, hd, hj⟩ := Option.bind_eq_some_iff.1 hj
      generalize hA : args.toList = A at hj
      split at hj
      · rename_i x y
        cases hj
        obtain ⟨v, hv1, g1⟩ := bd_elim hv
        obtain ⟨u, hv2, g2⟩ := bd_elim g1
        obtain ⟨r, hr, hK⟩ := bd_elim g2
        refine ⟨r, hK, fun w _ => ?_, (d1 hd).1, (d1 hd).2⟩
        have hargs : args = #[x, y] := by apply Array.ext'; simpa using hA
        subst hargs
        simp only [execOp, resolve, invoke, builtin, Sem.run_bind, Sem.run_pure, Result.andThen_ok, List.map_toArray, List.map_cons, List.map_nil, ha.eval hv1, ha.eval hv2]
        cases v <;> cases u <;> simp only [maxV, reduceCtorEq, Option.some.injEq] at hr
        subst hr
        simp [Builtin.max_, Builtin.max2]
      · cases hj
    · -- min
      obtain ⟨d, hd, hj⟩ := Option.bind_eq_some_iff.1 hj
      generalize hA : args.toList = A at hj
      split at hj
      · rename_i x y
        cases hj
        obtain ⟨v, hv1, g1⟩ := bd_elim hv
        obtain ⟨u, hv2, g2⟩ := bd_elim g1
        obtain ⟨r, hr, hK⟩ := bd_elim g2
        refine ⟨r, hK, fun w _ => ?_, (d1 hd).1, (d1 hd).2⟩
        have hargs : args = #[x, y] := by apply Array.ext'; simpa using hA
        subst hargs
        simp only [execOp, resolve, invoke, builtin, Sem.run_bind, Sem.run_pure, Result.andThen_ok, List.map_toArray, List.map_cons, List.map_nil, ha.eval hv1, ha.eval hv2]
        cases v <;> cases u <;> simp only [maxV, reduceCtorEq, Option.some.injEq] at hr
        subst hr
        simp [Builtin.min_, Builtin.min2]
      · cases hj
    all_goals first
      | (cases hj; done)
      | (obtain ⟨d, _, rfl⟩ := Option.map_eq_some_iff.1 hj; cases ht)
  case alloc t =>
    simp only [Option.bind_eq_some_iff, Option.map_eq_some_iff] at hj
    obtain ⟨d, _, z, _, rfl⟩ := hj; cases ht
  case box t x => obtain ⟨d, _, rfl⟩ := Option.map_eq_some_iff.1 hj; cases ht
  case buildSlice t len parts =>
    obtain ⟨d, _, hj⟩ := Option.bind_eq_some_iff.1 hj
    split at hj
    · obtain ⟨z, _, hj⟩ := Option.bind_eq_some_iff.1 hj
      split at hj
      · split at hj
        · cases hj; cases ht
        · cases hj
      split at hj
      · cases hj
      · obtain ⟨zc, _, hj⟩ := Option.bind_eq_some_iff.1 hj
        split at hj
        · cases hj
        · cases hj; cases ht
    · cases hj
  all_goals (obtain ⟨d, _, rfl⟩ := Option.map_eq_some_iff.1 hj; cases ht)
end Go.AX
