/-
  The walks and plain laws under the laws of one package: texts of mine put together, what they do not use left out (wip/tools/prune.py).
-/
import Derived.Test.YtefghfgmkndikaaW6
set_option linter.unusedSimpArgs false
set_option linter.unusedVariables false
open Nat renaming reduceEqDiff → Z1, reduceAdd → Z2, reduceMul → Z3, reduceLT → Z4, reduceLeDiff → Z5, le_of_ble_eq_true → Lb
namespace Go.AX
open Go
theorem run_check_flat {P : Program} (em : Bool) : ∀ (d N : Nat),d ≤ N → ∀ (t : TypeId) (ks : List Kd) (xs : List Value) (w : World),flatT P d t = some ks → xs.length = ks.length → (Instr.checkKey em N t (mkV P t xs)).run P w = .ok () w
 | 0,_,_,_,_,_,_,h,_ => by cases h
 | d + 1,0,hN,_,_,_,_,_,_ => by omega
 | d + 1,N + 1,hN,t,ks,xs,w,h,hl => by
  unfold flatT at h
  split at h
  ·rename_i k hu
   unfold Instr.checkKey
   simp only [Sem.run_bind,run_underlying hu,Result.andThen_ok]
   rfl
  ·rename_i hu
   unfold Instr.checkKey
   simp only [Sem.run_bind,run_underlying hu,Result.andThen_ok]
   rfl
  ·rename_i hu
   unfold Instr.checkKey
   simp only [Sem.run_bind,run_underlying hu,Result.andThen_ok]
   rfl
  ·rename_i fs hu
   split at h
   ·cases h
   ·obtain ⟨a,hfs,h2⟩ := Option.bind_eq_some_iff.1 h
    split at h2
    ·cases h2
     have hm : mkV P t xs = .agg xs.toArray := by simp [mkV,hu]
     rw [hm,Instr.checkKey]
     simp only [Sem.run_bind,run_underlying hu,Result.andThen_ok]
     rw [← Array.forIn_toList]
     have key : ∀ (L : List Field) (o : Nat) (ks' : List Kd),flatFs (flatT P d) o L = some ks' → o + ks'.length ≤ xs.length →
       (∀ f ∈ L, f.name ≠ "_" ∧ ∃ a : List Kd, flatT P d f.type = some a ∧ f.offset + a.length ≤ xs.length) := by
      intro L
      induction L with
      | nil => intro o ks' _ _ f hf; cases hf
      | cons f L ih =>
       intro o ks' h hle g hg
       unfold flatFs at h
       split at h
       ·cases h
       ·rename_i hno
        have hname : f.name ≠ "_" := fun e => hno (.inl e)
        have hoff : f.offset = o := Classical.byContradiction fun e => hno (.inr e)
        obtain ⟨a,ha,h⟩ := Option.bind_eq_some_iff.1 h
        split at h
        ·cases h
        ·obtain ⟨ks2,hk2,rfl⟩ := Option.map_eq_some_iff.1 h
         rw [List.length_append] at hle
         rcases List.mem_cons.1 hg with e | hg
         ·subst e
          exact ⟨hname,a,ha,by omega⟩
         ·exact ih (o + a.length) ks2 hk2 (by omega) g hg
     have each := key fs.toList 0 _ hfs (by omega)
     clear key hfs
     generalize fs.toList = L at each
     induction L with
     | nil => simp
     | cons f L ih =>
      obtain ⟨hn,a,ha,hle⟩ := each f (by simp)
      have p1 := run_part_flat ha xs f.offset hle w
      have p2 := run_check_flat em d N (by omega) f.type a ((xs.drop f.offset).take a.length) w ha (by rw [List.length_take,List.length_drop]; omega)
      simp only [List.forIn_cons,Sem.run_bind,hn,ne_eq,not_false_eq_true,if_true,Result.andThen_ok,p1,p2,Sem.run_pure]
      exact ih (fun y hy => each y (by simp [hy]))
    ·cases h2
  ·cases h
end Go.AX
namespace Go.Proofs.Ytefghfgmkndikaa
open Go Go.AX Go.MapKept
theorem str37k : (match Try.prog.underlying 37 with | some (.struct _) => true | _ => false) = true := by kernel_rfl
theorem und37k : ∃ fs,Try.prog.underlying 37 = some (.struct fs) := by
 have h := str37k
 split at h
 ·rename_i fs hu; exact ⟨fs,hu⟩
 ·cases h
theorem flat37k : flatT Try.prog 20 37 = some [.i .i64,.i .i64,.i .i64,.i .i64] := by kernel_rfl
theorem und182 : Try.prog.underlying 182 = some (.map 37 3) := by kernel_rfl
def kTry (t : Try4) : Value := .agg (eTry t).toArray
theorem zero3v : (Try.prog.info? 3).bind (fun i => i.zero) = some (.int .i64 0) := by kernel_rfl
theorem run_zero3v (w : World) : (zeroValue 3).run Try.prog w = .ok (vi 0) w := by
 obtain ⟨i,hi,hz⟩ := Option.bind_eq_some_iff.1 zero3v
 simp [zeroValue,typeInfo,hi,hz]
theorem run_checkTry (em : Bool) (t : Try4) (w : World) : (Instr.checkKey em 10000 37 (kTry t)).run Try.prog w = .ok () w := by
 obtain ⟨fs,hu⟩ := und37k
 have := run_check_flat em 20 10000 (by decide) 37 _ (eTry t) w flat37k rfl
 simpa [mkV,hu,kTry] using this
theorem run_eqTry (s t : Try4) (w : World) : (Op.equal 37 (kTry s) (kTry t)).run Try.prog w = .ok (decide (s = t)) w := by
 obtain ⟨fs,hu⟩ := und37k
 have h := eqA_try s t
 obtain ⟨b,hb,e⟩ := Option.map_eq_some_iff.1 (show (eqKds [.i .i64,.i .i64,.i .i64,.i .i64] (eTry s) (eTry t)).map (fun b => Value.bool (if false then !b else b)) = some (.bool (decide (s = t))) from h)
 have e' : b = decide (s = t) := by simpa using e
 subst e'
 have := equalIn_flat (P := Try.prog) w 20 Op.maxDepth (by decide) 37 _ (eTry s) (eTry t) _ flat37k hb
 simpa [mkV,hu,kTry,Op.equal] using this
def mk3 (x : (Try4 × Int) × Nat) : MapEntry := ⟨kTry x.1.1,vi x.1.2,x.2⟩
def mE (l : List (Try4 × Int)) : List MapEntry := l.zipIdx.map mk3
theorem mE_at (l : List (Try4 × Int)) (i : Nat) : (mE l)[i]? = l[i]?.map fun x => ⟨kTry x.1,vi x.2,i⟩ := by
 unfold mE
 rw [List.getElem?_map,List.getElem?_zipIdx,Option.map_map]
 simp only [Nat.zero_add]
 rfl
theorem mE_len (l : List (Try4 × Int)) : (mE l).length = l.length := by simp [mE]
theorem mE_snoc (l : List (Try4 × Int)) (x : Try4 × Int) : mE (l ++ [x]) = mE l ++ [⟨kTry x.1,vi x.2,l.length⟩] := by
 unfold mE
 rw [List.zipIdx_append,List.map_append]
 simp [mk3]
/-- The first entry of a key: its place, its value. -/
def fndL (t : Try4) : List (Try4 × Int) → Nat → Option (Nat × Int)
 | [],_ => none
 | x :: l,i => if t = x.1 then some (i,x.2) else fndL t l (i + 1)
theorem fndL_some {t : Try4} : ∀ {l : List (Try4 × Int)} {i j : Nat} {v : Int},fndL t l i = some (j,v) → ∃ k,j = i + k ∧ l[k]? = some (t,v)
 | [],_,_,_,h => by cases h
 | x :: l,i,j,v,h => by
  unfold fndL at h
  split at h
  ·rename_i e
   cases h
   refine ⟨0,rfl,?_⟩
   rw [e]; rfl
  ·obtain ⟨k,rfl,h2⟩ := fndL_some h
   exact ⟨k + 1,by omega,h2⟩
theorem fndL_none {t : Try4} : ∀ {l : List (Try4 × Int)} {i : Nat},(∀ x ∈ l, ¬ t = x.1) → fndL t l i = none
 | [],_,_ => rfl
 | x :: l,i,h => by
  unfold fndL
  rw [if_neg (h x (List.mem_cons_self ..))]
  exact fndL_none fun y hy => h y (List.mem_cons_of_mem _ hy)
theorem fndL_snoc {t : Try4} {v : Int} : ∀ {l : List (Try4 × Int)} {i : Nat},(∀ x ∈ l, ¬ t = x.1) → fndL t (l ++ [(t,v)]) i = some (i + l.length,v)
 | [],i,_ => by simp [fndL]
 | x :: l,i,h => by
  rw [List.cons_append,fndL,if_neg (h x (List.mem_cons_self ..)),fndL_snoc fun y hy => h y (List.mem_cons_of_mem _ hy),List.length_cons]
  congr 2
  omega
theorem fndL_mem {t : Try4} : ∀ {l : List (Try4 × Int)} {i : Nat},(∃ x ∈ l,t = x.1) → ∃ j v,fndL t l i = some (j,v)
 | [],_,h => by obtain ⟨x,hx,_⟩ := h; cases hx
 | x :: l,i,h => by
  unfold fndL
  by_cases e : t = x.1
  ·rw [if_pos e]; exact ⟨_,_,rfl⟩
  ·rw [if_neg e]
   obtain ⟨y,hy,hz⟩ := h
   rcases List.mem_cons.1 hy with e' | hy
   ·subst e'; exact absurd hz e
   ·exact fndL_mem ⟨y,hy,hz⟩
theorem fndL_set {t : Try4} {v : Int} : ∀ {l : List (Try4 × Int)} {i j : Nat} {u : Int},fndL t l i = some (i + j,u) → fndL t (l.set j (t,v)) i = some (i + j,v)
 | [],_,_,_,h => by cases h
 | x :: l,i,j,u,h => by
  unfold fndL at h
  split at h
  ·rename_i e
   have : j = 0 := by have := Option.some.inj h; have := congrArg Prod.fst this; simp at this; omega
   subst this
   simp [fndL]
  ·rename_i e
   obtain ⟨k,hk,hl⟩ := fndL_some h
   have : j = k + 1 := by omega
   subst this
   rw [List.set_cons_succ,fndL,if_neg e]
   have h' : fndL t l (i + 1) = some (i + 1 + k,u) := by rw [h,show i + (k + 1) = i + 1 + k by omega]
   rw [fndL_set h',show i + (k + 1) = i + 1 + k by omega]
theorem run_askTry (w : World) (t : Try4) : ∀ (l : List (Try4 × Int)) (n i : Nat),(Instr.findAsking 37 (kTry t) ((l.zipIdx n).map mk3) i).run Try.prog w = .ok ((fndL t l i).map fun p => (p.1,vi p.2)) w
 | [],n,i => rfl
 | x :: l,n,i => by
  rw [List.zipIdx_cons,List.map_cons,Instr.findAsking,fndL]
  simp only [Sem.run_bind,mk3,run_eqTry,Result.andThen_ok]
  by_cases e : t = x.1
  ·rw [if_pos e,e]; simp
  ·have := run_askTry w t l (n + 1) (i + 1)
   rw [if_neg e]
   simp only [e,decide_false,Bool.false_eq_true,if_false]
   exact this
theorem run_findTry (w : World) (t : Try4) (l : List (Try4 × Int)) : (Instr.findKey 37 (kTry t) (mE l)).run Try.prog w = .ok ((fndL t l 0).map fun p => (p.1,vi p.2)) w := by
 obtain ⟨fs,hu⟩ := und37k
 cases l with
 | nil => simp [Instr.findKey,run_underlying hu,mE,Instr.findNow,fndL]
 | cons x l =>
  have h := run_askTry w t (x :: l) 0 0
  have hm : mE (x :: l) = mk3 (x,0) :: (l.zipIdx 1).map mk3 := by unfold mE; rw [List.zipIdx_cons,List.map_cons]
  have hn : Instr.findNow (.struct fs) (kTry t) (mE (x :: l)) 0 = none := by rw [hm]; rfl
  simp only [Instr.findKey,Sem.run_bind,run_underlying hu,Result.andThen_ok,hn]
  exact h
structure MapSt (h : Heap) (b : Nat) (l : List (Try4 × Int)) : Prop where
 at_ : h[b]? = some (.map (mE l).toArray l.length)
theorem MapSt.ext {h h' : Heap} {b : Nat} {l : List (Try4 × Int)} (M : MapSt h b l) (x : Ext h h') : MapSt h' b l := by
 have hb : b < h.size := by
  rcases Nat.lt_or_ge b h.size with hl | hl
  ·exact hl
  ·have := M.at_; rw [Array.getElem?_eq_none hl] at this; cases this
 exact ⟨(x.at_ b hb).trans M.at_⟩
theorem MapSt.upd {h h' : Heap} {b c : Nat} {l : List (Try4 × Int)} (M : MapSt h b l) (u : Upd c h h') (hc : b ≠ c) : MapSt h' b l := ⟨(u.ne b hc).trans M.at_⟩
theorem MapSt.lt {h : Heap} {b : Nat} {l : List (Try4 × Int)} (M : MapSt h b l) : b < h.size := by
 rcases Nat.lt_or_ge b h.size with hl | hl
 ·exact hl
 ·have := M.at_; rw [Array.getElem?_eq_none hl] at this; cases this
def valL (t : Try4) (l : List (Try4 × Int)) : Int := match fndL t l 0 with | some p => p.2 | none => 0
section
variable {o : Oper} {σ : Env} {h : Heap} {K : Value → Heap → Prop} {x y z : Operand} {b : Nat} {l : List (Try4 × Int)} {t : Try4}
theorem raw_lookup (ho : o.op = .lookup 182 x y false) (hx : evO σ x = some (.map (some b))) (hy : evO σ y = some (kTry t)) (M : MapSt h b l) (H : K (vi (valL t l)) h) : RawW Try.prog o σ h K := by
 refine ⟨?_,?_,?_⟩
 ·rw [ho]; intro u hu
  simp only [Op.operands,List.mem_toArray,List.mem_cons,List.not_mem_nil,or_false] at hu
  rcases hu with rfl | rfl
  ·rw [hx]; rfl
  ·rw [hy]; rfl
 ·rw [ho]; intro cs b hh; cases hh
 ·intro w hw
  have hrun : (Instr.lookup 182 (.map (some b)) (kTry t) false).run Try.prog w = .ok (vi (valL t l)) w := by
   have hb : w.heap[b]? = some (.map (mE l).toArray l.length) := by rw [hw]; exact M.at_
   unfold valL
   cases hf : fndL t l 0 with
   | none => simp [Instr.lookup,run_underlying und182,MapKept.run_getObj_map hb,run_checkTry,run_findTry,hf,run_zero3v,Result.andThen]
   | some p => simp [Instr.lookup,run_underlying und182,MapKept.run_getObj_map hb,run_checkTry,run_findTry,hf,Result.andThen]
  refine ⟨.value (vi (valL t l)),_,w,?_,rfl,Same.refl w,by rw [hw]; exact H⟩
  simp [execOp,ho,hx,hy,hrun]
theorem sameTry (t : Try4) (w : World) : (Instr.keyThatStays (kTry t) (kTry t)).run Try.prog w = .ok (kTry t) w := by
 have : Instr.sameBits 10000 (kTry t) (kTry t) = true := by simp [Instr.sameBits,kTry,eTry]
 simp [Instr.keyThatStays,this]
theorem upd_set (h : Heap) (b : Nat) (x : Obj) : Upd b h (h.setIfInBounds b x) := ⟨by simp,fun c hc => by rw [Array.getElem?_setIfInBounds_ne (by omega)]⟩
/-- An entry that is not there comes. -/
theorem raw_entryN (ho : o.op = .mapEntry 182 x y) (hx : evO σ x = some (.map (some b))) (hy : evO σ y = some (kTry t)) (M : MapSt h b l) (hf : fndL t l 0 = none)
  (H : ∀ h',Upd b h h' → MapSt h' b (l ++ [(t,0)]) → K (.tuple #[vi 0,vi l.length]) h') : RawW Try.prog o σ h K := by
 refine ⟨?_,?_,?_⟩
 ·rw [ho]; intro u hu
  simp only [Op.operands,List.mem_toArray,List.mem_cons,List.not_mem_nil,or_false] at hu
  rcases hu with rfl | rfl
  ·rw [hx]; rfl
  ·rw [hy]; rfl
 ·rw [ho]; intro cs b hh; cases hh
 ·intro w hw
  subst hw
  have hb := M.at_
  have hrun : (Instr.mapEntry 182 (.map (some b)) (kTry t)).run Try.prog w = .ok (.tuple #[vi 0,vi l.length]) { w with heap := w.heap.setIfInBounds b (.map (mE (l ++ [(t,0)])).toArray (l ++ [(t,0)]).length) } := by
   have e : ((mE l).toArray.push ⟨kTry t,vi 0,l.length⟩) = (mE (l ++ [(t,0)])).toArray := by rw [mE_snoc]; simp
   simp [Instr.mapEntry,run_underlying und182,MapKept.run_getObj_map hb,run_checkTry,run_findTry,hf,run_zero3v,MapKept.run_setObj_map _ hb,Result.andThen,← e,goInt]
  refine ⟨.value (.tuple #[vi 0,vi l.length]),_, { w with heap := w.heap.setIfInBounds b (.map (mE (l ++ [(t,0)])).toArray (l ++ [(t,0)]).length) },?_,rfl,?_,H _ (upd_set _ b _) ⟨by simp [M.lt]⟩⟩
  ·simp [execOp,ho,hx,hy,hrun]
  ·exact ⟨rfl,rfl,rfl⟩
/-- An entry that is there. -/
theorem raw_entryS {j : Nat} {v : Int} (ho : o.op = .mapEntry 182 x y) (hx : evO σ x = some (.map (some b))) (hy : evO σ y = some (kTry t)) (M : MapSt h b l) (hf : fndL t l 0 = some (j,v))
  (H : ∀ h',Upd b h h' → MapSt h' b l → K (.tuple #[vi v,vi j]) h') : RawW Try.prog o σ h K := by
 refine ⟨?_,?_,?_⟩
 ·rw [ho]; intro u hu
  simp only [Op.operands,List.mem_toArray,List.mem_cons,List.not_mem_nil,or_false] at hu
  rcases hu with rfl | rfl
  ·rw [hx]; rfl
  ·rw [hy]; rfl
 ·rw [ho]; intro cs b hh; cases hh
 ·intro w hw
  subst hw
  have hb := M.at_
  obtain ⟨k,hk,hl⟩ := fndL_some hf
  have hk' : j = k := by omega
  subst hk'
  have he : (mE l)[j]? = some ⟨kTry t,vi v,j⟩ := by rw [mE_at,hl]; rfl
  have hm : ((mE l).modify j fun e => { e with key := kTry t }) = mE l := by
   apply List.ext_getElem?
   intro i
   rw [List.getElem?_modify]
   by_cases e : j = i
   ·subst e
    simp [he]
   ·simp [e]
  have hrun : (Instr.mapEntry 182 (.map (some b)) (kTry t)).run Try.prog w = .ok (.tuple #[vi v,vi j]) { w with heap := w.heap.setIfInBounds b (.map (mE l).toArray l.length) } := by
   simp [Instr.mapEntry,run_underlying und182,MapKept.run_getObj_map hb,run_checkTry,run_findTry,hf,he,sameTry,MapKept.run_setObj_map _ hb,Result.andThen,goInt,hm]
  refine ⟨.value (.tuple #[vi v,vi j]),_, { w with heap := w.heap.setIfInBounds b (.map (mE l).toArray l.length) },?_,rfl,?_,H _ (upd_set _ b _) ⟨by simp [M.lt]⟩⟩
  ·simp [execOp,ho,hx,hy,hrun]
  ·exact ⟨rfl,rfl,rfl⟩
theorem raw_estore {j : Nat} {v u : Int} (ho : o.op = .entryStore 182 x y z) (hx : evO σ x = some (.map (some b))) (hy : evO σ y = some (vi j)) (hz : evO σ z = some (vi v)) (M : MapSt h b l) (hj : l[j]? = some (t,u))
  (H : ∀ h',Upd b h h' → MapSt h' b (l.set j (t,v)) → K undef h') : RawW Try.prog o σ h K := by
 refine ⟨?_,?_,?_⟩
 ·rw [ho]; intro u hu
  simp only [Op.operands,List.mem_toArray,List.mem_cons,List.not_mem_nil,or_false] at hu
  rcases hu with rfl | rfl | rfl
  ·rw [hx]; rfl
  ·rw [hy]; rfl
  ·rw [hz]; rfl
 ·rw [ho]; intro cs b hh; cases hh
 ·intro w hw
  subst hw
  have hb := M.at_
  have hjl : j < l.length := by
   rcases Nat.lt_or_ge j l.length with h | h
   ·exact h
   ·rw [List.getElem?_eq_none h] at hj; cases hj
  have hfi : (mE l).findIdx? (fun e => (e.born : Int) == (j : Int)) = some j := by
   rw [List.findIdx?_eq_some_iff_getElem]
   have hbn : ∀ i (hi : i < (mE l).length),(mE l)[i].born = i := by
    intro i hi
    have := mE_at l i
    rw [List.getElem?_eq_getElem hi] at this
    have hi' : i < l.length := by rw [mE_len] at hi; exact hi
    rw [List.getElem?_eq_getElem hi'] at this
    have := Option.some.inj this
    rw [this]
   refine ⟨by rw [mE_len]; exact hjl,?_,?_⟩
   ·rw [hbn]; simp
   ·intro i hi
    rw [hbn]
    simp
    omega
  have hm : ((mE l).modify j fun e => { e with val := vi v }) = mE (l.set j (t,v)) := by
   apply List.ext_getElem?
   intro i
   rw [List.getElem?_modify,mE_at,mE_at,List.getElem?_set]
   by_cases e : j = i
   ·subst e
    rw [hj]
    simp [hjl]
   ·simp [e]
  have hrun : (Instr.entryStore 182 (.map (some b)) (vi j) (vi v)).run Try.prog w = .ok () { w with heap := w.heap.setIfInBounds b (.map (mE (l.set j (t,v))).toArray (l.set j (t,v)).length) } := by
   simp [Instr.entryStore,MapKept.run_getObj_map hb,asInt,asIntOf,hfi,MapKept.run_setObj_map _ hb,Result.andThen,hm]
  refine ⟨.skip,undef, { w with heap := w.heap.setIfInBounds b (.map (mE (l.set j (t,v))).toArray (l.set j (t,v)).length) },?_,rfl,?_,H _ (upd_set _ b _) ⟨by simp [M.lt]⟩⟩
  ·simp [execOp,ho,hx,hy,hz,hrun]
  ·exact ⟨rfl,rfl,rfl⟩
end
theorem seen_keys {l : List Out} {k : Nat} {t : Try4} : (∀ x ∈ (l.take k).map (fun (o : Out) => (o.by_,(1 : Int))), ¬ t = x.1) ↔ findO (l.take k) t = none := by
 rw [findO_none_iff]
 constructor
 ·intro H o ho e
  exact H (o.by_,1) (List.mem_map.2 ⟨o,ho,rfl⟩) e.symm
 ·intro H x hx e
  obtain ⟨o,ho,rfl⟩ := List.mem_map.1 hx
  exact H o ho e.symm
set_option maxHeartbeats 2000000 in
theorem onceM_ok {B : Nat → Prop} {a : Option Addr} {c : Nat} (l : List Out) (h : Heap) (S : SlF B h eOut a l) (hn : l.length ≤ 1000000) {R : Value → Heap → Prop}
  (hR : ∀ (b : Bool) h',(b = true ↔ OnceP l) → Ext h h' → R (.bool b) h') : CallsH Try.prog 102 [.slice a l.length c] h R := by
 refine f102ok (by simp) ?_
 (try simp (maxSteps:=1000000) (disch:=first|exact Lb rfl|omega) only [AXS,AXB,J.dst,reduceIte,Z1,Z2,Z3,Z4,Z5]); rw [f102c0_eq]; (try simp (maxSteps:=1000000) (disch:=first|exact Lb rfl|omega) only [AXS,AXB,J.dst,reduceIte,Z1,Z2,Z3,Z4,Z5,f102r0]); rw [f102c1_eq]; (try simp (maxSteps:=1000000) (disch:=first|exact Lb rfl|omega) only [AXS,AXB,J.dst,reduceIte,Z1,Z2,Z3,Z4,Z5,f102r1])
 rw [wL_raw]
 refine raw_map rfl ?_
 intro h1 x1 z1 hm
 refine ⟨trivial,?_⟩
 (try simp (maxSteps:=1000000) (disch:=first|exact Lb rfl|omega) only [AXS,AXB,J.dst,reduceIte,Z1,Z2,Z3,Z4,Z5]); rw [f102c2_eq]; (try simp (maxSteps:=1000000) (disch:=first|exact Lb rfl|omega) only [AXS,AXB,J.dst,reduceIte,Z1,Z2,Z3,Z4,Z5,f102r2])
 rw [f102c3_eq]
 have M0 : MapSt h1 h.size [] := ⟨hm⟩
 refine loop_in (fun m σ h' => Ext h h' ∧ ∃ k : Nat,k + m = l.length ∧ OnceP (l.take k) ∧ MapSt h' h.size ((l.take k).map fun (o : Out) => (o.by_,(1 : Int))) ∧ σ = [(3,.map (some h.size)),(7,.slice a l.length c),(8,vi l.length),(9,vi k)]) l.length ⟨x1,0,by omega,List.nodup_nil,M0,rfl⟩ ?_
 rintro m σ h2 ⟨x2,k,hk,ho,M,rfl⟩ Q' hnx hex hrt _
 (try simp (maxSteps:=1000000) (disch:=first|exact Lb rfl|omega) only [AXS,AXB,J.dst,reduceIte,Z1,Z2,Z3,Z4,Z5]); rw [f102c4_eq]; (try simp (maxSteps:=1000000) (disch:=first|exact Lb rfl|omega) only [AXS,AXB,J.dst,reduceIte,Z1,Z2,Z3,Z4,Z5,f102r3]); rw [f102c5_eq]; (try simp (maxSteps:=1000000) (disch:=first|exact Lb rfl|omega) only [AXS,AXB,J.dst,reduceIte,Z1,Z2,Z3,Z4,Z5])
 refine ⟨fun hh => ?_,fun hh => ?_⟩
 ·have hkl : k < l.length := by have := of_decide_eq_true hh; omega
  obtain ⟨x,hx⟩ := get_ex hkl
  obtain ⟨b,o,rfl,_,hrow⟩ := (S.ext x2).elem eOut_len hx
  have hon := once_snoc hx
  have hml := M.lt
  try simp (maxSteps:=1000000) (disch:=first|exact Lb rfl|omega) only [AXS,AXB,J.dst,reduceIte,Z1,Z2,Z3,Z4,Z5]
  rw [f102c6_eq]
  (try simp (maxSteps:=1000000) (disch:=first|exact Lb rfl|omega) only [AXS,AXB,J.dst,reduceIte,Z1,Z2,Z3,Z4,Z5]); rw [f102c7_eq]; (try simp (maxSteps:=1000000) (disch:=first|exact Lb rfl|omega) only [AXS,AXB,J.dst,reduceIte,Z1,Z2,Z3,Z4,Z5,f102r4,row_out hrow])
  refine ⟨by omega,by omega,?_⟩
  refine wL_newN ?_; rintro b5 h3 x3 s3 hb5 B5
  try simp (maxSteps:=1000000) (disch:=first|exact Lb rfl|omega) only [AXS,AXB,J.dst,reduceIte,Z1,Z2,Z3,Z4,Z5]
  refine wL_stN rfl rfl rfl B5 (by decide) (eOut_one x) ?_
  rintro h4 u4 (B5 : Blk _ _ _ (eOut x))
  replace M := (M.ext x3).upd u4 (by omega)
  have x04 := u4.ext (x2.trans x3) (by have := x2.size; omega)
  have z3 := x3.size
  have z4 := u4.size
  have zh := x2.size
  have hb5l := B5.lt
  have hml4 := M.lt
  try simp (maxSteps:=1000000) (disch:=first|exact Lb rfl|omega) only [AXS,AXB,J.dst,reduceIte,Z1,Z2,Z3,Z4,Z5]
  rw [f102c8_eq]
  refine ⟨fun b => b < h4.size ∧ b ≠ h.size,fun b hb => hb.1,?_⟩
  have hne : b5 ≠ h.size := by omega
  simp only [f102r5,wT_one,wT_alt,wT_nil]
  simp (maxSteps:=1000000) (disch:=first|exact Lb rfl|omega) only [AXS,AXB,J.dst,reduceIte,Z1,Z2,Z3,Z4,Z5,B5.rd,eOut]
  have hkt : (.agg #[vi x.by_.node,vi x.by_.life,vi x.by_.seq,vi x.by_.attempt] : Value) = kTry x.by_ := rfl
  rw [hkt]
  have back : ∀ h9 (lm : List (Try4 × Int)) (v : Int),Ext h h9 → h4.size ≤ h9.size → (∀ b,b < h4.size → b ≠ h.size → h9[b]? = h4[b]?) → MapSt h9 h.size lm → valL x.by_ lm = v → ((findO (l.take k) x.by_ = none → v = 1 ∧ lm = ((l.take (k + 1)).map fun (o : Out) => (o.by_,(1 : Int)))) ∧ (findO (l.take k) x.by_ ≠ none → v = 2)) →
    wC Try.prog f102c9 (X.inBlock 1 (X.then (fun σ h => wC Try.prog f102c12 Q' σ h) Q')) [(3,.map (some h.size)),(5,ptr b5 0),(7,.slice (some ⟨b,o,none⟩) l.length c),(8,vi l.length),(9,vi k)] h9 := by
   intro h9 lm v x9 z9 k9 M9 hv hc
   have B9 : Blk h9 b5 126 (eOut x) := (k9 b5 hb5l hne).trans B5
   (try simp (maxSteps:=1000000) (disch:=first|exact Lb rfl|omega) only [AXS,AXB,J.dst,reduceIte,Z1,Z2,Z3,Z4,Z5]); rw [f102c9_eq]; (try simp (maxSteps:=1000000) (disch:=first|exact Lb rfl|omega) only [AXS,AXB,J.dst,reduceIte,Z1,Z2,Z3,Z4,Z5,f102r6,B9.rd,eOut])
   rw [hkt,wL_raw]
   refine raw_lookup rfl rfl rfl M9 ?_
   refine ⟨trivial,?_⟩
   rw [hv]
   simp (maxSteps:=1000000) (disch:=first|exact Lb rfl|omega) only [AXS,AXB,J.dst,reduceIte,Z1,Z2,Z3,Z4,Z5]
   rw [f102c10_eq]
   simp (maxSteps:=1000000) (disch:=first|exact Lb rfl|omega) only [AXS,AXB,J.dst,reduceIte,Z1,Z2,Z3,Z4,Z5]
   refine ⟨fun q => ?_,fun q => ?_⟩
   ·(try simp (maxSteps:=1000000) (disch:=first|exact Lb rfl|omega) only [AXS,AXB,J.dst,reduceIte,Z1,Z2,Z3,Z4,Z5]); rw [f102c11_eq]; (try simp (maxSteps:=1000000) (disch:=first|exact Lb rfl|omega) only [AXS,AXB,J.dst,reduceIte,Z1,Z2,Z3,Z4,Z5,f102r7])
    refine hrt _ _ ?_
    simp (maxSteps:=1000000) (disch:=first|exact Lb rfl|omega) only [AXS,AXB,J.dst,reduceIte,Z1,Z2,Z3,Z4,Z5]
    refine hR false h9 ⟨fun h => (by cases h),fun hO => ?_⟩ x9
    have h1 := (hon.1 (once_take _ hO)).2
    have h2 := (hc.1 h1).1
    have := of_decide_eq_true q
    omega
   ·have hno : findO (l.take k) x.by_ = none := by
     rcases Classical.em (findO (l.take k) x.by_ = none) with h | h
     ·exact h
     ·have := hc.2 h
      have := of_decide_eq_false q
      omega
    (try simp (maxSteps:=1000000) (disch:=first|exact Lb rfl|omega) only [AXS,AXB,J.dst,reduceIte,Z1,Z2,Z3,Z4,Z5]); rw [f102c12_eq]; (try simp (maxSteps:=1000000) (disch:=first|exact Lb rfl|omega) only [AXS,AXB,J.dst,reduceIte,Z1,Z2,Z3,Z4,Z5,f102r8])
    rw [i64_wrap (by omega) (by omega)]
    refine hnx (m - 1) _ _ (by omega) ⟨x9,k + 1,by omega,hon.2 ⟨ho,hno⟩,?_,rfl⟩
    rw [← (hc.1 hno).2]
    exact M9
  have hlk : (l.take k).length = k := by rw [List.length_take]; omega
  have hsucc : (l.take (k + 1)).map (fun (o : Out) => (o.by_,(1 : Int))) = (l.take k).map (fun (o : Out) => (o.by_,(1 : Int))) ++ [(x.by_,1)] := by
   rw [List.take_add_one,hx]; simp
  refine ⟨⟨by omega,hne⟩,?_,?_⟩
  ·-- the value is asked for first
   rw [wL_raw]
   refine raw_lookup rfl rfl rfl M ?_
   refine ⟨fun _ _ => rfl,?_⟩
   simp (maxSteps:=1000000) (disch:=first|exact Lb rfl|omega) only [AXS,AXB,J.dst,reduceIte,Z1,Z2,Z3,Z4,Z5]
   rw [wL_raw]
   rcases Classical.em (findO (l.take k) x.by_ = none) with hno | hso
   ·have hf := fndL_none (i := 0) (seen_keys.2 hno)
    have hv0 : valL x.by_ ((l.take k).map fun (o : Out) => (o.by_,(1 : Int))) = 0 := by unfold valL; rw [hf]
    refine raw_entryN rfl rfl rfl M hf ?_
    intro h5 u5 M5
    refine ⟨fun b hb => u5.ne b hb.2,?_⟩
    simp (maxSteps:=1000000) (disch:=first|exact Lb rfl|omega) only [AXS,AXB,J.dst,reduceIte,Z1,Z2,Z3,Z4,Z5]
    rw [hv0,i64_wrap (by omega) (by omega),wL_raw]
    refine raw_estore (j := ((l.take k).map fun (o : Out) => (o.by_,(1 : Int))).length) (t := x.by_) (u := 0) rfl rfl rfl rfl M5 (by simp) ?_
    intro h6 u6 M6
    refine ⟨fun b hb => u6.ne b hb.2,?_⟩
    simp (maxSteps:=1000000) (disch:=first|exact Lb rfl|omega) only [AXS,AXB,J.dst,reduceIte,Z1,Z2,Z3,Z4,Z5]
    have y5 := u5.size
    have y6 := u6.size
    have hset : (((l.take k).map fun (o : Out) => (o.by_,(1 : Int))) ++ [(x.by_,0)]).set ((l.take k).map fun (o : Out) => (o.by_,(1 : Int))).length (x.by_,0 + 1) = ((l.take k).map fun (o : Out) => (o.by_,(1 : Int))) ++ [(x.by_,1)] := by
     rw [List.set_append_right _ _ (Nat.le_refl _)]; simp
    rw [hset] at M6
    refine back h6 _ 1 (u6.ext (u5.ext x04 (Nat.le_refl _)) (Nat.le_refl _)) (by omega) (fun b hb hn => (u6.ne b hn).trans (u5.ne b hn)) M6 ?_ ⟨fun _ => ⟨rfl,hsucc.symm⟩,fun h => absurd hno h⟩
    unfold valL
    rw [fndL_snoc (seen_keys.2 hno)]
   ·have hex' : ∃ y ∈ (l.take k).map (fun (o : Out) => (o.by_,(1 : Int))),x.by_ = y.1 := by
     refine Classical.byContradiction fun hn => hso (seen_keys.1 fun y hy e => hn ⟨y,hy,e⟩)
    obtain ⟨j,v,hf⟩ := fndL_mem (i := 0) hex'
    obtain ⟨j',hj',hl'⟩ := fndL_some hf
    have hjj : j = j' := by omega
    subst hjj
    have hv1 : v = 1 := by
     rw [List.getElem?_map] at hl'
     cases ho' : (l.take k)[j]? with
     | none => rw [ho'] at hl'; cases hl'
     | some y => rw [ho'] at hl'; have := Option.some.inj hl'; have := congrArg Prod.snd this; simpa using this.symm
    subst hv1
    have hv0 : valL x.by_ ((l.take k).map fun (o : Out) => (o.by_,(1 : Int))) = 1 := by unfold valL; rw [hf]
    refine raw_entryS rfl rfl rfl M hf ?_
    intro h5 u5 M5
    refine ⟨fun b hb => u5.ne b hb.2,?_⟩
    simp (maxSteps:=1000000) (disch:=first|exact Lb rfl|omega) only [AXS,AXB,J.dst,reduceIte,Z1,Z2,Z3,Z4,Z5]
    rw [hv0,i64_wrap (by omega) (by omega),wL_raw]
    refine raw_estore (j := j) (t := x.by_) (u := 1) rfl rfl rfl rfl M5 hl' ?_
    intro h6 u6 M6
    refine ⟨fun b hb => u6.ne b hb.2,?_⟩
    simp (maxSteps:=1000000) (disch:=first|exact Lb rfl|omega) only [AXS,AXB,J.dst,reduceIte,Z1,Z2,Z3,Z4,Z5]
    have y5 := u5.size
    have y6 := u6.size
    refine back h6 _ 2 (u6.ext (u5.ext x04 (Nat.le_refl _)) (Nat.le_refl _)) (by omega) (fun b hb hn => (u6.ne b hn).trans (u5.ne b hn)) M6 ?_ ⟨fun h => absurd h hso,fun _ => rfl⟩
    unfold valL
    have h0 : fndL x.by_ ((l.take k).map fun (o : Out) => (o.by_,(1 : Int))) 0 = some (0 + j,1) := by rw [hf]; simp
    rw [fndL_set h0]
    rfl
  ·-- the entry comes first
   rw [wL_raw]
   rcases Classical.em (findO (l.take k) x.by_ = none) with hno | hso
   ·have hf := fndL_none (i := 0) (seen_keys.2 hno)
    refine raw_entryN rfl rfl rfl M hf ?_
    intro h5 u5 M5
    refine ⟨fun b hb => u5.ne b hb.2,?_⟩
    simp (maxSteps:=1000000) (disch:=first|exact Lb rfl|omega) only [AXS,AXB,J.dst,reduceIte,Z1,Z2,Z3,Z4,Z5]
    rw [wL_raw]
    refine raw_lookup rfl rfl rfl M5 ?_
    refine ⟨fun _ _ => rfl,?_⟩
    simp (maxSteps:=1000000) (disch:=first|exact Lb rfl|omega) only [AXS,AXB,J.dst,reduceIte,Z1,Z2,Z3,Z4,Z5]
    have hv0 : valL x.by_ (((l.take k).map fun (o : Out) => (o.by_,(1 : Int))) ++ [(x.by_,0)]) = 0 := by unfold valL; rw [fndL_snoc (seen_keys.2 hno)]
    rw [hv0,i64_wrap (by omega) (by omega),wL_raw]
    refine raw_estore (j := ((l.take k).map fun (o : Out) => (o.by_,(1 : Int))).length) (t := x.by_) (u := 0) rfl rfl rfl rfl M5 (by simp) ?_
    intro h6 u6 M6
    refine ⟨fun b hb => u6.ne b hb.2,?_⟩
    simp (maxSteps:=1000000) (disch:=first|exact Lb rfl|omega) only [AXS,AXB,J.dst,reduceIte,Z1,Z2,Z3,Z4,Z5]
    have y5 := u5.size
    have y6 := u6.size
    have hset : (((l.take k).map fun (o : Out) => (o.by_,(1 : Int))) ++ [(x.by_,0)]).set ((l.take k).map fun (o : Out) => (o.by_,(1 : Int))).length (x.by_,0 + 1) = ((l.take k).map fun (o : Out) => (o.by_,(1 : Int))) ++ [(x.by_,1)] := by
     rw [List.set_append_right _ _ (Nat.le_refl _)]; simp
    rw [hset] at M6
    refine back h6 _ 1 (u6.ext (u5.ext x04 (Nat.le_refl _)) (Nat.le_refl _)) (by omega) (fun b hb hn => (u6.ne b hn).trans (u5.ne b hn)) M6 ?_ ⟨fun _ => ⟨rfl,hsucc.symm⟩,fun h => absurd hno h⟩
    unfold valL
    rw [fndL_snoc (seen_keys.2 hno)]
   ·have hex' : ∃ y ∈ (l.take k).map (fun (o : Out) => (o.by_,(1 : Int))),x.by_ = y.1 := by
     refine Classical.byContradiction fun hn => hso (seen_keys.1 fun y hy e => hn ⟨y,hy,e⟩)
    obtain ⟨j,v,hf⟩ := fndL_mem (i := 0) hex'
    obtain ⟨j',hj',hl'⟩ := fndL_some hf
    have hjj : j = j' := by omega
    subst hjj
    have hv1 : v = 1 := by
     rw [List.getElem?_map] at hl'
     cases ho' : (l.take k)[j]? with
     | none => rw [ho'] at hl'; cases hl'
     | some y => rw [ho'] at hl'; have := Option.some.inj hl'; have := congrArg Prod.snd this; simpa using this.symm
    subst hv1
    have hv0 : valL x.by_ ((l.take k).map fun (o : Out) => (o.by_,(1 : Int))) = 1 := by unfold valL; rw [hf]
    refine raw_entryS rfl rfl rfl M hf ?_
    intro h5 u5 M5
    refine ⟨fun b hb => u5.ne b hb.2,?_⟩
    simp (maxSteps:=1000000) (disch:=first|exact Lb rfl|omega) only [AXS,AXB,J.dst,reduceIte,Z1,Z2,Z3,Z4,Z5]
    rw [wL_raw]
    refine raw_lookup rfl rfl rfl M5 ?_
    refine ⟨fun _ _ => rfl,?_⟩
    simp (maxSteps:=1000000) (disch:=first|exact Lb rfl|omega) only [AXS,AXB,J.dst,reduceIte,Z1,Z2,Z3,Z4,Z5]
    rw [hv0,i64_wrap (by omega) (by omega),wL_raw]
    refine raw_estore (j := j) (t := x.by_) (u := 1) rfl rfl rfl rfl M5 hl' ?_
    intro h6 u6 M6
    refine ⟨fun b hb => u6.ne b hb.2,?_⟩
    simp (maxSteps:=1000000) (disch:=first|exact Lb rfl|omega) only [AXS,AXB,J.dst,reduceIte,Z1,Z2,Z3,Z4,Z5]
    have y5 := u5.size
    have y6 := u6.size
    refine back h6 _ 2 (u6.ext (u5.ext x04 (Nat.le_refl _)) (Nat.le_refl _)) (by omega) (fun b hb hn => (u6.ne b hn).trans (u5.ne b hn)) M6 ?_ ⟨fun h => absurd h hso,fun _ => rfl⟩
    unfold valL
    have h0 : fndL x.by_ ((l.take k).map fun (o : Out) => (o.by_,(1 : Int))) 0 = some (0 + j,1) := by rw [hf]; simp
    rw [fndL_set h0]
    rfl
 ·have hkl : k = l.length := by have := of_decide_eq_false hh; omega
  subst hkl
  refine hex _ _ ?_
  (try simp (maxSteps:=1000000) (disch:=first|exact Lb rfl|omega) only [AXS,AXB,J.dst,reduceIte,Z1,Z2,Z3,Z4,Z5]); rw [f102c13_eq]; (try simp (maxSteps:=1000000) (disch:=first|exact Lb rfl|omega) only [AXS,AXB,J.dst,reduceIte,Z1,Z2,Z3,Z4,Z5,f102r9])
  rw [List.take_length] at ho
  exact hR true h2 ⟨fun _ => ho,fun _ => rfl⟩ x2
structure MayPrt (p : Prt) : Prop where
 cells : MayP p.cells
 e0 : 0 ≤ p.s.epoch
 e1 : p.s.epoch ≤ mostEpoch
 low : p.s.low ≤ p.s.closed ∨ p.s.low = 0
 records : OnceP p.records
 done : OnceP p.done
theorem mayM_ok {B : Nat → Prop} (pv : PrV) (p : Prt) (h : Heap) (S : PrR B h pv p) (hn : p.cells.length ≤ big) (F : ∀ c ∈ p.cells,c.vers.length ≤ big) (hr : p.records.length ≤ 1000000) (hd : p.done.length ≤ 1000000) {R : Value → Heap → Prop}
  (hR : ∀ (b : Bool) h',(b = true ↔ MayPrt p) → Ext h h' → R (.bool b) h') : CallsH Try.prog 60 [.agg (ePr pv).toArray] h R := by
 have hrn := S.rn
 have hdn := S.dn
 have hm : mostEpoch = 1099511627776 := rfl
 have hs := S.s
 refine f60ok (by simp) ?_
 (try simp (maxSteps:=1000000) (disch:=first|exact Lb rfl|omega) only [AXS,AXB,J.dst,reduceIte,Z1,Z2,Z3,Z4,Z5]); rw [f60c0_eq]; (try simp (maxSteps:=1000000) (disch:=first|exact Lb rfl|omega) only [AXS,AXB,J.dst,reduceIte,Z1,Z2,Z3,Z4,Z5,f60r0])
 refine wL_boxN rfl ?_; rintro b1 h1 x1 s1 hb1 (B1 : Blk _ _ _ (ePr pv))
 try simp (maxSteps:=1000000) (disch:=first|exact Lb rfl|omega) only [AXS,AXB,J.dst,reduceIte,Z1,Z2,Z3,Z4,Z5]
 rw [f60c1_eq]
 simp (maxSteps:=1000000) (disch:=first|exact Lb rfl|omega) only [AXJ,AXS,AXB,J.dst,reduceIte,Z1,Z2,Z3,Z4,Z5,f60r1,B1.cel,ePr,S.cn]
 refine may_ok p.cells _ (S.cells.ext x1) hn F ?_
 intro bm hbm h2 x2
 refine ⟨trivial,?_⟩
 have B2 := B1.ext x2
 have x02 := x1.trans x2
 cases bm with
 | false =>
  simp (maxSteps:=1000000) (disch:=first|exact Lb rfl|omega) only [AXJ,AXS,AXB,J.dst,reduceIte,Z1,Z2,Z3,Z4,Z5,↓br_TT,↓br_TF,↓br_FT,↓br_FF]
  simp (maxSteps:=1000000) (disch:=first|exact Lb rfl|omega) only [AXJ,AXS,AXB,J.dst,reduceIte,Z1,Z2,Z3,Z4,Z5,↓br_TT,↓br_TF,↓br_FT,↓br_FF,f60r1a]
  simp (maxSteps:=1000000) (disch:=first|exact Lb rfl|omega) only [AXJ,AXS,AXB,J.dst,reduceIte,Z1,Z2,Z3,Z4,Z5,↓br_TT,↓br_TF,↓br_FT,↓br_FF,f60r1b]
  simp (maxSteps:=1000000) (disch:=first|exact Lb rfl|omega) only [AXJ,AXS,AXB,J.dst,reduceIte,Z1,Z2,Z3,Z4,Z5,↓br_TT,↓br_TF,↓br_FT,↓br_FF,f60r1c]
  simp (maxSteps:=1000000) (disch:=first|exact Lb rfl|omega) only [AXJ,AXS,AXB,J.dst,reduceIte,Z1,Z2,Z3,Z4,Z5,↓br_TT,↓br_TF,↓br_FT,↓br_FF,f60r1d]
  try simp (maxSteps:=1000000) (disch:=first|exact Lb rfl|omega) only [AXJ,AXS,AXB,J.dst,reduceIte,Z1,Z2,Z3,Z4,Z5,f60r1e]
  exact hR false _ ⟨fun h => (by cases h),fun M => (by have := hbm.2 M.cells; cases this)⟩ x02
 | true =>
 simp (maxSteps:=1000000) (disch:=first|exact Lb rfl|omega) only [AXJ,AXS,AXB,J.dst,reduceIte,Z1,Z2,Z3,Z4,Z5,↓br_TT,↓br_TF,↓br_FT,↓br_FF,B2.cel,ePr,hrn]
 refine onceM_ok p.records _ (S.records.ext x02) hr ?_
 intro b3 h3 hb3 x3
 refine ⟨trivial,?_⟩
 have B3 := B2.ext x3
 have x03 := x02.trans x3
 cases b3 with
 | false =>
  try simp (maxSteps:=1000000) (disch:=first|exact Lb rfl|omega) only [AXJ,AXS,AXB,J.dst,reduceIte,Z1,Z2,Z3,Z4,Z5,↓br_TT,↓br_TF,↓br_FT,↓br_FF]
  simp (maxSteps:=1000000) (disch:=first|exact Lb rfl|omega) only [AXJ,AXS,AXB,J.dst,reduceIte,Z1,Z2,Z3,Z4,Z5,↓br_TT,↓br_TF,↓br_FT,↓br_FF,f60r1a]
  simp (maxSteps:=1000000) (disch:=first|exact Lb rfl|omega) only [AXJ,AXS,AXB,J.dst,reduceIte,Z1,Z2,Z3,Z4,Z5,↓br_TT,↓br_TF,↓br_FT,↓br_FF,f60r1b]
  simp (maxSteps:=1000000) (disch:=first|exact Lb rfl|omega) only [AXJ,AXS,AXB,J.dst,reduceIte,Z1,Z2,Z3,Z4,Z5,↓br_TT,↓br_TF,↓br_FT,↓br_FF,f60r1c]
  simp (maxSteps:=1000000) (disch:=first|exact Lb rfl|omega) only [AXJ,AXS,AXB,J.dst,reduceIte,Z1,Z2,Z3,Z4,Z5,↓br_TT,↓br_TF,↓br_FT,↓br_FF,f60r1d]
  try simp (maxSteps:=1000000) (disch:=first|exact Lb rfl|omega) only [AXJ,AXS,AXB,J.dst,reduceIte,Z1,Z2,Z3,Z4,Z5,f60r1e]
  exact hR false _ ⟨fun h => (by cases h),fun M => (by have := hb3.2 M.records; cases this)⟩ x03
 | true =>
 try simp (maxSteps:=1000000) (disch:=first|exact Lb rfl|omega) only [AXJ,AXS,AXB,J.dst,reduceIte,Z1,Z2,Z3,Z4,Z5,↓br_TT,↓br_TF,↓br_FT,↓br_FF]
 simp (maxSteps:=1000000) (disch:=first|exact Lb rfl|omega) only [AXJ,AXS,AXB,J.dst,reduceIte,Z1,Z2,Z3,Z4,Z5,↓br_TT,↓br_TF,↓br_FT,↓br_FF,f60r1a,B3.cel,ePr,hdn]
 refine onceM_ok p.done _ (S.done.ext x03) hd ?_
 intro b4 h4 hb4 x4
 refine ⟨trivial,?_⟩
 have B4 := B3.ext x4
 have x04 := x03.trans x4
 cases b4 with
 | false =>
  try simp (maxSteps:=1000000) (disch:=first|exact Lb rfl|omega) only [AXJ,AXS,AXB,J.dst,reduceIte,Z1,Z2,Z3,Z4,Z5,↓br_TT,↓br_TF,↓br_FT,↓br_FF]
  simp (maxSteps:=1000000) (disch:=first|exact Lb rfl|omega) only [AXJ,AXS,AXB,J.dst,reduceIte,Z1,Z2,Z3,Z4,Z5,↓br_TT,↓br_TF,↓br_FT,↓br_FF,f60r1b]
  simp (maxSteps:=1000000) (disch:=first|exact Lb rfl|omega) only [AXJ,AXS,AXB,J.dst,reduceIte,Z1,Z2,Z3,Z4,Z5,↓br_TT,↓br_TF,↓br_FT,↓br_FF,f60r1c]
  simp (maxSteps:=1000000) (disch:=first|exact Lb rfl|omega) only [AXJ,AXS,AXB,J.dst,reduceIte,Z1,Z2,Z3,Z4,Z5,↓br_TT,↓br_TF,↓br_FT,↓br_FF,f60r1d]
  try simp (maxSteps:=1000000) (disch:=first|exact Lb rfl|omega) only [AXJ,AXS,AXB,J.dst,reduceIte,Z1,Z2,Z3,Z4,Z5,f60r1e]
  exact hR false _ ⟨fun h => (by cases h),fun M => (by have := hb4.2 M.done; cases this)⟩ x04
 | true =>
 try simp (maxSteps:=1000000) (disch:=first|exact Lb rfl|omega) only [AXJ,AXS,AXB,J.dst,reduceIte,Z1,Z2,Z3,Z4,Z5,↓br_TT,↓br_TF,↓br_FT,↓br_FF]
 simp (maxSteps:=1000000) (disch:=first|exact Lb rfl|omega) only [AXJ,AXS,AXB,J.dst,reduceIte,Z1,Z2,Z3,Z4,Z5,↓br_TT,↓br_TF,↓br_FT,↓br_FF,f60r1b,B4.cel,ePr,hs]
 simp (maxSteps:=1000000) (disch:=first|exact Lb rfl|omega) only [AXJ,AXS,AXB,J.dst,reduceIte,Z1,Z2,Z3,Z4,Z5,f60r1c,B4.cel,ePr,hs]
 simp (maxSteps:=1000000) (disch:=first|exact Lb rfl|omega) only [AXJ,AXS,AXB,J.dst,reduceIte,Z1,Z2,Z3,Z4,Z5,f60r1d,B4.cel,ePr,hs]
 simp (maxSteps:=1000000) (disch:=first|exact Lb rfl|omega) only [AXJ,AXS,AXB,J.dst,reduceIte,Z1,Z2,Z3,Z4,Z5,f60r1e]
 refine hR _ _ ?_ x04
 simp only [Bool.and_eq_true,Bool.or_eq_true,decide_eq_true_eq,beq_iff_eq]
 constructor
 ·rintro ⟨⟨h1,h2⟩,h3⟩
  exact ⟨hbm.1 rfl,h1,by omega,h3,hb3.1 rfl,hb4.1 rfl⟩
 ·intro M
  exact ⟨⟨M.e0,by have := M.e1; omega⟩,M.low⟩
theorem rmayM_ok {B : Nat → Prop} (pv : PrV) (p : Prt) (h : Heap) (S : PrR B h pv p) (hn : p.cells.length ≤ big) (F : ∀ c ∈ p.cells,c.vers.length ≤ big) (hr : p.records.length ≤ 1000000) (hd : p.done.length ≤ 1000000)
  (hrc : p.records.length ≤ pv.rc) (hdc : p.done.length ≤ pv.dc) {R : Value → Heap → Prop}
  (hR : ∀ (b : Bool) h',(b = true ↔ MayPrt p) → Ext h h' → R (.bool b) h') : CallsH Try.prog 61 [.agg (ePr pv).toArray] h R := by
 have hrn := S.rn
 have hdn := S.dn
 have hm : mostEpoch = 1099511627776 := rfl
 have hs := S.s
 refine f61ok (by simp) ?_
 (try simp (maxSteps:=1000000) (disch:=first|exact Lb rfl|omega) only [AXS,AXB,J.dst,reduceIte,Z1,Z2,Z3,Z4,Z5]); rw [f61c0_eq]; (try simp (maxSteps:=1000000) (disch:=first|exact Lb rfl|omega) only [AXS,AXB,J.dst,reduceIte,Z1,Z2,Z3,Z4,Z5,f61r0])
 refine wL_boxN rfl ?_; rintro b1 h1 x1 s1 hb1 (B1 : Blk _ _ _ (ePr pv))
 try simp (maxSteps:=1000000) (disch:=first|exact Lb rfl|omega) only [AXS,AXB,J.dst,reduceIte,Z1,Z2,Z3,Z4,Z5]
 rw [f61c1_eq]
 simp (maxSteps:=1000000) (disch:=first|exact Lb rfl|omega) only [AXJ,AXS,AXB,J.dst,reduceIte,Z1,Z2,Z3,Z4,Z5,f61r1,B1.cel,ePr,S.cn]
 refine rmay_ok p.cells _ (S.cells.ext x1) hn F ?_
 intro bm hbm h2 x2
 refine ⟨trivial,?_⟩
 have B2 := B1.ext x2
 have x02 := x1.trans x2
 simp (maxSteps:=1000000) (disch:=first|exact Lb rfl|omega) only [AXJ,AXS,AXB,J.dst,reduceIte,Z1,Z2,Z3,Z4,Z5,B2.cel,ePr,hs]
 simp (maxSteps:=1000000) (disch:=first|exact Lb rfl|omega) only [AXJ,AXS,AXB,J.dst,reduceIte,Z1,Z2,Z3,Z4,Z5,f61r1a,B2.cel,ePr,hs]
 simp (maxSteps:=1000000) (disch:=first|exact Lb rfl|omega) only [AXJ,AXS,AXB,J.dst,reduceIte,Z1,Z2,Z3,Z4,Z5,f61r1b,B2.cel,ePr,hs]
 (try simp (maxSteps:=1000000) (disch:=first|exact Lb rfl|omega) only [AXS,AXB,J.dst,reduceIte,Z1,Z2,Z3,Z4,Z5]); rw [f61c2_eq]; (try simp (maxSteps:=1000000) (disch:=first|exact Lb rfl|omega) only [AXS,AXB,J.dst,reduceIte,Z1,Z2,Z3,Z4,Z5])
 refine ⟨fun q => ?_,fun q => ?_⟩
 ·(try simp (maxSteps:=1000000) (disch:=first|exact Lb rfl|omega) only [AXS,AXB,J.dst,reduceIte,Z1,Z2,Z3,Z4,Z5]); rw [f61c3_eq]; (try simp (maxSteps:=1000000) (disch:=first|exact Lb rfl|omega) only [AXS,AXB,J.dst,reduceIte,Z1,Z2,Z3,Z4,Z5,f61r2])
  refine hR false _ ⟨fun h => (by cases h),fun M => ?_⟩ x02
  exfalso
  have h0 := M.e0
  have h1 := M.e1
  have h3 := M.low
  rw [hbm.2 M.cells] at q
  simp only [Bool.not_true,Bool.false_or,Bool.or_eq_true,Bool.and_eq_true,decide_eq_true_eq,bne_iff_ne] at q
  omega
 ·have q' := q
  simp only [Bool.or_eq_false_iff,Bool.and_eq_false_iff,Bool.not_eq_false',decide_eq_false_iff_not,bne_eq_false_iff_eq] at q'
  try simp (maxSteps:=1000000) (disch:=first|exact Lb rfl|omega) only [AXS,AXB,J.dst,reduceIte,Z1,Z2,Z3,Z4,Z5]
  rw [f61c4_eq]
  simp (maxSteps:=1000000) (disch:=first|exact Lb rfl|omega) only [AXJ,AXS,AXB,J.dst,reduceIte,Z1,Z2,Z3,Z4,Z5,f61r3,B2.cel,ePr,hrn]
  refine ronce_ok p.records _ (S.records.ext x02) hr hrc ?_
  intro b3 h3 hb3 x3
  refine ⟨trivial,?_⟩
  have B3 := B2.ext x3
  have x03 := x02.trans x3
  cases b3 with
  | false =>
   simp (maxSteps:=1000000) (disch:=first|exact Lb rfl|omega) only [AXJ,AXS,AXB,J.dst,reduceIte,Z1,Z2,Z3,Z4,Z5,↓br_TT,↓br_TF,↓br_FT,↓br_FF]
   try simp (maxSteps:=1000000) (disch:=first|exact Lb rfl|omega) only [AXJ,AXS,AXB,J.dst,reduceIte,Z1,Z2,Z3,Z4,Z5,f61r3a]
   exact hR false _ ⟨fun h => (by cases h),fun M => (by have := hb3.2 M.records; cases this)⟩ x03
  | true =>
   simp (maxSteps:=1000000) (disch:=first|exact Lb rfl|omega) only [AXJ,AXS,AXB,J.dst,reduceIte,Z1,Z2,Z3,Z4,Z5,↓br_TT,↓br_TF,↓br_FT,↓br_FF,B3.cel,ePr,hdn]
   refine ronce_ok p.done _ (S.done.ext x03) hd hdc ?_
   intro b4 h4 hb4 x4
   refine ⟨trivial,?_⟩
   try simp (maxSteps:=1000000) (disch:=first|exact Lb rfl|omega) only [AXJ,AXS,AXB,J.dst,reduceIte,Z1,Z2,Z3,Z4,Z5]
   try simp (maxSteps:=1000000) (disch:=first|exact Lb rfl|omega) only [AXJ,AXS,AXB,J.dst,reduceIte,Z1,Z2,Z3,Z4,Z5,f61r3a]
   refine hR _ _ ?_ (x03.trans x4)
   constructor
   ·intro e
    exact ⟨hbm.1 (by simpa using q'.1.1.1),by omega,by omega,by omega,hb3.1 rfl,hb4.1 e⟩
   ·intro M
    exact hb4.2 M.done
end Go.Proofs.Ytefghfgmkndikaa
namespace Go.Proofs.Ytefghfgmkndikaa
open Go Go.AX
/-- What is read, or why not. -/
def pairsP (p : Prt) (t : Stamp) (ss : List Spn) : List Pai × RpS :=
 match ss.find? fun s => (blocksL t (cellsIn p s)).2 with
 | some s => ([],(lockedR (blocksL t (cellsIn p s)).1).s)
 | none => if (readL p t ss []).2 = 0 then ((readL p t ss []).1,okS) else ([],(errR (readL p t ss []).2).s)
theorem noRep_one (s : RpS) : ∀ v ∈ (Value.agg (eRp ⟨s,none,0,0⟩).toArray).cells.toList,v.oneCell' = true := eRp_one ⟨s,none,0,0⟩
set_option maxHeartbeats 4000000 in
theorem rpairs_ok {B B' : Nat → Prop} {n sc : Nat} {sa : Option Addr} (pv : PrV) (p : Prt) (t : Stamp) (ss : List Spn) (h : Heap) (S : PrR B h pv p) (Z : SlF B' h eSpn sa ss) (g : SzP n p) (hn : n ≤ 900000) (hs : ss.length ≤ big) {R : Value → Heap → Prop}
  (hR : ∀ pa pc h',Own h.size h' 99 2 pa (pairsP p t ss).1.length pc ((pairsP p t ss).1.flatMap ePai) → Ext h h' → R (.tuple #[.slice pa (pairsP p t ss).1.length pc,.agg (eRp ⟨(pairsP p t ss).2,none,0,0⟩).toArray]) h') :
  CallsH Try.prog 98 [.agg (ePr pv).toArray,.agg (eStamp t).toArray,.slice sa ss.length sc] h R := by
 have hbig : big = 1000000 := rfl
 have hcn := S.cn
 refine f98ok (by simp) ?_
 (try simp (maxSteps:=1000000) (disch:=first|exact Lb rfl|omega) only [AXS,AXB,J.dst,reduceIte,Z1,Z2,Z3,Z4,Z5]); rw [f98c0_eq]; (try simp (maxSteps:=1000000) (disch:=first|exact Lb rfl|omega) only [AXS,AXB,J.dst,reduceIte,Z1,Z2,Z3,Z4,Z5,f98r0])
 refine wL_boxN rfl ?_; rintro b3 h1 e1 s1 hb3 (B3 : Blk _ _ _ (ePr pv))
 refine wL_boxN rfl ?_; rintro b4 h2 e2 s2 hb4 (B4 : Blk _ _ _ (eStamp t))
 replace B3 := B3.ext e2
 try simp (maxSteps:=1000000) (disch:=first|exact Lb rfl|omega) only [AXS,AXB,J.dst,reduceIte,Z1,Z2,Z3,Z4,Z5]
 refine wL_newN ?_; rintro b7 h3 e3 s3 hb7 B7
 replace B3 := B3.ext e3; replace B4 := B4.ext e3
 have e03 := (e1.trans e2).trans e3
 have z03 := e03.size
 (try simp (maxSteps:=1000000) (disch:=first|exact Lb rfl|omega) only [AXS,AXB,J.dst,reduceIte,Z1,Z2,Z3,Z4,Z5]); rw [f98c1_eq]; (try simp (maxSteps:=1000000) (disch:=first|exact Lb rfl|omega) only [AXS,AXB,J.dst,reduceIte,Z1,Z2,Z3,Z4,Z5,f98r1]); rw [f98c2_eq]; (try simp (maxSteps:=1000000) (disch:=first|exact Lb rfl|omega) only [AXS,AXB,J.dst,reduceIte,Z1,Z2,Z3,Z4,Z5,f98r2])
 rw [f98c3_eq]
 refine loop_in (fun m σ h' => Ext h3 h' ∧ ∃ k : Nat,k + m = ss.length ∧ (∀ j s,j < k → ss[j]? = some s → (blocksL t (cellsIn p s)).2 = false) ∧
  σ = [(2,.slice sa ss.length sc),(3,ptr b3 0),(4,ptr b4 0),(7,ptr b7 0),(8,.slice none 0 0),(9,vi k)]) ss.length ⟨Ext.refl _,0,by omega,by intros; omega,rfl⟩ ?_
 rintro m σ h4 ⟨e4,k,hk,hnb,rfl⟩ Q' hnx hex hrt _
 have e04 := e03.trans e4
 replace B3 := B3.ext e4; replace B4 := B4.ext e4; replace B7 := B7.ext e4
 (try simp (maxSteps:=1000000) (disch:=first|exact Lb rfl|omega) only [AXS,AXB,J.dst,reduceIte,Z1,Z2,Z3,Z4,Z5]); rw [f98c4_eq]; (try simp (maxSteps:=1000000) (disch:=first|exact Lb rfl|omega) only [AXS,AXB,J.dst,reduceIte,Z1,Z2,Z3,Z4,Z5,f98r3]); rw [f98c5_eq]; (try simp (maxSteps:=1000000) (disch:=first|exact Lb rfl|omega) only [AXS,AXB,J.dst,reduceIte,Z1,Z2,Z3,Z4,Z5])
 refine ⟨fun hh => ?_,fun hh => ?_⟩
 ·have hkl : k < ss.length := by have := of_decide_eq_true hh; omega
  obtain ⟨s,hx⟩ := get_ex hkl
  obtain ⟨b',o,rfl,_,hrow⟩ := (Z.ext e04).elem eSpn_len hx
  have l3 := B3.lt
  have l4 := B4.lt
  have lb := hrow.lt (by rw [eSpn_len]; omega)
  have S4 := S.ext e04
  try simp (maxSteps:=1000000) (disch:=first|exact Lb rfl|omega) only [AXS,AXB,J.dst,reduceIte,Z1,Z2,Z3,Z4,Z5]
  rw [f98c6_eq,f98c7_eq]
  refine drt_lt ?_
  simp only [f98r4,wT_one,wT_alt,wT_nil]
  simp (maxSteps:=1000000) (disch:=first|exact Lb rfl|omega) only [AXS,AXB,J.dst,reduceIte,Z1,Z2,Z3,Z4,Z5,B3.cel,ePr,hcn,row_spn hrow,B4.rd,eStamp]
  have app : ∀ h6 b10,Ext h4 h6 → Blk h6 b10 72 (eLck (blocksL t (cellsIn p s)).1) → wC Try.prog f98c8 (X.inBlock 1 (X.then (fun σ h => wC Try.prog f98c11 Q' σ h) Q'))
    [(2,.slice (some ⟨b',o,none⟩) ss.length sc),(3,ptr b3 0),(4,ptr b4 0),(7,ptr b7 0),(8,.slice none 0 0),(9,vi k),(10,ptr b10 0),(11,.bool (blocksL t (cellsIn p s)).2)] h6 := by
   intro h6 b10 e6 B10
   replace B7 := B7.ext e6
   (try simp (maxSteps:=1000000) (disch:=first|exact Lb rfl|omega) only [AXS,AXB,J.dst,reduceIte,Z1,Z2,Z3,Z4,Z5]); rw [f98c8_eq]; (try simp (maxSteps:=1000000) (disch:=first|exact Lb rfl|omega) only [AXS,AXB,J.dst,reduceIte,Z1,Z2,Z3,Z4,Z5,f98r5]); rw [f98c9_eq]; (try simp (maxSteps:=1000000) (disch:=first|exact Lb rfl|omega) only [AXS,AXB,J.dst,reduceIte,Z1,Z2,Z3,Z4,Z5])
   refine ⟨fun q => ?_,fun q => ?_⟩
   ·(try simp (maxSteps:=1000000) (disch:=first|exact Lb rfl|omega) only [AXS,AXB,J.dst,reduceIte,Z1,Z2,Z3,Z4,Z5]); rw [f98c10_eq]; (try simp (maxSteps:=1000000) (disch:=first|exact Lb rfl|omega) only [AXS,AXB,J.dst,reduceIte,Z1,Z2,Z3,Z4,Z5,f98r6,B10.rd,eLck])
    refine rlocked_ok (blocksL t (cellsIn p s)).1 _ ?_
    intro h7 e7
    refine ⟨trivial,?_⟩
    replace B7 := B7.ext e7
    try simp (maxSteps:=1000000) (disch:=first|exact Lb rfl|omega) only [AXS,AXB,J.dst,reduceIte,Z1,Z2,Z3,Z4,Z5]
    refine wL_stN rfl rfl rfl B7 (by decide) (noRep_one (lockedR (blocksL t (cellsIn p s)).1).s) ?_
    rintro h8 u8 (B8 : Blk _ _ _ (eRp ⟨(lockedR (blocksL t (cellsIn p s)).1).s,none,0,0⟩))
    try simp (maxSteps:=1000000) (disch:=first|exact Lb rfl|omega) only [AXS,AXB,J.dst,reduceIte,Z1,Z2,Z3,Z4,Z5]
    refine hrt _ _ ?_
    simp (maxSteps:=1000000) (disch:=first|exact Lb rfl|omega) only [AXS,AXB,J.dst,reduceIte,Z1,Z2,Z3,Z4,Z5,B8.rd,eRp]
    have hp : pairsP p t ss = ([],(lockedR (blocksL t (cellsIn p s)).1).s) := by
     unfold pairsP
     rw [findIdx_some hx q hnb]
    have := hR none 0 h8 (by rw [hp]; exact Own.nil _ _ _ _) (u8.ext (e04.trans (e6.trans e7)) (by omega))
    rw [hp] at this
    exact this
   ·(try simp (maxSteps:=1000000) (disch:=first|exact Lb rfl|omega) only [AXS,AXB,J.dst,reduceIte,Z1,Z2,Z3,Z4,Z5]); rw [f98c11_eq]; (try simp (maxSteps:=1000000) (disch:=first|exact Lb rfl|omega) only [AXS,AXB,J.dst,reduceIte,Z1,Z2,Z3,Z4,Z5,f98r7])
    rw [i64_wrap (by omega) (by omega)]
    refine hnx (m - 1) _ _ (by omega) ⟨e4.trans e6,k + 1,by omega,?_,rfl⟩
    intro j s' hj hs'
    rcases Nat.lt_or_ge j k with hlt | hge
    ·exact hnb j s' hlt hs'
    ·have : j = k := by omega
     subst this
     rw [hx] at hs'; cases hs'; exact q
  refine ⟨by omega,by omega,by omega,by omega,by omega,?_,?_⟩
  ·refine rblocksG g.cells hn S4.cells s t ?_
   intro h5 e5
   refine ⟨kp_ext (Nat.le_refl _) e5,?_⟩
   try simp (maxSteps:=1000000) (disch:=first|exact Lb rfl|omega) only [AXS,AXB,J.dst,reduceIte,Z1,Z2,Z3,Z4,Z5]
   have z5 := e5.size
   refine wL_newD e5.size ?_; rintro b10 h6 e6 s6 hb10 B10
   try simp (maxSteps:=1000000) (disch:=first|exact Lb rfl|omega) only [AXS,AXB,J.dst,reduceIte,Z1,Z2,Z3,Z4,Z5]
   refine wL_stD rfl rfl (by omega) rfl B10 (by decide) (eLck_one _) ?_
   rintro h7 u7 (B10 : Blk _ _ _ (eLck (blocksL t (cellsIn p s)).1))
   try simp (maxSteps:=1000000) (disch:=first|exact Lb rfl|omega) only [AXS,AXB,J.dst,reduceIte,Z1,Z2,Z3,Z4,Z5]
   exact app h7 b10 (u7.ext (e5.trans e6) (by omega)) B10
  ·refine wL_newD (Nat.le_refl _) ?_; rintro b10 h6 e6 s6 hb10 B10
   try simp (maxSteps:=1000000) (disch:=first|exact Lb rfl|omega) only [AXS,AXB,J.dst,reduceIte,Z1,Z2,Z3,Z4,Z5]
   refine rblocksG g.cells hn (S4.ext e6).cells s t ?_
   intro h5 e5
   refine ⟨kp_ext e6.size e5,?_⟩
   try simp (maxSteps:=1000000) (disch:=first|exact Lb rfl|omega) only [AXS,AXB,J.dst,reduceIte,Z1,Z2,Z3,Z4,Z5]
   have z5 := e5.size
   refine wL_stD rfl rfl (by omega) rfl (B10.ext e5) (by decide) (eLck_one _) ?_
   rintro h7 u7 (B10 : Blk _ _ _ (eLck (blocksL t (cellsIn p s)).1))
   try simp (maxSteps:=1000000) (disch:=first|exact Lb rfl|omega) only [AXS,AXB,J.dst,reduceIte,Z1,Z2,Z3,Z4,Z5]
   exact app h7 b10 (u7.ext (e6.trans e5) (by omega)) B10
 ·have hkl : k = ss.length := by have := of_decide_eq_false hh; omega
  subst hkl
  have hnone : (ss.find? fun s => (blocksL t (cellsIn p s)).2) = none := findIdx_none hnb
  refine hex _ _ ?_
  clear hk hnb hh hnx hex hrt
  (try simp (maxSteps:=1000000) (disch:=first|exact Lb rfl|omega) only [AXS,AXB,J.dst,reduceIte,Z1,Z2,Z3,Z4,Z5]); rw [f98c12_eq]; (try simp (maxSteps:=1000000) (disch:=first|exact Lb rfl|omega) only [AXS,AXB,J.dst,reduceIte,Z1,Z2,Z3,Z4,Z5,f98r8])
  rw [f98c13_eq]
  refine loop_in (fun m σ h' => Ext h4 h' ∧ ∃ (k : Nat) (acc : List Pai) (pa : Option Addr) (pc : Nat),k + m = ss.length ∧ readL p t ss [] = readL p t (ss.drop k) acc ∧ acc.length ≤ 512 ∧ Own h4.size h' 99 2 pa acc.length pc (acc.flatMap ePai) ∧
   σ = [(2,.slice sa ss.length sc),(3,ptr b3 0),(4,ptr b4 0),(7,ptr b7 0),(8,.slice pa acc.length pc),(12,vi k)]) ss.length ⟨Ext.refl _,0,[],none,0,by omega,rfl,by simp,Own.nil _ _ _ _,rfl⟩ ?_
  rintro m σ h5 ⟨e5,k,acc,pa,pc,hk,hrl,hal,O5,rfl⟩ Q' hnx hex hrt _
  have e05 := e04.trans e5
  replace B3 := B3.ext e5; replace B4 := B4.ext e5; replace B7 := B7.ext e5
  have z04 := e04.size
  have z5 := e5.size
  have z4 := e4.size
  (try simp (maxSteps:=1000000) (disch:=first|exact Lb rfl|omega) only [AXS,AXB,J.dst,reduceIte,Z1,Z2,Z3,Z4,Z5]); rw [f98c14_eq]; (try simp (maxSteps:=1000000) (disch:=first|exact Lb rfl|omega) only [AXS,AXB,J.dst,reduceIte,Z1,Z2,Z3,Z4,Z5,f98r9]); rw [f98c15_eq]; (try simp (maxSteps:=1000000) (disch:=first|exact Lb rfl|omega) only [AXS,AXB,J.dst,reduceIte,Z1,Z2,Z3,Z4,Z5])
  refine ⟨fun hh => ?_,fun hh => ?_⟩
  ·have hkl : k < ss.length := by have := of_decide_eq_true hh; omega
   obtain ⟨s,hx⟩ := get_ex hkl
   obtain ⟨b',o,rfl,_,hrow⟩ := (Z.ext e05).elem eSpn_len hx
   have hdrop : ss.drop k = s :: ss.drop (k + 1) := by
    rw [List.drop_eq_getElem_cons hkl]
    rw [List.getElem?_eq_getElem hkl] at hx; cases hx; rfl
   have l3 := B3.lt
   have l4 := B4.lt
   have lb := hrow.lt (by rw [eSpn_len]; omega)
   have S5 := S.ext e05
   try simp (maxSteps:=1000000) (disch:=first|exact Lb rfl|omega) only [AXS,AXB,J.dst,reduceIte,Z1,Z2,Z3,Z4,Z5]
   rw [f98c16_eq,f98c17_eq]
   refine drw_lt ?_
   simp (maxSteps:=1000000) (disch:=first|exact Lb rfl|omega) only [AXS,AXB,J.dst,reduceIte,Z1,Z2,Z3,Z4,Z5,f98r10,B3.cel,ePr,hcn,row_spn hrow,B4.rd,eStamp]
   repeat (with_reducible refine And.intro (by intros; omega) ?_)
   rw [i64_wrap (by omega) (by omega)]
   refine rscanG g.cells hn S5.cells s t (512 - acc.length) ?_
   intro xa xc h6 O6 e6
   refine ⟨kp_ext (Nat.le_refl _) e6,?_⟩
   try simp (maxSteps:=1000000) (disch:=first|exact Lb rfl|omega) only [AXS,AXB,J.dst,reduceIte,Z1,Z2,Z3,Z4,Z5]
   have hlen := scanL_len t (512 - acc.length) (withinL p.cells s)
   have hstep : readL p t (ss.drop k) acc = if (scanL t (512 - acc.length) (withinL p.cells s) []).2 = 0 then readL p t (ss.drop (k + 1)) (acc ++ (scanL t (512 - acc.length) (withinL p.cells s) []).1) else (acc,(scanL t (512 - acc.length) (withinL p.cells s) []).2) := by rw [hdrop]; rfl
   generalize scanL t (512 - acc.length) (withinL p.cells s) [] = sr at O6 hlen hstep ⊢
   replace B7 := B7.ext e6
   have z6 := e6.size
   (try simp (maxSteps:=1000000) (disch:=first|exact Lb rfl|omega) only [AXS,AXB,J.dst,reduceIte,Z1,Z2,Z3,Z4,Z5]); rw [f98c18_eq]; (try simp (maxSteps:=1000000) (disch:=first|exact Lb rfl|omega) only [AXS,AXB,J.dst,reduceIte,Z1,Z2,Z3,Z4,Z5,f98r11]); rw [f98c19_eq]; (try simp (maxSteps:=1000000) (disch:=first|exact Lb rfl|omega) only [AXS,AXB,J.dst,reduceIte,Z1,Z2,Z3,Z4,Z5])
   refine ⟨fun q => ?_,fun q => ?_⟩
   ·have hne : sr.2 ≠ 0 := by simpa using q
    (try simp (maxSteps:=1000000) (disch:=first|exact Lb rfl|omega) only [AXS,AXB,J.dst,reduceIte,Z1,Z2,Z3,Z4,Z5]); rw [f98c20_eq]; (try simp (maxSteps:=1000000) (disch:=first|exact Lb rfl|omega) only [AXS,AXB,J.dst,reduceIte,Z1,Z2,Z3,Z4,Z5,f98r12])
    refine wL_stN rfl rfl rfl B7 (by decide) (noRep_one (errR sr.2).s) ?_
    rintro h7 u7 (B8 : Blk _ _ _ (eRp ⟨(errR sr.2).s,none,0,0⟩))
    try simp (maxSteps:=1000000) (disch:=first|exact Lb rfl|omega) only [AXS,AXB,J.dst,reduceIte,Z1,Z2,Z3,Z4,Z5]
    refine hrt _ _ ?_
    simp (maxSteps:=1000000) (disch:=first|exact Lb rfl|omega) only [AXS,AXB,J.dst,reduceIte,Z1,Z2,Z3,Z4,Z5,B8.rd,eRp]
    have hp : pairsP p t ss = ([],(errR sr.2).s) := by
     unfold pairsP
     rw [hnone]
     simp only [hrl,hstep,if_neg hne]
    have := hR none 0 h7 (by rw [hp]; exact Own.nil _ _ _ _) (u7.ext (e05.trans e6) (by omega))
    rw [hp] at this
    exact this
   ·have he0 : sr.2 = 0 := by simpa using q
    rw [if_pos he0] at hstep
    have hl9 : acc.length + sr.1.length ≤ 512 := by
     rcases hlen he0 with h | h
     ·rw [h]; simpa using hal
     ·omega
    (try simp (maxSteps:=1000000) (disch:=first|exact Lb rfl|omega) only [AXS,AXB,J.dst,reduceIte,Z1,Z2,Z3,Z4,Z5]); rw [f98c21_eq]; (try simp (maxSteps:=1000000) (disch:=first|exact Lb rfl|omega) only [AXS,AXB,J.dst,reduceIte,Z1,Z2,Z3,Z4,Z5,f98r13])
    rw [wL_raw]
    refine raw_append slT45 rfl rfl rfl (O5.ext e6) (flat_len sr.1) (own_news O6) (one_flatMap ePai_one sr.1) (by unfold maxLen; omega) (by omega) (by omega) ?_
    intro pa' pc' h7 O7 G7 A7
    refine ⟨trivial,?_⟩
    try simp (maxSteps:=1000000) (disch:=first|exact Lb rfl|omega) only [AXS,AXB,J.dst,reduceIte,Z1,Z2,Z3,Z4,Z5]
    (try simp (maxSteps:=1000000) (disch:=first|exact Lb rfl|omega) only [AXS,AXB,J.dst,reduceIte,Z1,Z2,Z3,Z4,Z5]); rw [f98c22_eq]; (try simp (maxSteps:=1000000) (disch:=first|exact Lb rfl|omega) only [AXS,AXB,J.dst,reduceIte,Z1,Z2,Z3,Z4,Z5,f98r14])
    rw [i64_wrap (by omega) (by omega)]
    refine hnx (m - 1) _ _ (by omega) ⟨G7.ext (e5.trans e6) (fun j hj => (O5.ob j hj).1),k + 1,acc ++ sr.1,pa',pc',by omega,by rw [hrl,hstep],by rw [List.length_append]; exact hl9,by rw [List.length_append,List.flatMap_append]; exact O7,by rw [List.length_append]; rfl⟩
  ·have hkl : k = ss.length := by have := of_decide_eq_false hh; omega
   have hfin : readL p t ss [] = (acc,0) := by rw [hrl,hkl,List.drop_length]; rfl
   refine hex _ _ ?_
   (try simp (maxSteps:=1000000) (disch:=first|exact Lb rfl|omega) only [AXS,AXB,J.dst,reduceIte,Z1,Z2,Z3,Z4,Z5]); rw [f98c23_eq]; (try simp (maxSteps:=1000000) (disch:=first|exact Lb rfl|omega) only [AXS,AXB,J.dst,reduceIte,Z1,Z2,Z3,Z4,Z5,f98r15])
   refine wL_stN rfl rfl rfl B7 (by decide) (noRep_one okS) ?_
   rintro h7 u7 (B8 : Blk _ _ _ (eRp ⟨okS,none,0,0⟩))
   try simp (maxSteps:=1000000) (disch:=first|exact Lb rfl|omega) only [AXS,AXB,J.dst,reduceIte,Z1,Z2,Z3,Z4,Z5]
   simp (maxSteps:=1000000) (disch:=first|exact Lb rfl|omega) only [AXS,AXB,J.dst,reduceIte,Z1,Z2,Z3,Z4,Z5,B8.rd,eRp]
   have hp : pairsP p t ss = (acc,okS) := by
    unfold pairsP
    rw [hnone]
    simp only [hfin,if_true]
   have hob := O5.ob
   have := hR pa pc h7 (by rw [hp]; exact (O5.mono (by omega)).gr u7.gr (fun j hj e => by cases e; have := hob b7 hj; omega)) (u7.ext e05 (by omega))
   rw [hp] at this
   exact this
end Go.Proofs.Ytefghfgmkndikaa
namespace Go.Proofs.Ytefghfgmkndikaa
open Go Go.AX
theorem rlockG {B : Nat → Prop} {a : Option Addr} {c n : Nat} {cs : List Cell} {h : Heap} {R : Value → Heap → Prop} (g : Gd n cs) (hn : n ≤ 900000) (S : SlC B h a cs) (w : Wri) (l : Lck)
  (hR : ∀ a' c' h',Gd (n + 1) (lockL cs w l) → OwnC h.size h' a' (lockL cs w l).length c' (lockL cs w l) → Ext h h' → R (.slice a' (lockL cs w l).length c') h') :
  CallsH Try.prog 79 [.slice a cs.length c,.agg (eWri w).toArray,.agg (eLck l).toArray] h R := by
 obtain ⟨z1,z2,z3,z4,z5,z6⟩ := szAll g.sz hn
 refine rlock_ok cs w l h S z1 z6 ?_
 intro a' n' c' h' O e
 obtain rfl := OwnC.len O
 rw [rlockL_lock g.good] at O ⊢
 exact hR _ _ _ (lockG' g w l) O e
theorem rsettleG {B : Nat → Prop} {a : Option Addr} {c n : Nat} {cs : List Cell} {h : Heap} {R : Value → Heap → Prop} (g : Gd n cs) (hn : n ≤ 900000) (S : SlC B h a cs) (by_ : Try4) (yes : Bool)
  (hR : ∀ a' c' h',OwnC h.size h' a' (settleL cs by_ yes).length c' (settleL cs by_ yes) → Ext h h' → R (.slice a' (settleL cs by_ yes).length c') h') :
  CallsH Try.prog 80 [.slice a cs.length c,.agg (eTry by_).toArray,.bool yes] h R := by
 obtain ⟨z1,z2,z3,z4,z5,z6⟩ := szAll g.sz hn
 refine rsettle_ok cs by_ yes h S z5 z2 ?_
 intro a' n' c' h' O e
 obtain rfl := OwnC.len O
 rw [rsettleL_eq g.good] at O ⊢
 exact hR _ _ _ O e
theorem rtrimG {B : Nat → Prop} {a : Option Addr} {c n : Nat} {cs : List Cell} {h : Heap} {R : Value → Heap → Prop} (g : Gd n cs) (hn : n ≤ 900000) (S : SlC B h a cs) (t : Stamp)
  (hR : ∀ a' c' h',OwnC h.size h' a' (trimL cs t).length c' (trimL cs t) → Ext h h' → R (.slice a' (trimL cs t).length c') h') :
  CallsH Try.prog 81 [.slice a cs.length c,.agg (eStamp t).toArray] h R := by
 obtain ⟨z1,z2,z3,z4,z5,z6⟩ := szAll g.sz hn
 refine rtrim_ok cs t h S z5 z2 ?_
 intro a' n' c' h' O e
 obtain rfl := OwnC.len O
 rw [rtrimL_eq g.good] at O ⊢
 exact hR _ _ _ O e
set_option maxHeartbeats 4000000 in
theorem rprep_ok {h0 h hc : Heap} {lo n : Nat} {B : Nat → Prop} (pv : PrV) (p : Prt) (cv : CmV) (c : Cmd) (x0 : Ext h0 h) (O : PrO h0.size lo hc h pv p) (C : CmR B h0 cv c) (g : SzP n p) (hn : n + c.writes.length ≤ 900000) {R : Value → Heap → Prop}
  (hR : ∀ pv' h' lo' hc',PrO h0.size lo' hc' h' pv' (prepP p c).1 → Ext h h' → (∀ b,b < h.size → ApP b lo hc pv → ApP b lo' hc' pv') → (prepP p c).2.pairs = [] → R (.tuple #[.agg (ePr pv').toArray,.agg (eRp ⟨(prepP p c).2.s,none,0,0⟩).toArray]) h') :
  CallsH Try.prog 100 [.agg (ePr pv).toArray,.agg (eCm cv).toArray] h R := by
 have hn' : n ≤ 900000 := by omega
 have hcs := C.s
 have hcw := C.wn
 have hps := O.s
 have hz := O.le
 have hx0 := x0.size
 have gd := g.done
 refine f100ok (by simp) ?_
 (try simp (maxSteps:=1000000) (disch:=first|exact Lb rfl|omega) only [AXS,AXB,J.dst,reduceIte,Z1,Z2,Z3,Z4,Z5]); rw [f100c0_eq]; (try simp (maxSteps:=1000000) (disch:=first|exact Lb rfl|omega) only [AXS,AXB,J.dst,reduceIte,Z1,Z2,Z3,Z4,Z5,f100r0])
 refine wL_boxN rfl ?_; rintro b2 h1 e1 s1 hb2 (B2 : Blk _ _ _ (ePr pv))
 refine wL_boxN rfl ?_; rintro b3 h2 e2 s2 hb3 (B3 : Blk _ _ _ (eCm cv))
 replace B2 := B2.ext e2
 try simp (maxSteps:=1000000) (disch:=first|exact Lb rfl|omega) only [AXS,AXB,J.dst,reduceIte,Z1,Z2,Z3,Z4,Z5]
 refine wL_newN ?_; rintro b4 h3 e3 s3 hb4 B4
 try simp (maxSteps:=1000000) (disch:=first|exact Lb rfl|omega) only [AXS,AXB,J.dst,reduceIte,Z1,Z2,Z3,Z4,Z5]
 refine wL_newN ?_; rintro b5 h4 e4 s4 hb5 B5
 replace B2 := B2.ext e3; replace B3 := B3.ext e3
 replace B2 := B2.ext e4; replace B3 := B3.ext e4; replace B4 := B4.ext e4
 have e04 := ((e1.trans e2).trans e3).trans e4
 have I4 : InP h0 h4 b2 pv p lo hc := ⟨x0.trans e04,O.exts e04,B2,⟨by omega,.inr (by omega)⟩,(O.ap' (b := b2) (by omega)).2.1,(O.ap' (b := b2) (by omega)).2.2⟩
 have fin : ∀ (hz : Heap) (pv' : PrV) (p' : Prt) (lo' : Nat) (hc' : Heap) (s : RpS) (hA hB : Heap),InP h0 hz b2 pv' p' lo' hc' → Ext h hz → (∀ b,b < h.size → ApP b lo hc pv → ApP b lo' hc' pv') → ApP b4 lo' hc' pv' → ApP b5 lo' hc' pv' →
   Upd b4 hz hA → Upd b5 hA hB → prepP p c = (p',⟨s,[]⟩) → R (.tuple #[.agg (ePr pv').toArray,.agg (eRp ⟨s,none,0,0⟩).toArray]) hB := by
  intro hz pv' p' lo' hc' s hA hB I e F a4 a5 uA uB hp
  have := hR pv' hB lo' hc' (by rw [hp]; exact (I.o.upd uA a4.1 a4.2.1 a4.2.2).upd uB a5.1 a5.2.1 a5.2.2) (uB.ext (uA.ext e (by omega)) (by omega)) F (by rw [hp])
  rw [hp] at this
  exact this
 have z4 := e04.size
 (try simp (maxSteps:=1000000) (disch:=first|exact Lb rfl|omega) only [AXS,AXB,J.dst,reduceIte,Z1,Z2,Z3,Z4,Z5]); rw [f100c1_eq]; (try simp (maxSteps:=1000000) (disch:=first|exact Lb rfl|omega) only [AXS,AXB,J.dst,reduceIte,Z1,Z2,Z3,Z4,Z5,f100r1,B2.cel,ePr,O.dn,B3.rd,eCm,hcs])
 refine rfindO_ok p.done c.s.by_ _ (((SlF.of_own O.done O.dn).imp (B' := fun _ => True) fun _ _ => trivial).ext e04) (by unfold maxLen; omega) ?_
 intro h5 e5
 refine ⟨trivial,?_⟩
 replace B2 := B2.ext e5; replace B3 := B3.ext e5; replace B4 := B4.ext e5; replace B5 := B5.ext e5
 try simp (maxSteps:=1000000) (disch:=first|exact Lb rfl|omega) only [AXS,AXB,J.dst,reduceIte,Z1,Z2,Z3,Z4,Z5]
 refine wL_newN ?_; rintro b6 h6 e6 s6 hb6 B6
 replace B2 := B2.ext e6; replace B3 := B3.ext e6; replace B4 := B4.ext e6; replace B5 := B5.ext e6
 try simp (maxSteps:=1000000) (disch:=first|exact Lb rfl|omega) only [AXS,AXB,J.dst,reduceIte,Z1,Z2,Z3,Z4,Z5]
 refine wL_stN rfl rfl rfl B6 (by decide) (eOut_one ((findO p.done c.s.by_).getD noOut)) ?_
 rintro h7 u7 (B6 : Blk _ _ _ (eOut ((findO p.done c.s.by_).getD noOut)))
 have z5 := e5.size
 have z6 := e6.size
 have z7 := u7.size
 replace B2 := u7.blk B2 (by omega)
 replace B3 := u7.blk B3 (by omega)
 replace B4 := u7.blk B4 (by omega)
 replace B5 := u7.blk B5 (by omega)
 have e47 := e5.trans (u7.ext e6 (by omega))
 have I7 := I4.exts e47
 have e07 := e04.trans e47
 have O4' := O.ap' (b := b4) (by omega)
 have O5' := O.ap' (b := b5) (by omega)
 have m2 := B2.lt
 have m3 := B3.lt
 have m6 := B6.lt
 (try simp (maxSteps:=1000000) (disch:=first|exact Lb rfl|omega) only [AXS,AXB,J.dst,reduceIte,Z1,Z2,Z3,Z4,Z5]); rw [f100c2_eq]; (try simp (maxSteps:=1000000) (disch:=first|exact Lb rfl|omega) only [AXS,AXB,J.dst,reduceIte,Z1,Z2,Z3,Z4,Z5,f100r2]); rw [f100c3_eq]; (try simp (maxSteps:=1000000) (disch:=first|exact Lb rfl|omega) only [AXS,AXB,J.dst,reduceIte,Z1,Z2,Z3,Z4,Z5])
 refine ⟨fun q1 => ?_,fun q1 => ?_⟩
 ·obtain ⟨o,ho⟩ := Option.isSome_iff_exists.1 q1
  rw [ho,Option.getD_some] at B6
  have hl : prepP p c = (p,⟨{ okS with err := 26,yes := o.yes },[]⟩) := by unfold prepP; rw [ho]
  try simp (maxSteps:=1000000) (disch:=first|exact Lb rfl|omega) only [AXS,AXB,J.dst,reduceIte,Z1,Z2,Z3,Z4,Z5]
  rw [f100c4_eq]
  refine ⟨fun b => b < h7.size ∧ b ≠ b4 ∧ b ≠ b5,fun b hb => hb.1,?_⟩
  have n1 : b2 ≠ b4 ∧ b2 ≠ b5 := by omega
  have n2 : b6 ≠ b4 ∧ b6 ≠ b5 := by omega
  simp (maxSteps:=1000000) (disch:=first|exact Lb rfl|omega) only [AXS,AXB,J.dst,reduceIte,Z1,Z2,Z3,Z4,Z5,f100r3,B2.rd,ePr,B6.cel,eOut]
  refine ⟨⟨by omega,n1⟩,⟨by omega,n2⟩,?_⟩
  refine wL_stD rfl rfl (fun hb => hb.2.1 rfl) rfl B4 (by decide) (ePr_one pv) ?_
  rintro h8 u8 (E4 : Blk _ _ _ (ePr pv))
  try simp (maxSteps:=1000000) (disch:=first|exact Lb rfl|omega) only [AXS,AXB,J.dst,reduceIte,Z1,Z2,Z3,Z4,Z5]
  refine wL_stD rfl rfl (fun hb => hb.2.2 rfl) rfl (u8.blk B5 (by omega)) (by decide) (eRp_one ⟨{ okS with err := 26,yes := o.yes },none,0,0⟩) ?_
  rintro h9 u9 (E5 : Blk _ _ _ (eRp ⟨{ okS with err := 26,yes := o.yes },none,0,0⟩))
  replace E4 := u9.blk E4 (by omega)
  simp (maxSteps:=1000000) (disch:=first|exact Lb rfl|omega) only [AXS,AXB,J.dst,reduceIte,Z1,Z2,Z3,Z4,Z5,E4.rd,ePr,E5.rd,eRp]
  have := fin h7 pv p lo hc { okS with err := 26,yes := o.yes } h8 h9 I7 e07 (fun _ _ h => h) O4' O5' u8 u9 hl
  exact this
 have hno : findO p.done c.s.by_ = none := by simpa using q1
 clear B6 m6
 (try simp (maxSteps:=1000000) (disch:=first|exact Lb rfl|omega) only [AXS,AXB,J.dst,reduceIte,Z1,Z2,Z3,Z4,Z5]); rw [f100c5_eq]; (try simp (maxSteps:=1000000) (disch:=first|exact Lb rfl|omega) only [AXS,AXB,J.dst,reduceIte,Z1,Z2,Z3,Z4,Z5,f100r4,B2.cel,ePr,O.cn,B3.rd,eCm,hcs])
 refine rmineG g.cells hn' I7.cells c.s.by_ ?_
 intro h8 e8
 refine ⟨trivial,?_⟩
 replace B2 := B2.ext e8; replace B3 := B3.ext e8; replace B4 := B4.ext e8; replace B5 := B5.ext e8
 have I8 := I7.exts e8
 have e08 := e07.trans e8
 (try simp (maxSteps:=1000000) (disch:=first|exact Lb rfl|omega) only [AXS,AXB,J.dst,reduceIte,Z1,Z2,Z3,Z4,Z5]); rw [f100c6_eq]; (try simp (maxSteps:=1000000) (disch:=first|exact Lb rfl|omega) only [AXS,AXB,J.dst,reduceIte,Z1,Z2,Z3,Z4,Z5])
 refine ⟨fun q2 => ?_,fun q2 => ?_⟩
 ·have hl : prepP p c = (p,⟨okS,[]⟩) := by unfold prepP; rw [hno]; simp only [q2,if_true]
  (try simp (maxSteps:=1000000) (disch:=first|exact Lb rfl|omega) only [AXS,AXB,J.dst,reduceIte,Z1,Z2,Z3,Z4,Z5]); rw [f100c7_eq]; (try simp (maxSteps:=1000000) (disch:=first|exact Lb rfl|omega) only [AXS,AXB,J.dst,reduceIte,Z1,Z2,Z3,Z4,Z5,f100r5,B2.rd,ePr])
  refine wL_stN rfl rfl rfl B4 (by decide) (ePr_one pv) ?_
  rintro h9 u9 (E4 : Blk _ _ _ (ePr pv))
  try simp (maxSteps:=1000000) (disch:=first|exact Lb rfl|omega) only [AXS,AXB,J.dst,reduceIte,Z1,Z2,Z3,Z4,Z5]
  refine wL_stN rfl rfl rfl (u9.blk B5 (by omega)) (by decide) (eRp_one ⟨okS,none,0,0⟩) ?_
  rintro h10 u10 (E5 : Blk _ _ _ (eRp ⟨okS,none,0,0⟩))
  replace E4 := u10.blk E4 (by omega)
  simp (maxSteps:=1000000) (disch:=first|exact Lb rfl|omega) only [AXS,AXB,J.dst,reduceIte,Z1,Z2,Z3,Z4,Z5,E4.rd,ePr,E5.rd,eRp]
  have := fin h8 pv p lo hc okS h9 h10 I8 e08 (fun _ _ h => h) O4' O5' u9 u10 hl
  exact this
 (try simp (maxSteps:=1000000) (disch:=first|exact Lb rfl|omega) only [AXS,AXB,J.dst,reduceIte,Z1,Z2,Z3,Z4,Z5]); rw [f100c8_eq]; (try simp (maxSteps:=1000000) (disch:=first|exact Lb rfl|omega) only [AXS,AXB,J.dst,reduceIte,Z1,Z2,Z3,Z4,Z5,f100r6,B3.cel,eCm,hcs,B2.cel,ePr,hps])
 (try simp (maxSteps:=1000000) (disch:=first|exact Lb rfl|omega) only [AXS,AXB,J.dst,reduceIte,Z1,Z2,Z3,Z4,Z5]); rw [f100c9_eq]; (try simp (maxSteps:=1000000) (disch:=first|exact Lb rfl|omega) only [AXS,AXB,J.dst,reduceIte,Z1,Z2,Z3,Z4,Z5])
 have z8 := e8.size
 refine ⟨fun q3 => ?_,fun q3 => ?_⟩
 ·have q3' : c.s.at_.wall ≤ p.s.closed := of_decide_eq_true q3
  have hl : prepP p c = (p,⟨{ okS with err := 21,wall := p.s.closed },[]⟩) := by unfold prepP; rw [hno]; simp only [q2,Bool.false_eq_true,if_false,if_pos q3']
  try simp (maxSteps:=1000000) (disch:=first|exact Lb rfl|omega) only [AXS,AXB,J.dst,reduceIte,Z1,Z2,Z3,Z4,Z5]
  rw [f100c10_eq]
  refine ⟨fun b => b < h8.size ∧ b ≠ b4 ∧ b ≠ b5,fun b hb => hb.1,?_⟩
  have n1 : b2 ≠ b4 ∧ b2 ≠ b5 := by omega
  simp (maxSteps:=1000000) (disch:=first|exact Lb rfl|omega) only [AXS,AXB,J.dst,reduceIte,Z1,Z2,Z3,Z4,Z5,f100r7,B2.rd,B2.cel,ePr,hps]
  refine ⟨⟨by omega,n1⟩,⟨by omega,n1⟩,?_⟩
  refine wL_stD rfl rfl (fun hb => hb.2.1 rfl) rfl B4 (by decide) (ePr_one { pv with s := p.s }) ?_
  rintro h9 u9 (E4 : Blk _ _ _ (ePr { pv with s := p.s }))
  try simp (maxSteps:=1000000) (disch:=first|exact Lb rfl|omega) only [AXS,AXB,J.dst,reduceIte,Z1,Z2,Z3,Z4,Z5]
  refine wL_stD rfl rfl (fun hb => hb.2.2 rfl) rfl (u9.blk B5 (by omega)) (by decide) (eRp_one ⟨{ okS with err := 21,wall := p.s.closed },none,0,0⟩) ?_
  rintro h10 u10 (E5 : Blk _ _ _ (eRp ⟨{ okS with err := 21,wall := p.s.closed },none,0,0⟩))
  replace E4 := u10.blk E4 (by omega)
  simp (maxSteps:=1000000) (disch:=first|exact Lb rfl|omega) only [AXS,AXB,J.dst,reduceIte,Z1,Z2,Z3,Z4,Z5,E4.rd,ePr,E5.rd,eRp]
  have := fin h8 pv p lo hc { okS with err := 21,wall := p.s.closed } h9 h10 I8 e08 (fun _ _ h => h) O4' O5' u9 u10 hl
  rw [← hps] at this ⊢
  exact this
 have q3' : ¬ c.s.at_.wall ≤ p.s.closed := of_decide_eq_false q3
 (try simp (maxSteps:=1000000) (disch:=first|exact Lb rfl|omega) only [AXS,AXB,J.dst,reduceIte,Z1,Z2,Z3,Z4,Z5]); rw [f100c11_eq]; (try simp (maxSteps:=1000000) (disch:=first|exact Lb rfl|omega) only [AXS,AXB,J.dst,reduceIte,Z1,Z2,Z3,Z4,Z5,f100r8,B3.rd,eCm,hcs,B2.rd,ePr,hps])
 refine rless_ok c.s.at_ p.s.floor _ ?_
 intro h9 e9
 refine ⟨trivial,?_⟩
 replace B2 := B2.ext e9; replace B3 := B3.ext e9; replace B4 := B4.ext e9; replace B5 := B5.ext e9
 have I9 := I8.exts e9
 have e09 := e08.trans e9
 have z9 := e9.size
 (try simp (maxSteps:=1000000) (disch:=first|exact Lb rfl|omega) only [AXS,AXB,J.dst,reduceIte,Z1,Z2,Z3,Z4,Z5]); rw [f100c12_eq]; (try simp (maxSteps:=1000000) (disch:=first|exact Lb rfl|omega) only [AXS,AXB,J.dst,reduceIte,Z1,Z2,Z3,Z4,Z5])
 refine ⟨fun q4 => ?_,fun q4 => ?_⟩
 ·have hl : prepP p c = (p,⟨{ okS with err := 22,at_ := p.s.floor },[]⟩) := by unfold prepP; rw [hno]; simp only [q2,Bool.false_eq_true,if_false,if_neg q3',q4,if_true]
  try simp (maxSteps:=1000000) (disch:=first|exact Lb rfl|omega) only [AXS,AXB,J.dst,reduceIte,Z1,Z2,Z3,Z4,Z5]
  rw [f100c13_eq]
  refine ⟨fun b => b < h9.size ∧ b ≠ b4 ∧ b ≠ b5,fun b hb => hb.1,?_⟩
  have n1 : b2 ≠ b4 ∧ b2 ≠ b5 := by omega
  simp (maxSteps:=1000000) (disch:=first|exact Lb rfl|omega) only [AXS,AXB,J.dst,reduceIte,Z1,Z2,Z3,Z4,Z5,f100r9,B2.rd,ePr,hps]
  refine ⟨⟨by omega,n1⟩,⟨by omega,n1⟩,?_⟩
  refine wL_stD rfl rfl (fun hb => hb.2.1 rfl) rfl B4 (by decide) (ePr_one { pv with s := p.s }) ?_
  rintro h10 u10 (E4 : Blk _ _ _ (ePr { pv with s := p.s }))
  try simp (maxSteps:=1000000) (disch:=first|exact Lb rfl|omega) only [AXS,AXB,J.dst,reduceIte,Z1,Z2,Z3,Z4,Z5]
  refine wL_stD rfl rfl (fun hb => hb.2.2 rfl) rfl (u10.blk B5 (by omega)) (by decide) (eRp_one ⟨{ okS with err := 22,at_ := p.s.floor },none,0,0⟩) ?_
  rintro h11 u11 (E5 : Blk _ _ _ (eRp ⟨{ okS with err := 22,at_ := p.s.floor },none,0,0⟩))
  replace E4 := u11.blk E4 (by omega)
  simp (maxSteps:=1000000) (disch:=first|exact Lb rfl|omega) only [AXS,AXB,J.dst,reduceIte,Z1,Z2,Z3,Z4,Z5,E4.rd,ePr,E5.rd,eRp]
  have := fin h9 pv p lo hc { okS with err := 22,at_ := p.s.floor } h10 h11 I9 e09 (fun _ _ h => h) O4' O5' u10 u11 hl
  rw [← hps] at this ⊢
  exact this
 have hpre : prepP p c = match c.writes.find? fun w => (heldK p.cells w.key).2 with
   | some w => (p,lockedR (heldK p.cells w.key).1)
   | none => ({ p with cells := c.writes.foldl (fun cs w => lockL cs w (lkC c)) p.cells },⟨okS,[]⟩) := by
  unfold prepP; rw [hno]; simp only [q2,q3',q4,Bool.false_eq_true,if_false]
  try rfl
 clear hno q1 q2 q3 q3' q4
 have hwl : c.writes.length ≤ 900000 := by omega
 (try simp (maxSteps:=1000000) (disch:=first|exact Lb rfl|omega) only [AXS,AXB,J.dst,reduceIte,Z1,Z2,Z3,Z4,Z5]); rw [f100c14_eq]; (try simp (maxSteps:=1000000) (disch:=first|exact Lb rfl|omega) only [AXS,AXB,J.dst,reduceIte,Z1,Z2,Z3,Z4,Z5,f100r10])
 rw [f100c15_eq]
 refine loop_in (fun m σ h' => Ext h9 h' ∧ ∃ k : Nat,k + m = c.writes.length ∧ (∀ j w,j < k → c.writes[j]? = some w → (heldK p.cells w.key).2 = false) ∧ σ = [(2,ptr b2 0),(3,ptr b3 0),(4,ptr b4 0),(5,ptr b5 0),(8,vi k)]) c.writes.length ⟨Ext.refl _,0,by omega,by intros; omega,rfl⟩ ?_
 rintro m σ h10 ⟨e10,k,hk,hnb,rfl⟩ Q' hnx hex hrt _
 replace B2 := B2.ext e10; replace B3 := B3.ext e10; replace B4 := B4.ext e10; replace B5 := B5.ext e10
 have I10 := I9.exts e10
 have e010 := e09.trans e10
 have z10 := e10.size
 (try simp (maxSteps:=1000000) (disch:=first|exact Lb rfl|omega) only [AXS,AXB,J.dst,reduceIte,Z1,Z2,Z3,Z4,Z5]); rw [f100c16_eq]; (try simp (maxSteps:=1000000) (disch:=first|exact Lb rfl|omega) only [AXS,AXB,J.dst,reduceIte,Z1,Z2,Z3,Z4,Z5,f100r11,B3.cel,eCm,hcw]); rw [f100c17_eq]; (try simp (maxSteps:=1000000) (disch:=first|exact Lb rfl|omega) only [AXS,AXB,J.dst,reduceIte,Z1,Z2,Z3,Z4,Z5,B3.cel,eCm,hcw])
 refine ⟨fun hh => ?_,fun hh => ?_⟩
 ·have hkl : k < c.writes.length := by have := of_decide_eq_true hh; omega
  obtain ⟨w,hx⟩ := get_ex hkl
  obtain ⟨b',o,hsa,_,hrow⟩ := (C.writes.ext I10.ext).elem eWri_len hx
  have l2 := B2.lt
  have l3 := B3.lt
  have lw := hrow.lt (by rw [eWri_len]; omega)
  try simp (maxSteps:=1000000) (disch:=first|exact Lb rfl|omega) only [AXS,AXB,J.dst,reduceIte,Z1,Z2,Z3,Z4,Z5]
  rw [f100c18_eq,f100c19_eq]
  refine drt_lt ?_
  simp only [f100r12,wT_one,wT_alt,wT_nil]
  simp (maxSteps:=1000000) (disch:=first|exact Lb rfl|omega) only [AXS,AXB,J.dst,reduceIte,Z1,Z2,Z3,Z4,Z5,B2.cel,ePr,I10.o.cn,B3.cel,eCm,hcw,hsa,row_wri hrow]
  have app : ∀ h12 b9,Ext h10 h12 → Blk h12 b9 72 (eLck (heldK p.cells w.key).1) → wC Try.prog f100c20 (X.inBlock 1 (X.then (fun σ h => wC Try.prog f100c23 Q' σ h) Q')) [(2,ptr b2 0),(3,ptr b3 0),(4,ptr b4 0),(5,ptr b5 0),(8,vi k),(9,ptr b9 0),(10,.bool (heldK p.cells w.key).2)] h12 := by
   intro h12 b9 e12 B9
   replace B2 := B2.ext e12; replace B4 := B4.ext e12; replace B5 := B5.ext e12
   have I12 := I10.exts e12
   have z12 := e12.size
   have l9 := B9.lt
   (try simp (maxSteps:=1000000) (disch:=first|exact Lb rfl|omega) only [AXS,AXB,J.dst,reduceIte,Z1,Z2,Z3,Z4,Z5]); rw [f100c20_eq]; (try simp (maxSteps:=1000000) (disch:=first|exact Lb rfl|omega) only [AXS,AXB,J.dst,reduceIte,Z1,Z2,Z3,Z4,Z5,f100r13]); rw [f100c21_eq]; (try simp (maxSteps:=1000000) (disch:=first|exact Lb rfl|omega) only [AXS,AXB,J.dst,reduceIte,Z1,Z2,Z3,Z4,Z5])
   refine ⟨fun q => ?_,fun q => ?_⟩
   ·have hl : prepP p c = (p,⟨(lockedR (heldK p.cells w.key).1).s,[]⟩) := by
     rw [hpre,findIdx_some hx q hnb]
     rfl
    try simp (maxSteps:=1000000) (disch:=first|exact Lb rfl|omega) only [AXS,AXB,J.dst,reduceIte,Z1,Z2,Z3,Z4,Z5]
    rw [f100c22_eq]
    refine ⟨fun b => b < h12.size ∧ b ≠ b4 ∧ b ≠ b5,fun b hb => hb.1,?_⟩
    have n1 : b2 ≠ b4 ∧ b2 ≠ b5 := by omega
    by_cases n9 : b9 ≠ b4 ∧ b9 ≠ b5
    ·simp (maxSteps:=1000000) (disch:=first|exact Lb rfl|omega) only [AXS,AXB,J.dst,reduceIte,Z1,Z2,Z3,Z4,Z5,f100r14,B2.rd,ePr,B9.rd,eLck]
     refine ⟨⟨by omega,n1⟩,⟨by omega,n9⟩,?_⟩
     refine rlocked_ok (heldK p.cells w.key).1 _ ?_
     intro h13 e13
     refine ⟨fun b hb => e13.at_ b hb.1,?_⟩
     replace B4 := B4.ext e13; replace B5 := B5.ext e13
     have I13 := I12.exts e13
     try simp (maxSteps:=1000000) (disch:=first|exact Lb rfl|omega) only [AXS,AXB,J.dst,reduceIte,Z1,Z2,Z3,Z4,Z5]
     refine wL_stD rfl rfl (fun hb => hb.2.1 rfl) rfl B4 (by decide) (ePr_one pv) ?_
     rintro h14 u14 (E4 : Blk _ _ _ (ePr pv))
     try simp (maxSteps:=1000000) (disch:=first|exact Lb rfl|omega) only [AXS,AXB,J.dst,reduceIte,Z1,Z2,Z3,Z4,Z5]
     refine wL_stD rfl rfl (fun hb => hb.2.2 rfl) rfl (u14.blk B5 (by omega)) (by decide) (eRp_one ⟨(lockedR (heldK p.cells w.key).1).s,none,0,0⟩) ?_
     rintro h15 u15 (E5 : Blk _ _ _ (eRp ⟨(lockedR (heldK p.cells w.key).1).s,none,0,0⟩))
     replace E4 := u15.blk E4 (by omega)
     try simp (maxSteps:=1000000) (disch:=first|exact Lb rfl|omega) only [AXS,AXB,J.dst,reduceIte,Z1,Z2,Z3,Z4,Z5]
     refine hrt _ _ ?_
     simp (maxSteps:=1000000) (disch:=first|exact Lb rfl|omega) only [AXS,AXB,J.dst,reduceIte,Z1,Z2,Z3,Z4,Z5,E4.rd,ePr,E5.rd,eRp]
     have := fin h13 pv p lo hc (lockedR (heldK p.cells w.key).1).s h14 h15 I13 ((e010.trans e12).trans e13) (fun _ _ h => h) O4' O5' u14 u15 hl
     exact this
    ·exfalso
     apply n9
     have hz4 : b4 < h10.size := by omega
     constructor
     ·intro e
      subst e
      have h1 := B4
      have h2 := B9
      unfold Blk at h1 h2
      rw [h1] at h2
      simp at h2
     ·intro e
      subst e
      have h1 := B5
      have h2 := B9
      unfold Blk at h1 h2
      rw [h1] at h2
      simp at h2
   ·(try simp (maxSteps:=1000000) (disch:=first|exact Lb rfl|omega) only [AXS,AXB,J.dst,reduceIte,Z1,Z2,Z3,Z4,Z5]); rw [f100c23_eq]; (try simp (maxSteps:=1000000) (disch:=first|exact Lb rfl|omega) only [AXS,AXB,J.dst,reduceIte,Z1,Z2,Z3,Z4,Z5,f100r15])
    rw [i64_wrap (by omega) (by omega)]
    refine hnx (m - 1) _ _ (by omega) ⟨e10.trans e12,k + 1,by omega,?_,rfl⟩
    intro j w' hj hw'
    rcases Nat.lt_or_ge j k with hlt | hge
    ·exact hnb j w' hlt hw'
    ·have : j = k := by omega
     subst this
     rw [hx] at hw'; cases hw'; exact q
  refine ⟨by omega,by omega,by omega,by omega,by omega,?_,?_⟩
  ·refine rheldG g.cells hn' I10.cells w.key ?_
   intro h11 e11
   refine ⟨kp_ext (Nat.le_refl _) e11,?_⟩
   try simp (maxSteps:=1000000) (disch:=first|exact Lb rfl|omega) only [AXS,AXB,J.dst,reduceIte,Z1,Z2,Z3,Z4,Z5]
   have z11 := e11.size
   refine wL_newD e11.size ?_; rintro b9 h12 e12 s12 hb9 B9
   try simp (maxSteps:=1000000) (disch:=first|exact Lb rfl|omega) only [AXS,AXB,J.dst,reduceIte,Z1,Z2,Z3,Z4,Z5]
   refine wL_stD rfl rfl (by omega) rfl B9 (by decide) (eLck_one _) ?_
   rintro h13 u13 (B9 : Blk _ _ _ (eLck (heldK p.cells w.key).1))
   try simp (maxSteps:=1000000) (disch:=first|exact Lb rfl|omega) only [AXS,AXB,J.dst,reduceIte,Z1,Z2,Z3,Z4,Z5]
   exact app h13 b9 (u13.ext (e11.trans e12) (by omega)) B9
  ·refine wL_newD (Nat.le_refl _) ?_; rintro b9 h12 e12 s12 hb9 B9
   try simp (maxSteps:=1000000) (disch:=first|exact Lb rfl|omega) only [AXS,AXB,J.dst,reduceIte,Z1,Z2,Z3,Z4,Z5]
   refine rheldG g.cells hn' (I10.exts e12).cells w.key ?_
   intro h11 e11
   refine ⟨kp_ext e12.size e11,?_⟩
   try simp (maxSteps:=1000000) (disch:=first|exact Lb rfl|omega) only [AXS,AXB,J.dst,reduceIte,Z1,Z2,Z3,Z4,Z5]
   have z11 := e11.size
   refine wL_stD rfl rfl (by omega) rfl (B9.ext e11) (by decide) (eLck_one _) ?_
   rintro h13 u13 (B9 : Blk _ _ _ (eLck (heldK p.cells w.key).1))
   try simp (maxSteps:=1000000) (disch:=first|exact Lb rfl|omega) only [AXS,AXB,J.dst,reduceIte,Z1,Z2,Z3,Z4,Z5]
   exact app h13 b9 (u13.ext (e12.trans e11) (by omega)) B9
 ·have hkl : k = c.writes.length := by have := of_decide_eq_false hh; omega
  subst hkl
  have hl : prepP p c = ({ p with cells := c.writes.foldl (fun cs w => lockL cs w (lkC c)) p.cells },⟨okS,[]⟩) := by rw [hpre,findIdx_none hnb]
  refine hex _ _ ?_
  clear hk hh hnx hex hrt hnb
  (try simp (maxSteps:=1000000) (disch:=first|exact Lb rfl|omega) only [AXS,AXB,J.dst,reduceIte,Z1,Z2,Z3,Z4,Z5]); rw [f100c24_eq]; (try simp (maxSteps:=1000000) (disch:=first|exact Lb rfl|omega) only [AXS,AXB,J.dst,reduceIte,Z1,Z2,Z3,Z4,Z5,f100r16])
  rw [f100c25_eq]
  refine loop_in (fun m σ h' => ∃ (k : Nat) (pv' : PrV) (lo' : Nat) (hc' : Heap),k + m = c.writes.length ∧ InP h0 h' b2 pv' { p with cells := (c.writes.take k).foldl (fun cs w => lockL cs w (lkC c)) p.cells } lo' hc' ∧
   Gd (n + k) ((c.writes.take k).foldl (fun cs w => lockL cs w (lkC c)) p.cells) ∧ (∀ b,b < h10.size → ApP b lo hc pv → ApP b lo' hc' pv') ∧ Gr (some b2) h10 h' ∧ σ = [(2,ptr b2 0),(3,ptr b3 0),(4,ptr b4 0),(5,ptr b5 0),(11,vi k)]) c.writes.length
   ⟨0,pv,lo,hc,by omega,I10,g.cells,fun _ _ h => h,(Ext.refl _).gr _,rfl⟩ ?_
  rintro m σ h11 ⟨k,pv',lo',hc',hk,I11,g11,F11,G11,rfl⟩ Q' hnx hex hrt _
  have z11 := G11.size
  have D3 := G11.blk B3 (fun e => by cases e; omega)
  have D4 := G11.blk B4 (fun e => by cases e; omega)
  have D5 := G11.blk B5 (fun e => by cases e; omega)
  have Bp := I11.b
  (try simp (maxSteps:=1000000) (disch:=first|exact Lb rfl|omega) only [AXS,AXB,J.dst,reduceIte,Z1,Z2,Z3,Z4,Z5]); rw [f100c26_eq]; (try simp (maxSteps:=1000000) (disch:=first|exact Lb rfl|omega) only [AXS,AXB,J.dst,reduceIte,Z1,Z2,Z3,Z4,Z5,f100r17,D3.cel,eCm,hcw]); rw [f100c27_eq]; (try simp (maxSteps:=1000000) (disch:=first|exact Lb rfl|omega) only [AXS,AXB,J.dst,reduceIte,Z1,Z2,Z3,Z4,Z5,D3.cel,eCm,hcw])
  refine ⟨fun hh => ?_,fun hh => ?_⟩
  ·have hkl : k < c.writes.length := by have := of_decide_eq_true hh; omega
   obtain ⟨w,hx⟩ := get_ex hkl
   obtain ⟨b',o,hsa,_,hrow⟩ := (C.writes.ext I11.ext).elem eWri_len hx
   have lw := hrow.lt (by rw [eWri_len]; omega)
   have l3 := D3.lt
   have l2 := Bp.lt
   have hb3p : b3 ≠ b2 := by omega
   have hbw : b' ≠ b2 := by
    intro e
    subst e
    have hne : c.writes ≠ [] := by intro e; rw [e] at hkl; simp at hkl
    obtain ⟨bq,oq,hq1,hq2,hq3⟩ := C.writes hne
    rw [hsa] at hq1
    cases hq1
    have := hq3.lt (by rw [flatMap_length eWri_len]; omega)
    omega
   try simp (maxSteps:=1000000) (disch:=first|exact Lb rfl|omega) only [AXS,AXB,J.dst,reduceIte,Z1,Z2,Z3,Z4,Z5]
   rw [f100c28_eq,f100c29_eq]
   refine ⟨fun b => b < h11.size ∧ b ≠ b2,fun b hb => hb.1,?_⟩
   simp (maxSteps:=1000000) (disch:=first|exact Lb rfl|omega) only [AXS,AXB,J.dst,reduceIte,Z1,Z2,Z3,Z4,Z5,f100r18,D3.cel,D3.rd,eCm,hcw,hcs,hsa,row_wri hrow,Bp.cel,ePr,I11.o.cn]
   refine ⟨⟨by omega,hb3p⟩,by omega,by omega,⟨by omega,hbw⟩,⟨by omega,hb3p⟩,⟨by omega,hb3p⟩,⟨by omega,hb3p⟩,?_⟩
   have hfold : (c.writes.take (k + 1)).foldl (fun cs w => lockL cs w (lkC c)) p.cells = lockL ((c.writes.take k).foldl (fun cs w => lockL cs w (lkC c)) p.cells) w (lkC c) := by
    rw [List.take_add_one,hx]; simp [List.foldl_append]
   refine rlockG g11 (by omega) I11.cells w (lkC c) ?_
   intro a' c' h12 g12 O12 e12
   refine ⟨fun b hb => e12.at_ b hb.1,?_⟩
   try simp (maxSteps:=1000000) (disch:=first|exact Lb rfl|omega) only [AXS,AXB,J.dst,reduceIte,Z1,Z2,Z3,Z4,Z5]
   refine wL_stD rfl rfl (fun hb => hb.2 rfl) rfl (Bp.ext e12) (by rw [ePr_len]; exact Nat.le_of_ble_eq_true rfl) slice_one ?_
   rintro h13 u13 (B13 : Blk _ _ _ (ePr { pv' with ca := a',cn := (lockL ((c.writes.take k).foldl (fun cs w => lockL cs w (lkC c)) p.cells) w (lkC c)).length,cc := c' }))
   try simp (maxSteps:=1000000) (disch:=first|exact Lb rfl|omega) only [AXS,AXB,J.dst,reduceIte,Z1,Z2,Z3,Z4,Z5]
   have I13 := I11.putC O12 e12 u13 B13
   have z12 := e12.size
   (try simp (maxSteps:=1000000) (disch:=first|exact Lb rfl|omega) only [AXS,AXB,J.dst,reduceIte,Z1,Z2,Z3,Z4,Z5]); rw [f100c30_eq]; (try simp (maxSteps:=1000000) (disch:=first|exact Lb rfl|omega) only [AXS,AXB,J.dst,reduceIte,Z1,Z2,Z3,Z4,Z5,f100r19])
   rw [i64_wrap (by omega) (by omega)]
   exact hnx (m - 1) _ _ (by omega) ⟨k + 1, { pv' with ca := a',cn := (lockL ((c.writes.take k).foldl (fun cs w => lockL cs w (lkC c)) p.cells) w (lkC c)).length,cc := c' },h11.size,h12,by omega,by rw [hfold]; exact I13,by rw [hfold]; exact g12,fun b hb hap => ⟨.inl (by omega),(F11 b hb hap).2⟩,(G11.exts e12).upd u13 (.inl rfl),rfl⟩
  ·have hkl : k = c.writes.length := by have := of_decide_eq_false hh; omega
   subst hkl
   rw [List.take_length] at I11
   refine hex _ _ ?_
   (try simp (maxSteps:=1000000) (disch:=first|exact Lb rfl|omega) only [AXS,AXB,J.dst,reduceIte,Z1,Z2,Z3,Z4,Z5]); rw [f100c31_eq]; (try simp (maxSteps:=1000000) (disch:=first|exact Lb rfl|omega) only [AXS,AXB,J.dst,reduceIte,Z1,Z2,Z3,Z4,Z5,f100r20,Bp.rd,ePr])
   refine wL_stN rfl rfl rfl D4 (by decide) (ePr_one pv') ?_
   rintro h12 u12 (E4 : Blk _ _ _ (ePr pv'))
   try simp (maxSteps:=1000000) (disch:=first|exact Lb rfl|omega) only [AXS,AXB,J.dst,reduceIte,Z1,Z2,Z3,Z4,Z5]
   refine wL_stN rfl rfl rfl (u12.blk D5 (by omega)) (by decide) (eRp_one ⟨okS,none,0,0⟩) ?_
   rintro h13 u13 (E5 : Blk _ _ _ (eRp ⟨okS,none,0,0⟩))
   replace E4 := u13.blk E4 (by omega)
   simp (maxSteps:=1000000) (disch:=first|exact Lb rfl|omega) only [AXS,AXB,J.dst,reduceIte,Z1,Z2,Z3,Z4,Z5,E4.rd,ePr,E5.rd,eRp]
   have := fin h11 pv' _ lo' hc' okS h12 h13 I11 (G11.ext e010 (fun j hj => by cases hj; omega)) (fun b hb hap => F11 b (by omega) hap) (F11 b4 (by omega) O4') (F11 b5 (by omega) O5') u12 u13 hl
   exact this
end Go.Proofs.Ytefghfgmkndikaa
namespace Go.Proofs.Ytefghfgmkndikaa
open Go Go.AX
theorem does_pairs (p : Prt) (c : Cmd) (hk : c.s.kind = 2) (hl : ¬ c.s.at_.wall < p.s.low) : doesP p c = (if (pairsP p c.s.at_ c.spans).2.err = 0 then ({ p with s := { p.s with floor := maxS p.s.floor c.s.at_ } },⟨okS,(pairsP p c.s.at_ c.spans).1⟩) else (p,⟨(pairsP p c.s.at_ c.spans).2,[]⟩)) := by
 have e : doesP p c = readP p c := by unfold doesP; rw [if_pos hk]
 rw [e]
 unfold readP pairsP
 rw [if_neg hl]
 cases hf : c.spans.find? (fun s => (blocksL c.s.at_ (cellsIn p s)).2) with
 | some s =>
  dsimp only
  rw [if_neg (by show ¬ (20 : Int) = 0; decide)]
  rfl
 | none =>
  dsimp only
  by_cases hr : (readL p c.s.at_ c.spans []).2 = 0
  ·rw [if_pos hr,if_pos hr,if_pos (show okS.err = 0 from rfl)]
  ·rw [if_neg hr,if_neg hr,if_neg (show ¬ (errR (readL p c.s.at_ c.spans []).2).s.err = 0 from hr)]
   rfl
set_option maxHeartbeats 16000000 in
theorem rapply_ok {B B' : Nat → Prop} {n : Nat} (pv : PrV) (p : Prt) (cv : CmV) (c : Cmd) (h : Heap) (S : PrR B h pv p) (C : CmR B' h cv c) (g : GdP n p) (hn : n + c.writes.length ≤ 900000) (hs : c.spans.length ≤ big) {R : Value → Heap → Prop}
  (hR : ∀ pv' rv h',PrF h.size h' pv' (applyP p c).1 → RpO h.size h' rv (applyP p c).2 → Ext h h' → R (.tuple #[.agg (ePr pv').toArray,.agg (eRp rv).toArray]) h') : CallsH Try.prog 57 [.agg (ePr pv).toArray,.agg (eCm cv).toArray] h R := by
 have hbig : big = 1000000 := rfl
 have hm : mostEpoch = 1099511627776 := rfl
 have hn' : n ≤ 900000 := by omega
 have g0 := g.e0
 have g1 := g.e1
 have gd := g.sz.done
 have gr := g.sz.records
 have hcs := C.s
 refine f57ok (by simp) ?_
 (try simp (maxSteps:=1000000) (disch:=first|exact Lb rfl|omega) only [AXS,AXB,J.dst,reduceIte,Z1,Z2,Z3,Z4,Z5]); rw [f57c0_eq]; (try simp (maxSteps:=1000000) (disch:=first|exact Lb rfl|omega) only [AXS,AXB,J.dst,reduceIte,Z1,Z2,Z3,Z4,Z5,f57r0])
 refine wL_boxN rfl ?_; rintro b2 h1 e1 s1 hb2 (B2 : Blk _ _ _ (ePr pv))
 refine wL_boxN rfl ?_; rintro b3 h2 e2 s2 hb3 (B3 : Blk _ _ _ (eCm cv))
 replace B2 := B2.ext e2
 try simp (maxSteps:=1000000) (disch:=first|exact Lb rfl|omega) only [AXS,AXB,J.dst,reduceIte,Z1,Z2,Z3,Z4,Z5]
 refine wL_newN ?_; rintro b4 h3 e3 s3 hb4 B4
 try simp (maxSteps:=1000000) (disch:=first|exact Lb rfl|omega) only [AXS,AXB,J.dst,reduceIte,Z1,Z2,Z3,Z4,Z5]
 refine wL_newN ?_; rintro b5 h4 e4 s4 hb5 B5
 replace B2 := B2.ext e3; replace B3 := B3.ext e3
 replace B2 := B2.ext e4; replace B3 := B3.ext e4; replace B4 := B4.ext e4
 have e04 := ((e1.trans e2).trans e3).trans e4
 have z4 := e04.size
 (try simp (maxSteps:=1000000) (disch:=first|exact Lb rfl|omega) only [AXS,AXB,J.dst,reduceIte,Z1,Z2,Z3,Z4,Z5]); rw [f57c1_eq]; (try simp (maxSteps:=1000000) (disch:=first|exact Lb rfl|omega) only [AXS,AXB,J.dst,reduceIte,Z1,Z2,Z3,Z4,Z5,f57r1,B2.rd,ePr])
 refine rpartC_ok pv p _ (S.ext e04) g.sz hn' ?_
 intro pv1 lo hc h5 O5 e5
 refine ⟨trivial,?_⟩
 replace B3 := B3.ext e5; replace B4 := B4.ext e5; replace B5 := B5.ext e5
 have z5 := e5.size
 try simp (maxSteps:=1000000) (disch:=first|exact Lb rfl|omega) only [AXS,AXB,J.dst,reduceIte,Z1,Z2,Z3,Z4,Z5]
 refine wL_newN ?_; rintro b6 h6 e6 s6 hb6 B6
 replace B3 := B3.ext e6; replace B4 := B4.ext e6; replace B5 := B5.ext e6
 try simp (maxSteps:=1000000) (disch:=first|exact Lb rfl|omega) only [AXS,AXB,J.dst,reduceIte,Z1,Z2,Z3,Z4,Z5]
 refine wL_stN rfl rfl rfl B6 (by decide) (ePr_one pv1) ?_
 rintro h7 u7 (B6 : Blk _ _ _ (ePr pv1))
 have z7 := u7.size
 replace B3 := u7.blk B3 (by omega)
 replace B4 := u7.blk B4 (by omega)
 replace B5 := u7.blk B5 (by omega)
 have e57 := u7.ext e6 (by omega)
 have e47 := e5.trans e57
 have e07 := e04.trans e47
 have I7 : InP h h7 b6 pv1 p lo hc := ⟨e07,(O5.exts e57).mono (by omega),B6,⟨by omega,.inr (by have := O5.le; omega)⟩,(O5.ap' (b := b6) (by omega)).2.1,(O5.ap' (b := b6) (by omega)).2.2⟩
 have a4 := O5.ap (b := b4) (by omega)
 have a5 := O5.ap (b := b5) (by omega)
 have hps := O5.s
 have hcn := O5.cn
 have hrn := O5.rn
 have hdn := O5.dn
 have m3 := B3.lt
 have m6 := B6.lt
 have fin : ∀ (hz : Heap) (pv' : PrV) (p' : Prt) (lo' : Nat) (hc' : Heap) (rv : RpV) (r : Rep) (hA hB : Heap),InP h hz b6 pv' p' lo' hc' → RpO h.size hz rv r → (∀ k,ob rv.pa = some k → k ≠ b4 ∧ k ≠ b5) → ApP b4 lo' hc' pv' → ApP b5 lo' hc' pv' →
   Upd b4 hz hA → Upd b5 hA hB → applyP p c = (p',r) → R (.tuple #[.agg (ePr pv').toArray,.agg (eRp rv).toArray]) hB := by
  intro hz pv' p' lo' hc' rv r hA hB I K hk x4 x5 uA uB hap
  refine hR pv' rv hB (by rw [hap]; exact ((I.o.upd uA x4.1 x4.2.1 x4.2.2).upd uB x5.1 x5.2.1 x5.2.2).fin) ?_ (uB.ext (uA.ext I.ext (by omega)) (by omega))
  rw [hap]
  exact ⟨K.s,K.pn,(K.pairs.gr uA.gr fun j hj e => by cases e; exact (hk _ hj).1 rfl).gr uB.gr fun j hj e => by cases e; exact (hk _ hj).2 rfl⟩
 have no : ∀ (s : RpS) (k : Nat),ob (⟨s,none,0,0⟩ : RpV).pa = some k → k ≠ b4 ∧ k ≠ b5 := fun s k hk => by cases hk
 (try simp (maxSteps:=1000000) (disch:=first|exact Lb rfl|omega) only [AXS,AXB,J.dst,reduceIte,Z1,Z2,Z3,Z4,Z5]); rw [f57c2_eq]; (try simp (maxSteps:=1000000) (disch:=first|exact Lb rfl|omega) only [AXS,AXB,J.dst,reduceIte,Z1,Z2,Z3,Z4,Z5,f57r2,B3.cel,eCm,hcs])
 (try simp (maxSteps:=1000000) (disch:=first|exact Lb rfl|omega) only [AXS,AXB,J.dst,reduceIte,Z1,Z2,Z3,Z4,Z5]); rw [f57c3_eq]; (try simp (maxSteps:=1000000) (disch:=first|exact Lb rfl|omega) only [AXS,AXB,J.dst,reduceIte,Z1,Z2,Z3,Z4,Z5])
 refine ⟨fun k1 => ?_,fun k1 => ?_⟩
 ·-- a lease
  have k1' : c.s.kind = 1 := by simpa using k1
  have hap : applyP p c = (if (leaseP p c).2.s.err = 0 then leaseP p c else (p,(leaseP p c).2)) := by unfold applyP; simp only [if_pos k1']
  try simp (maxSteps:=1000000) (disch:=first|exact Lb rfl|omega) only [AXS,AXB,J.dst,reduceIte,Z1,Z2,Z3,Z4,Z5]
  rw [f57c4_eq]
  simp (maxSteps:=1000000) (disch:=first|exact Lb rfl|omega) only [AXJ,AXS,AXB,J.dst,reduceIte,Z1,Z2,Z3,Z4,Z5,f57r3,B3.cel,eCm,hcs,B6.cel,ePr,hps]
  try simp (maxSteps:=1000000) (disch:=first|exact Lb rfl|omega) only [AXS,AXB,J.dst,reduceIte,Z1,Z2,Z3,Z4,Z5]
  rw [i64_wrap (by omega) (by omega)]
  (try simp (maxSteps:=1000000) (disch:=first|exact Lb rfl|omega) only [AXS,AXB,J.dst,reduceIte,Z1,Z2,Z3,Z4,Z5]); rw [f57c5_eq]; (try simp (maxSteps:=1000000) (disch:=first|exact Lb rfl|omega) only [AXS,AXB,J.dst,reduceIte,Z1,Z2,Z3,Z4,Z5])
  generalize hcd : (c.s.epoch != p.s.epoch + 1 || decide (c.s.epoch > 1099511627776)) = cd
  have hcd' : cd = true ↔ (c.s.epoch ≠ p.s.epoch + 1 ∨ c.s.epoch > mostEpoch) := by rw [← hcd,hm]; simp
  refine ⟨fun q => ?_,fun q => ?_⟩
  ·have hl : leaseP p c = (p,errR 25) := by unfold leaseP; rw [if_pos (.inr (hcd'.1 q))]
   rw [hl] at hap
   have hap' : applyP p c = (p,errR 25) := by rw [hap]; split <;> rfl
   (try simp (maxSteps:=1000000) (disch:=first|exact Lb rfl|omega) only [AXS,AXB,J.dst,reduceIte,Z1,Z2,Z3,Z4,Z5]); rw [f57c6_eq]; (try simp (maxSteps:=1000000) (disch:=first|exact Lb rfl|omega) only [AXS,AXB,J.dst,reduceIte,Z1,Z2,Z3,Z4,Z5,f57r4,B6.rd,ePr])
   refine wL_stN rfl rfl rfl B4 (by decide) (ePr_one pv1) ?_
   rintro hA uA (E4 : Blk _ _ _ (ePr pv1))
   try simp (maxSteps:=1000000) (disch:=first|exact Lb rfl|omega) only [AXS,AXB,J.dst,reduceIte,Z1,Z2,Z3,Z4,Z5]
   refine wL_stN rfl rfl rfl (uA.blk B5 (by omega)) (by decide) (eRp_one ⟨(errR 25).s,none,0,0⟩) ?_
   rintro hB uB (E5 : Blk _ _ _ (eRp ⟨(errR 25).s,none,0,0⟩))
   replace E4 := uB.blk E4 (by omega)
   simp (maxSteps:=1000000) (disch:=first|exact Lb rfl|omega) only [AXS,AXB,J.dst,reduceIte,Z1,Z2,Z3,Z4,Z5,E4.rd,ePr,E5.rd,eRp]
   have := fin h7 pv1 p lo hc ⟨(errR 25).s,none,0,0⟩ (errR 25) hA hB I7 (RpO.none _ _ _) (no _) a4 a5 uA uB hap'
   exact this
  ·have hnq : ¬ (c.s.epoch ≠ p.s.epoch + 1 ∨ c.s.epoch > mostEpoch) := fun hx => by rw [hcd'.2 hx] at q; cases q
   have hl : leaseP p c = ({ p with s := { p.s with epoch := c.s.epoch,holder := c.s.node } },⟨okS,[]⟩) := by
    unfold leaseP; rw [if_neg (by omega)]
   rw [hl] at hap
   have hap' : applyP p c = ({ p with s := { p.s with epoch := c.s.epoch,holder := c.s.node } },⟨okS,[]⟩) := by rw [hap]; rfl
   try simp (maxSteps:=1000000) (disch:=first|exact Lb rfl|omega) only [AXS,AXB,J.dst,reduceIte,Z1,Z2,Z3,Z4,Z5]
   rw [f57c7_eq]
   refine ⟨fun b => b < h7.size ∧ b ≠ b6,fun b hb => hb.1,?_⟩
   have n3 : b3 ≠ b6 := by omega
   simp (maxSteps:=1000000) (disch:=first|exact Lb rfl|omega) only [AXS,AXB,J.dst,reduceIte,Z1,Z2,Z3,Z4,Z5,f57r5,B3.cel,eCm,hcs]
   refine ⟨⟨by omega,n3⟩,⟨by omega,n3⟩,?_⟩
   refine wL_stD rfl rfl (fun hb => hb.2 rfl) rfl B6 (by rw [ePr_len]; exact Nat.le_of_ble_eq_true rfl) int_one ?_
   rintro h8 u8 (B8 : Blk _ _ _ (ePr { pv1 with s := { pv1.s with epoch := c.s.epoch } }))
   try simp (maxSteps:=1000000) (disch:=first|exact Lb rfl|omega) only [AXS,AXB,J.dst,reduceIte,Z1,Z2,Z3,Z4,Z5]
   refine wL_stD rfl rfl (fun hb => hb.2 rfl) rfl B8 (by rw [ePr_len]; exact Nat.le_of_ble_eq_true rfl) int_one ?_
   rintro h9 u9 (B9 : Blk _ _ _ (ePr { pv1 with s := { pv1.s with epoch := c.s.epoch,holder := c.s.node } }))
   try simp (maxSteps:=1000000) (disch:=first|exact Lb rfl|omega) only [AXS,AXB,J.dst,reduceIte,Z1,Z2,Z3,Z4,Z5]
   have u79 : Upd b6 h7 h9 := ⟨u9.size.trans u8.size,fun b hb => (u9.ne b hb).trans (u8.ne b hb)⟩
   have I9 := I7.put { pv1.s with epoch := c.s.epoch,holder := c.s.node } u79 B9
   rw [hps] at I9 B9
   replace B4 := u79.blk B4 (by omega)
   replace B5 := u79.blk B5 (by omega)
   (try simp (maxSteps:=1000000) (disch:=first|exact Lb rfl|omega) only [AXS,AXB,J.dst,reduceIte,Z1,Z2,Z3,Z4,Z5]); rw [f57c8_eq]; (try simp (maxSteps:=1000000) (disch:=first|exact Lb rfl|omega) only [AXS,AXB,J.dst,reduceIte,Z1,Z2,Z3,Z4,Z5,f57r6,B9.rd,ePr])
   refine wL_stN rfl rfl rfl B4 (by decide) (ePr_one { pv1 with s := { p.s with epoch := c.s.epoch,holder := c.s.node } }) ?_
   rintro hA uA (E4 : Blk _ _ _ (ePr { pv1 with s := { p.s with epoch := c.s.epoch,holder := c.s.node } }))
   try simp (maxSteps:=1000000) (disch:=first|exact Lb rfl|omega) only [AXS,AXB,J.dst,reduceIte,Z1,Z2,Z3,Z4,Z5]
   refine wL_stN rfl rfl rfl (uA.blk B5 (by omega)) (by decide) (eRp_one ⟨okS,none,0,0⟩) ?_
   rintro hB uB (E5 : Blk _ _ _ (eRp ⟨okS,none,0,0⟩))
   replace E4 := uB.blk E4 (by omega)
   simp (maxSteps:=1000000) (disch:=first|exact Lb rfl|omega) only [AXS,AXB,J.dst,reduceIte,Z1,Z2,Z3,Z4,Z5,E4.rd,ePr,E5.rd,eRp]
   have := fin h9 _ _ lo hc ⟨okS,none,0,0⟩ ⟨okS,[]⟩ hA hB I9 (RpO.none _ _ _) (no _) a4 a5 uA uB hap'
   exact this
 have k1' : ¬ c.s.kind = 1 := by simpa using k1
 try simp (maxSteps:=1000000) (disch:=first|exact Lb rfl|omega) only [AXS,AXB,J.dst,reduceIte,Z1,Z2,Z3,Z4,Z5]
 rw [f57c9_eq]
 simp (maxSteps:=1000000) (disch:=first|exact Lb rfl|omega) only [AXJ,AXS,AXB,J.dst,reduceIte,Z1,Z2,Z3,Z4,Z5,f57r7,B3.cel,eCm,hcs,B6.cel,ePr,hps]
 try simp (maxSteps:=1000000) (disch:=first|exact Lb rfl|omega) only [AXS,AXB,J.dst,reduceIte,Z1,Z2,Z3,Z4,Z5]
 (try simp (maxSteps:=1000000) (disch:=first|exact Lb rfl|omega) only [AXS,AXB,J.dst,reduceIte,Z1,Z2,Z3,Z4,Z5]); rw [f57c10_eq]; (try simp (maxSteps:=1000000) (disch:=first|exact Lb rfl|omega) only [AXS,AXB,J.dst,reduceIte,Z1,Z2,Z3,Z4,Z5])
 generalize hcd : (p.s.epoch == 0 || c.s.epoch != p.s.epoch) = cd
 have hcd' : cd = true ↔ (p.s.epoch = 0 ∨ c.s.epoch ≠ p.s.epoch) := by rw [← hcd]; simp
 refine ⟨fun q => ?_,fun q => ?_⟩
 ·have hap' : applyP p c = (p,errR 25) := (other_law p c k1').1 (hcd'.1 q)
  (try simp (maxSteps:=1000000) (disch:=first|exact Lb rfl|omega) only [AXS,AXB,J.dst,reduceIte,Z1,Z2,Z3,Z4,Z5]); rw [f57c11_eq]; (try simp (maxSteps:=1000000) (disch:=first|exact Lb rfl|omega) only [AXS,AXB,J.dst,reduceIte,Z1,Z2,Z3,Z4,Z5,f57r8,B6.rd,ePr])
  refine wL_stN rfl rfl rfl B4 (by decide) (ePr_one pv1) ?_
  rintro hA uA (E4 : Blk _ _ _ (ePr pv1))
  try simp (maxSteps:=1000000) (disch:=first|exact Lb rfl|omega) only [AXS,AXB,J.dst,reduceIte,Z1,Z2,Z3,Z4,Z5]
  refine wL_stN rfl rfl rfl (uA.blk B5 (by omega)) (by decide) (eRp_one ⟨(errR 25).s,none,0,0⟩) ?_
  rintro hB uB (E5 : Blk _ _ _ (eRp ⟨(errR 25).s,none,0,0⟩))
  replace E4 := uB.blk E4 (by omega)
  simp (maxSteps:=1000000) (disch:=first|exact Lb rfl|omega) only [AXS,AXB,J.dst,reduceIte,Z1,Z2,Z3,Z4,Z5,E4.rd,ePr,E5.rd,eRp]
  have := fin h7 pv1 p lo hc ⟨(errR 25).s,none,0,0⟩ (errR 25) hA hB I7 (RpO.none _ _ _) (no _) a4 a5 uA uB hap'
  exact this
 have hnq : ¬ (p.s.epoch = 0 ∨ c.s.epoch ≠ p.s.epoch) := fun hx => by rw [hcd'.2 hx] at q; cases q
 have hap0 := applyP_own p c k1' (fun h => hnq (.inl h)) (Decidable.byContradiction fun h => hnq (.inr h))
 clear hcd hcd' q
 -- a command that is OK,one that is not
 have hapO : (doesP p c).2.s.err = 0 → applyP p c = doesP p c := fun h => by rw [hap0,if_pos h]
 have hapE : (doesP p c).2.s.err ≠ 0 → applyP p c = (p,(doesP p c).2) := fun h => by rw [hap0,if_neg h]
 have C7 := C.ext e07
 (try simp (maxSteps:=1000000) (disch:=first|exact Lb rfl|omega) only [AXS,AXB,J.dst,reduceIte,Z1,Z2,Z3,Z4,Z5]); rw [f57c12_eq]; (try simp (maxSteps:=1000000) (disch:=first|exact Lb rfl|omega) only [AXS,AXB,J.dst,reduceIte,Z1,Z2,Z3,Z4,Z5,f57r9,B3.cel,eCm,hcs])
 rw [f57c13_eq]
 (try simp (maxSteps:=1000000) (disch:=first|exact Lb rfl|omega) only [AXS,AXB,J.dst,reduceIte,Z1,Z2,Z3,Z4,Z5]); rw [f57c14_eq]; (try simp (maxSteps:=1000000) (disch:=first|exact Lb rfl|omega) only [AXS,AXB,J.dst,reduceIte,Z1,Z2,Z3,Z4,Z5,f57r10]); rw [f57c15_eq]; (try simp (maxSteps:=1000000) (disch:=first|exact Lb rfl|omega) only [AXS,AXB,J.dst,reduceIte,Z1,Z2,Z3,Z4,Z5])
 refine ⟨fun k2 => ?_,fun k2 => ?_⟩
 ·-- Read
  have k2' : c.s.kind = 2 := by simpa using k2
  (try simp (maxSteps:=1000000) (disch:=first|exact Lb rfl|omega) only [AXS,AXB,J.dst,reduceIte,Z1,Z2,Z3,Z4,Z5]); rw [f57c16_eq]; (try simp (maxSteps:=1000000) (disch:=first|exact Lb rfl|omega) only [AXS,AXB,J.dst,reduceIte,Z1,Z2,Z3,Z4,Z5,f57r11,B3.cel,eCm,hcs,B6.cel,ePr,hps])
  (try simp (maxSteps:=1000000) (disch:=first|exact Lb rfl|omega) only [AXS,AXB,J.dst,reduceIte,Z1,Z2,Z3,Z4,Z5]); rw [f57c17_eq]; (try simp (maxSteps:=1000000) (disch:=first|exact Lb rfl|omega) only [AXS,AXB,J.dst,reduceIte,Z1,Z2,Z3,Z4,Z5])
  refine ⟨fun q => ?_,fun q => ?_⟩
  ·have hl : doesP p c = (p,⟨{ okS with err := 24,wall := p.s.low },[]⟩) := by
    unfold doesP readP; rw [if_pos k2',if_pos (of_decide_eq_true q)]
   have hap' : applyP p c = (p,⟨{ okS with err := 24,wall := p.s.low },[]⟩) := by rw [hapE (by rw [hl]; show ¬ (24 : Int) = 0; decide),hl]
   try simp (maxSteps:=1000000) (disch:=first|exact Lb rfl|omega) only [AXS,AXB,J.dst,reduceIte,Z1,Z2,Z3,Z4,Z5]
   rw [f57c18_eq]
   refine ⟨fun b => b < h7.size ∧ b ≠ b4 ∧ b ≠ b5,fun b hb => hb.1,?_⟩
   have n6 : b6 ≠ b4 ∧ b6 ≠ b5 := by omega
   simp (maxSteps:=1000000) (disch:=first|exact Lb rfl|omega) only [AXS,AXB,J.dst,reduceIte,Z1,Z2,Z3,Z4,Z5,f57r12,B6.rd,B6.cel,ePr,hps]
   refine ⟨⟨by omega,n6⟩,⟨by omega,n6⟩,?_⟩
   refine wL_stD rfl rfl (fun hb => hb.2.1 rfl) rfl B4 (by decide) (ePr_one { pv1 with s := p.s }) ?_
   rintro hA uA (E4 : Blk _ _ _ (ePr { pv1 with s := p.s }))
   try simp (maxSteps:=1000000) (disch:=first|exact Lb rfl|omega) only [AXS,AXB,J.dst,reduceIte,Z1,Z2,Z3,Z4,Z5]
   refine wL_stD rfl rfl (fun hb => hb.2.2 rfl) rfl (uA.blk B5 (by omega)) (by decide) (eRp_one ⟨{ okS with err := 24,wall := p.s.low },none,0,0⟩) ?_
   rintro hB uB (E5 : Blk _ _ _ (eRp ⟨{ okS with err := 24,wall := p.s.low },none,0,0⟩))
   replace E4 := uB.blk E4 (by omega)
   simp (maxSteps:=1000000) (disch:=first|exact Lb rfl|omega) only [AXS,AXB,J.dst,reduceIte,Z1,Z2,Z3,Z4,Z5,E4.rd,ePr,E5.rd,eRp]
   have := fin h7 pv1 p lo hc ⟨{ okS with err := 24,wall := p.s.low },none,0,0⟩ ⟨{ okS with err := 24,wall := p.s.low },[]⟩ hA hB I7 (RpO.none _ _ _) (no _) a4 a5 uA uB hap'
   rw [← hps] at this ⊢
   exact this
  ·have hlow : ¬ c.s.at_.wall < p.s.low := of_decide_eq_false q
   have hd := does_pairs p c k2' hlow
   (try simp (maxSteps:=1000000) (disch:=first|exact Lb rfl|omega) only [AXS,AXB,J.dst,reduceIte,Z1,Z2,Z3,Z4,Z5]); rw [f57c19_eq]; (try simp (maxSteps:=1000000) (disch:=first|exact Lb rfl|omega) only [AXS,AXB,J.dst,reduceIte,Z1,Z2,Z3,Z4,Z5,f57r13,B6.rd,ePr,B3.rd,B3.cel,eCm,hcs,C.sn])
   refine rpairs_ok (B := fun _ => True) pv1 p c.s.at_ c.spans _ ⟨hps,hcn,by rw [hcn]; exact I7.cap,hrn,hdn,I7.cells.imp fun _ _ => trivial,I7.recs.imp fun _ _ => trivial,I7.dones.imp fun _ _ => trivial⟩ C7.spans g.sz hn' hs ?_
   intro pa pc h8 Q8 e8
   refine ⟨trivial,?_⟩
   replace B3 := B3.ext e8; replace B4 := B4.ext e8; replace B5 := B5.ext e8; replace B6 := B6.ext e8
   have I8 := I7.exts e8
   have z8 := e8.size
   try simp (maxSteps:=1000000) (disch:=first|exact Lb rfl|omega) only [AXS,AXB,J.dst,reduceIte,Z1,Z2,Z3,Z4,Z5]
   refine wL_newN ?_; rintro b8 h9 e9 s9 hb8 B8
   replace B3 := B3.ext e9; replace B4 := B4.ext e9; replace B5 := B5.ext e9; replace B6 := B6.ext e9
   have z9 := e9.size
   try simp (maxSteps:=1000000) (disch:=first|exact Lb rfl|omega) only [AXS,AXB,J.dst,reduceIte,Z1,Z2,Z3,Z4,Z5]
   refine wL_stN rfl rfl rfl B8 (by decide) (noRep_one (pairsP p c.s.at_ c.spans).2) ?_
   rintro h10 u10 (B8 : Blk _ _ _ (eRp ⟨(pairsP p c.s.at_ c.spans).2,none,0,0⟩))
   have hqo := Q8.ob
   have Q10 := (Q8.ext e9).gr u10.gr (fun j hj e => by cases e; have := hqo b8 hj; omega)
   have e710 := e8.trans (u10.ext e9 (by omega))
   have I10 := I7.exts e710
   replace B3 := u10.blk B3 (by omega)
   replace B4 := u10.blk B4 (by omega)
   replace B5 := u10.blk B5 (by omega)
   replace B6 := u10.blk B6 (by omega)
   have z10 := u10.size
   generalize pairsP p c.s.at_ c.spans = pp at *
   have l8 := B8.lt
   (try simp (maxSteps:=1000000) (disch:=first|exact Lb rfl|omega) only [AXS,AXB,J.dst,reduceIte,Z1,Z2,Z3,Z4,Z5]); rw [f57c20_eq]; (try simp (maxSteps:=1000000) (disch:=first|exact Lb rfl|omega) only [AXS,AXB,J.dst,reduceIte,Z1,Z2,Z3,Z4,Z5,f57r14,B8.cel,eRp])
   (try simp (maxSteps:=1000000) (disch:=first|exact Lb rfl|omega) only [AXS,AXB,J.dst,reduceIte,Z1,Z2,Z3,Z4,Z5]); rw [f57c21_eq]; (try simp (maxSteps:=1000000) (disch:=first|exact Lb rfl|omega) only [AXS,AXB,J.dst,reduceIte,Z1,Z2,Z3,Z4,Z5])
   refine ⟨fun q2 => ?_,fun q2 => ?_⟩
   ·have hne : pp.2.err ≠ 0 := by simpa using q2
    rw [if_neg hne] at hd
    have hap' : applyP p c = (p,⟨pp.2,[]⟩) := by rw [hapE (by rw [hd]; exact hne),hd]
    try simp (maxSteps:=1000000) (disch:=first|exact Lb rfl|omega) only [AXS,AXB,J.dst,reduceIte,Z1,Z2,Z3,Z4,Z5]
    rw [f57c22_eq]
    refine ⟨fun b => b < h10.size ∧ b ≠ b4 ∧ b ≠ b5,fun b hb => hb.1,?_⟩
    have n6 : b6 ≠ b4 ∧ b6 ≠ b5 := by omega
    have n8 : b8 ≠ b4 ∧ b8 ≠ b5 := by omega
    simp (maxSteps:=1000000) (disch:=first|exact Lb rfl|omega) only [AXS,AXB,J.dst,reduceIte,Z1,Z2,Z3,Z4,Z5,f57r15,B6.rd,ePr,B8.rd,eRp]
    refine ⟨⟨by omega,n6⟩,⟨by omega,n8⟩,?_⟩
    refine wL_stD rfl rfl (fun hb => hb.2.1 rfl) rfl B4 (by decide) (ePr_one pv1) ?_
    rintro hA uA (E4 : Blk _ _ _ (ePr pv1))
    try simp (maxSteps:=1000000) (disch:=first|exact Lb rfl|omega) only [AXS,AXB,J.dst,reduceIte,Z1,Z2,Z3,Z4,Z5]
    refine wL_stD rfl rfl (fun hb => hb.2.2 rfl) rfl (uA.blk B5 (by omega)) (by decide) (eRp_one ⟨pp.2,none,0,0⟩) ?_
    rintro hB uB (E5 : Blk _ _ _ (eRp ⟨pp.2,none,0,0⟩))
    replace E4 := uB.blk E4 (by omega)
    simp (maxSteps:=1000000) (disch:=first|exact Lb rfl|omega) only [AXS,AXB,J.dst,reduceIte,Z1,Z2,Z3,Z4,Z5,E4.rd,ePr,E5.rd,eRp]
    have := fin h10 pv1 p lo hc ⟨pp.2,none,0,0⟩ ⟨pp.2,[]⟩ hA hB I10 (RpO.none _ _ _) (no _) a4 a5 uA uB hap'
    exact this
   ·have he0 : pp.2.err = 0 := by simpa using q2
    rw [if_pos he0] at hd
    have hap' : applyP p c = ({ p with s := { p.s with floor := maxS p.s.floor c.s.at_ } },⟨okS,pp.1⟩) := by rw [hapO (by rw [hd]; rfl),hd]
    (try simp (maxSteps:=1000000) (disch:=first|exact Lb rfl|omega) only [AXS,AXB,J.dst,reduceIte,Z1,Z2,Z3,Z4,Z5]); rw [f57c23_eq]; (try simp (maxSteps:=1000000) (disch:=first|exact Lb rfl|omega) only [AXS,AXB,J.dst,reduceIte,Z1,Z2,Z3,Z4,Z5,f57r16,B6.rd,ePr,B3.rd,eCm,hcs,hps])
    refine rmax_ok p.s.floor c.s.at_ _ ?_
    intro h11 e11
    refine ⟨trivial,?_⟩
    replace B4 := B4.ext e11; replace B5 := B5.ext e11; replace B6 := B6.ext e11; replace Q10 := Q10.ext e11
    have I11 := I10.exts e11
    have z11 := e11.size
    try simp (maxSteps:=1000000) (disch:=first|exact Lb rfl|omega) only [AXS,AXB,J.dst,reduceIte,Z1,Z2,Z3,Z4,Z5]
    refine wL_stN rfl rfl rfl B6 (by rw [ePr_len]; exact Nat.le_of_ble_eq_true rfl) (eStamp_one _) ?_
    rintro h12 u12 (B12 : Blk _ _ _ (ePr { pv1 with s := { pv1.s with floor := maxS p.s.floor c.s.at_ } }))
    have I12 := I11.put _ u12 B12
    rw [hps] at I12 B12
    replace B4 := u12.blk B4 (by omega)
    replace B5 := u12.blk B5 (by omega)
    have hq6 : ∀ k,ob pa = some k → k ≠ b4 ∧ k ≠ b5 ∧ k ≠ b6 := fun k hk => by have := hqo k hk; omega
    have Q12 := Q10.gr u12.gr (fun j hj e => by cases e; exact (hq6 _ hj).2.2 rfl)
    try simp (maxSteps:=1000000) (disch:=first|exact Lb rfl|omega) only [AXS,AXB,J.dst,reduceIte,Z1,Z2,Z3,Z4,Z5]
    (try simp (maxSteps:=1000000) (disch:=first|exact Lb rfl|omega) only [AXS,AXB,J.dst,reduceIte,Z1,Z2,Z3,Z4,Z5]); rw [f57c24_eq]; (try simp (maxSteps:=1000000) (disch:=first|exact Lb rfl|omega) only [AXS,AXB,J.dst,reduceIte,Z1,Z2,Z3,Z4,Z5,f57r17,B12.rd,ePr])
    refine wL_stN rfl rfl rfl B4 (by decide) (ePr_one { pv1 with s := { p.s with floor := maxS p.s.floor c.s.at_ } }) ?_
    rintro hA uA (E4 : Blk _ _ _ (ePr { pv1 with s := { p.s with floor := maxS p.s.floor c.s.at_ } }))
    try simp (maxSteps:=1000000) (disch:=first|exact Lb rfl|omega) only [AXS,AXB,J.dst,reduceIte,Z1,Z2,Z3,Z4,Z5]
    refine wL_stN rfl rfl rfl (uA.blk B5 (by omega)) (by decide) (eRp_one ⟨okS,pa,pp.1.length,pc⟩) ?_
    rintro hB uB (E5 : Blk _ _ _ (eRp ⟨okS,pa,pp.1.length,pc⟩))
    replace E4 := uB.blk E4 (by omega)
    simp (maxSteps:=1000000) (disch:=first|exact Lb rfl|omega) only [AXS,AXB,J.dst,reduceIte,Z1,Z2,Z3,Z4,Z5,E4.rd,ePr,E5.rd,eRp]
    have := fin h12 _ _ lo hc ⟨okS,pa,pp.1.length,pc⟩ ⟨okS,pp.1⟩ hA hB I12 ⟨rfl,rfl,Q12.mono (by omega)⟩ (fun k hk => ⟨(hq6 k hk).1,(hq6 k hk).2.1⟩) a4 a5 uA uB hap'
    exact this
 have k2' : ¬ c.s.kind = 2 := by simpa using k2
 (try simp (maxSteps:=1000000) (disch:=first|exact Lb rfl|omega) only [AXS,AXB,J.dst,reduceIte,Z1,Z2,Z3,Z4,Z5]); rw [f57c25_eq]; (try simp (maxSteps:=1000000) (disch:=first|exact Lb rfl|omega) only [AXS,AXB,J.dst,reduceIte,Z1,Z2,Z3,Z4,Z5,f57r18]); rw [f57c26_eq]; (try simp (maxSteps:=1000000) (disch:=first|exact Lb rfl|omega) only [AXS,AXB,J.dst,reduceIte,Z1,Z2,Z3,Z4,Z5])
 refine ⟨fun k3 => ?_,fun k3 => ?_⟩
 ·-- Prepare
  have k3' : c.s.kind = 3 := by simpa using k3
  have hd : doesP p c = prepP p c := does_prep p c k3'
  rw [hd] at hapO hapE
  (try simp (maxSteps:=1000000) (disch:=first|exact Lb rfl|omega) only [AXS,AXB,J.dst,reduceIte,Z1,Z2,Z3,Z4,Z5]); rw [f57c27_eq]; (try simp (maxSteps:=1000000) (disch:=first|exact Lb rfl|omega) only [AXS,AXB,J.dst,reduceIte,Z1,Z2,Z3,Z4,Z5,f57r19,B6.rd,ePr,B3.rd,eCm])
  refine rprep_ok (h0 := h) pv1 p cv c e07 I7.o C g.sz hn ?_
  intro pv' h8 lo' hc' O8 e8 F8 hpairs
  refine ⟨trivial,?_⟩
  replace B4 := B4.ext e8; replace B5 := B5.ext e8; replace B6 := B6.ext e8
  have z8 := e8.size
  try simp (maxSteps:=1000000) (disch:=first|exact Lb rfl|omega) only [AXS,AXB,J.dst,reduceIte,Z1,Z2,Z3,Z4,Z5]
  refine wL_stN rfl rfl rfl B4 (by decide) (ePr_one pv') ?_
  rintro hA uA (E4 : Blk _ _ _ (ePr pv'))
  try simp (maxSteps:=1000000) (disch:=first|exact Lb rfl|omega) only [AXS,AXB,J.dst,reduceIte,Z1,Z2,Z3,Z4,Z5]
  refine wL_stN rfl rfl rfl (uA.blk B5 (by omega)) (by decide) (noRep_one (prepP p c).2.s) ?_
  rintro hB uB (E5 : Blk _ _ _ (eRp ⟨(prepP p c).2.s,none,0,0⟩))
  replace E4 := uB.blk E4 (by omega)
  simp (maxSteps:=1000000) (disch:=first|exact Lb rfl|omega) only [AXS,AXB,J.dst,reduceIte,Z1,Z2,Z3,Z4,Z5,E4.rd,ePr,E5.rd,eRp]
  have x4 := F8 b4 (by omega) a4
  have x5 := F8 b5 (by omega) a5
  have hpp : (prepP p c).2 = ⟨(prepP p c).2.s,[]⟩ := by
   cases h : (prepP p c).2 with
   | mk s pr => rw [h] at hpairs; simp only at hpairs; rw [hpairs]
  have hap' : applyP p c = ((prepP p c).1,⟨(prepP p c).2.s,[]⟩) := by
   by_cases he : (prepP p c).2.s.err = 0
   ·rw [hapO he,← hpp]
   ·rw [hapE he,← hpp]
    have hx := apply_not (p := p) (c := c) (by rw [hapE he]; exact he)
    have h2 : (prepP p c).1 = p := by
     unfold prepP at he ⊢
     split at he
     ·rfl
     ·split at he
      ·rename_i hm'; simp only [hm',if_true]
      ·rename_i hm'
       split at he
       ·rename_i hc'; simp only [hm',hc',Bool.false_eq_true,if_false,if_true]
       ·rename_i hc'
        split at he
        ·rename_i hf; simp only [hm',hc',hf,Bool.false_eq_true,if_false,if_true]
        ·rename_i hf
         simp only [hm',hc',hf,Bool.false_eq_true,if_false]
         split at he
         ·rfl
         ·exact absurd rfl he
    rw [h2]
  have := hR pv' ⟨(prepP p c).2.s,none,0,0⟩ hB (by rw [hap']; exact ((O8.upd uA x4.1 x4.2.1 x4.2.2).upd uB x5.1 x5.2.1 x5.2.2).fin) (by rw [hap']; exact RpO.none _ _ _) (uB.ext (uA.ext (e07.trans e8) (by omega)) (by omega))
  exact this
 have k3' : ¬ c.s.kind = 3 := by simpa using k3
 (try simp (maxSteps:=1000000) (disch:=first|exact Lb rfl|omega) only [AXS,AXB,J.dst,reduceIte,Z1,Z2,Z3,Z4,Z5]); rw [f57c28_eq]; (try simp (maxSteps:=1000000) (disch:=first|exact Lb rfl|omega) only [AXS,AXB,J.dst,reduceIte,Z1,Z2,Z3,Z4,Z5,f57r20]); rw [f57c29_eq]; (try simp (maxSteps:=1000000) (disch:=first|exact Lb rfl|omega) only [AXS,AXB,J.dst,reduceIte,Z1,Z2,Z3,Z4,Z5])
 refine ⟨fun k4 => ?_,fun k4 => ?_⟩
 ·-- Decide
  have k4' : c.s.kind = 4 := by simpa using k4
  have hd : doesP p c = match findO p.records c.s.by_ with
   | some o => (p,⟨{ okS with yes := o.yes,at_ := o.at_ },[]⟩)
   | none => ({ p with records := p.records ++ [outC c] },⟨{ okS with yes := c.s.yes,at_ := c.s.at_ },[]⟩) := by
   unfold doesP; rw [if_neg k2',if_neg k3',if_pos k4']; (try rfl)
  (try simp (maxSteps:=1000000) (disch:=first|exact Lb rfl|omega) only [AXS,AXB,J.dst,reduceIte,Z1,Z2,Z3,Z4,Z5]); rw [f57c30_eq]; (try simp (maxSteps:=1000000) (disch:=first|exact Lb rfl|omega) only [AXS,AXB,J.dst,reduceIte,Z1,Z2,Z3,Z4,Z5,f57r21,B6.cel,ePr,hrn,B3.rd,eCm,hcs])
  refine rfindO_ok p.records c.s.by_ _ I7.recs (by unfold maxLen; omega) ?_
  intro h8 e8
  refine ⟨trivial,?_⟩
  replace B3 := B3.ext e8; replace B4 := B4.ext e8; replace B5 := B5.ext e8; replace B6 := B6.ext e8
  have z8 := e8.size
  try simp (maxSteps:=1000000) (disch:=first|exact Lb rfl|omega) only [AXS,AXB,J.dst,reduceIte,Z1,Z2,Z3,Z4,Z5]
  refine wL_newN ?_; rintro b9 h9 e9 s9 hb9 B9
  replace B3 := B3.ext e9; replace B4 := B4.ext e9; replace B5 := B5.ext e9; replace B6 := B6.ext e9
  have z9 := e9.size
  try simp (maxSteps:=1000000) (disch:=first|exact Lb rfl|omega) only [AXS,AXB,J.dst,reduceIte,Z1,Z2,Z3,Z4,Z5]
  refine wL_stN rfl rfl rfl B9 (by decide) (eOut_one _) ?_
  rintro h10 u10 (B9 : Blk _ _ _ (eOut ((findO p.records c.s.by_).getD noOut)))
  have z10 := u10.size
  replace B3 := u10.blk B3 (by omega)
  replace B4 := u10.blk B4 (by omega)
  replace B5 := u10.blk B5 (by omega)
  replace B6 := u10.blk B6 (by omega)
  have I10 := I7.exts (e8.trans (u10.ext e9 (by omega)))
  have l9 := B9.lt
  have n6 : b6 ≠ b4 ∧ b6 ≠ b5 := by omega
  have n9 : b9 ≠ b4 ∧ b9 ≠ b5 := by omega
  (try simp (maxSteps:=1000000) (disch:=first|exact Lb rfl|omega) only [AXS,AXB,J.dst,reduceIte,Z1,Z2,Z3,Z4,Z5]); rw [f57c31_eq]; (try simp (maxSteps:=1000000) (disch:=first|exact Lb rfl|omega) only [AXS,AXB,J.dst,reduceIte,Z1,Z2,Z3,Z4,Z5,f57r22]); rw [f57c32_eq]; (try simp (maxSteps:=1000000) (disch:=first|exact Lb rfl|omega) only [AXS,AXB,J.dst,reduceIte,Z1,Z2,Z3,Z4,Z5])
  refine ⟨fun q => ?_,fun q => ?_⟩
  ·have hno : findO p.records c.s.by_ = none := by simpa using q
   rw [hno] at hd
   have hap' : applyP p c = ({ p with records := p.records ++ [outC c] },⟨{ okS with yes := c.s.yes,at_ := c.s.at_ },[]⟩) := by rw [hapO (by rw [hd]; rfl),hd]
   (try simp (maxSteps:=1000000) (disch:=first|exact Lb rfl|omega) only [AXS,AXB,J.dst,reduceIte,Z1,Z2,Z3,Z4,Z5]); rw [f57c33_eq]; (try simp (maxSteps:=1000000) (disch:=first|exact Lb rfl|omega) only [AXS,AXB,J.dst,reduceIte,Z1,Z2,Z3,Z4,Z5,f57r23,B3.rd,B3.cel,eCm,hcs])
   refine wL_stN rfl rfl rfl B9 (by rw [eOut_len]; decide) (eOut_one (outC c)) ?_
   rintro h11 u11 (B9 : Blk _ _ _ (eOut (outC c)))
   have z11 := u11.size
   replace B4 := u11.blk B4 (by omega)
   replace B5 := u11.blk B5 (by omega)
   replace B6 := u11.blk B6 (by omega)
   have I11 := I10.boxA (by omega) (by omega) ((I7.exts e8).ap (b := b9) (by omega)) u11
   (try simp (maxSteps:=1000000) (disch:=first|exact Lb rfl|omega) only [AXS,AXB,J.dst,reduceIte,Z1,Z2,Z3,Z4,Z5]); rw [f57c34_eq]; (try simp (maxSteps:=1000000) (disch:=first|exact Lb rfl|omega) only [AXS,AXB,J.dst,reduceIte,Z1,Z2,Z3,Z4,Z5,f57r24,B6.cel,ePr,hrn,B9.rd,eOut])
   refine wL_bslN rfl ?_; rintro b11 h12 e12 s12 hb11 (B11 : Blk _ _ _ (eOut (outC c)))
   replace B4 := B4.ext e12; replace B5 := B5.ext e12; replace B6 := B6.ext e12; replace B9 := B9.ext e12
   have I12 := I11.exts e12
   have z12 := e12.size
   try simp (maxSteps:=1000000) (disch:=first|exact Lb rfl|omega) only [AXS,AXB,J.dst,reduceIte,Z1,Z2,Z3,Z4,Z5]
   rw [wL_raw]
   refine raw_append slT114 rfl rfl rfl I12.o.records' (news := eOut (outC c)) (by rw [eOut_len]) (.inr ⟨b11,0,rfl,B11.row⟩) (eOut_one _) (by unfold maxLen; omega) (by omega) (by omega) ?_
   intro a13 c13 h13 O13 G13 A13
   refine ⟨trivial,?_⟩
   have z13 := G13.size
   have hra6 := I12.ra
   replace B6 := G13.blk B6 (fun e => hra6 e.symm)
   replace B4 := G13.blk B4 (fun e => a4.2.1 e.symm)
   replace B5 := G13.blk B5 (fun e => a5.2.1 e.symm)
   have hap9 := (I7.exts e8).ap (b := b9) (by omega)
   replace B9 := G13.blk B9 (fun e => hap9.2.1 e.symm)
   try simp (maxSteps:=1000000) (disch:=first|exact Lb rfl|omega) only [AXS,AXB,J.dst,reduceIte,Z1,Z2,Z3,Z4,Z5]
   refine wL_stN rfl rfl rfl B6 (by rw [ePr_len]; exact Nat.le_of_ble_eq_true rfl) slice_one ?_
   rintro h14 u14 (B14 : Blk _ _ _ (ePr { pv1 with ra := a13,rn := p.records.length + 1,rc := c13 }))
   have I14 := I11.putR e12 (x := outC c) (by rw [List.flatMap_append]; simpa using O13) (by simp) G13 A13 u14 B14
   have z14 := u14.size
   replace B4 := u14.blk B4 (by omega)
   replace B5 := u14.blk B5 (by omega)
   replace B9 := u14.blk B9 (by omega)
   have x4 := ap_app (v' := { pv1 with ra := a13,rn := p.records.length + 1,rc := c13 }) A13 a4 (by omega) rfl rfl
   have x5 := ap_app (v' := { pv1 with ra := a13,rn := p.records.length + 1,rc := c13 }) A13 a5 (by omega) rfl rfl
   try simp (maxSteps:=1000000) (disch:=first|exact Lb rfl|omega) only [AXS,AXB,J.dst,reduceIte,Z1,Z2,Z3,Z4,Z5]
   rw [f57c35_eq]
   refine ⟨fun b => b < h14.size ∧ b ≠ b4 ∧ b ≠ b5,fun b hb => hb.1,?_⟩
   simp (maxSteps:=1000000) (disch:=first|exact Lb rfl|omega) only [AXS,AXB,J.dst,reduceIte,Z1,Z2,Z3,Z4,Z5,f57r25,B14.rd,ePr,B9.rd,B9.cel,eOut,outC]
   refine ⟨⟨by omega,n6⟩,⟨by omega,n9⟩,⟨by omega,n9⟩,?_⟩
   refine wL_stD rfl rfl (fun hb => hb.2.1 rfl) rfl B4 (by decide) (ePr_one { pv1 with ra := a13,rn := p.records.length + 1,rc := c13 }) ?_
   rintro hA uA (E4 : Blk _ _ _ (ePr { pv1 with ra := a13,rn := p.records.length + 1,rc := c13 }))
   try simp (maxSteps:=1000000) (disch:=first|exact Lb rfl|omega) only [AXS,AXB,J.dst,reduceIte,Z1,Z2,Z3,Z4,Z5]
   refine wL_stD rfl rfl (fun hb => hb.2.2 rfl) rfl (uA.blk B5 (by omega)) (by decide) (eRp_one ⟨{ okS with yes := c.s.yes,at_ := c.s.at_ },none,0,0⟩) ?_
   rintro hB uB (E5 : Blk _ _ _ (eRp ⟨{ okS with yes := c.s.yes,at_ := c.s.at_ },none,0,0⟩))
   replace E4 := uB.blk E4 (by omega)
   simp (maxSteps:=1000000) (disch:=first|exact Lb rfl|omega) only [AXS,AXB,J.dst,reduceIte,Z1,Z2,Z3,Z4,Z5,E4.rd,ePr,E5.rd,eRp]
   have := fin h14 _ _ lo hc ⟨{ okS with yes := c.s.yes,at_ := c.s.at_ },none,0,0⟩ ⟨{ okS with yes := c.s.yes,at_ := c.s.at_ },[]⟩ hA hB I14 (RpO.none _ _ _) (no _) x4 x5 uA uB hap'
   exact this
  ·obtain ⟨o,ho⟩ : ∃ o,findO p.records c.s.by_ = some o := by
    cases hf : findO p.records c.s.by_ with
    | none => rw [hf] at q; cases q
    | some o => exact ⟨o,rfl⟩
   rw [ho] at hd
   rw [ho,Option.getD_some] at B9
   have hap' : applyP p c = (p,⟨{ okS with yes := o.yes,at_ := o.at_ },[]⟩) := by rw [hapO (by rw [hd]; rfl),hd]
   try simp (maxSteps:=1000000) (disch:=first|exact Lb rfl|omega) only [AXS,AXB,J.dst,reduceIte,Z1,Z2,Z3,Z4,Z5]
   rw [f57c35_eq]
   refine ⟨fun b => b < h10.size ∧ b ≠ b4 ∧ b ≠ b5,fun b hb => hb.1,?_⟩
   simp (maxSteps:=1000000) (disch:=first|exact Lb rfl|omega) only [AXS,AXB,J.dst,reduceIte,Z1,Z2,Z3,Z4,Z5,f57r25,B6.rd,ePr,B9.rd,B9.cel,eOut]
   refine ⟨⟨by omega,n6⟩,⟨by omega,n9⟩,⟨by omega,n9⟩,?_⟩
   refine wL_stD rfl rfl (fun hb => hb.2.1 rfl) rfl B4 (by decide) (ePr_one pv1) ?_
   rintro hA uA (E4 : Blk _ _ _ (ePr pv1))
   try simp (maxSteps:=1000000) (disch:=first|exact Lb rfl|omega) only [AXS,AXB,J.dst,reduceIte,Z1,Z2,Z3,Z4,Z5]
   refine wL_stD rfl rfl (fun hb => hb.2.2 rfl) rfl (uA.blk B5 (by omega)) (by decide) (eRp_one ⟨{ okS with yes := o.yes,at_ := o.at_ },none,0,0⟩) ?_
   rintro hB uB (E5 : Blk _ _ _ (eRp ⟨{ okS with yes := o.yes,at_ := o.at_ },none,0,0⟩))
   replace E4 := uB.blk E4 (by omega)
   simp (maxSteps:=1000000) (disch:=first|exact Lb rfl|omega) only [AXS,AXB,J.dst,reduceIte,Z1,Z2,Z3,Z4,Z5,E4.rd,ePr,E5.rd,eRp]
   have := fin h10 pv1 p lo hc ⟨{ okS with yes := o.yes,at_ := o.at_ },none,0,0⟩ ⟨{ okS with yes := o.yes,at_ := o.at_ },[]⟩ hA hB I10 (RpO.none _ _ _) (no _) a4 a5 uA uB hap'
   exact this
 have k4' : ¬ c.s.kind = 4 := by simpa using k4
 (try simp (maxSteps:=1000000) (disch:=first|exact Lb rfl|omega) only [AXS,AXB,J.dst,reduceIte,Z1,Z2,Z3,Z4,Z5]); rw [f57c36_eq]; (try simp (maxSteps:=1000000) (disch:=first|exact Lb rfl|omega) only [AXS,AXB,J.dst,reduceIte,Z1,Z2,Z3,Z4,Z5,f57r26]); rw [f57c37_eq]; (try simp (maxSteps:=1000000) (disch:=first|exact Lb rfl|omega) only [AXS,AXB,J.dst,reduceIte,Z1,Z2,Z3,Z4,Z5])
 refine ⟨fun k5 => ?_,fun k5 => ?_⟩
 ·-- Settle
  have k5' : c.s.kind = 5 := by simpa using k5
  have hd : doesP p c = ({ p with cells := settleL p.cells c.s.by_ c.s.yes,done := match findO p.done c.s.by_ with | some _ => p.done | none => p.done ++ [outC c] },⟨okS,[]⟩) := by
   unfold doesP; rw [if_neg k2',if_neg k3',if_neg k4',if_pos k5']; (try rfl)
  (try simp (maxSteps:=1000000) (disch:=first|exact Lb rfl|omega) only [AXS,AXB,J.dst,reduceIte,Z1,Z2,Z3,Z4,Z5]); rw [f57c38_eq]; (try simp (maxSteps:=1000000) (disch:=first|exact Lb rfl|omega) only [AXS,AXB,J.dst,reduceIte,Z1,Z2,Z3,Z4,Z5,f57r27,B6.cel,ePr,hcn,B3.rd,B3.cel,eCm,hcs])
  refine rsettleG g.sz.cells hn' I7.cells c.s.by_ c.s.yes ?_
  intro ca cc h8 O8 e8
  refine ⟨trivial,?_⟩
  replace B3 := B3.ext e8; replace B4 := B4.ext e8; replace B5 := B5.ext e8; replace B6 := B6.ext e8
  have z8 := e8.size
  try simp (maxSteps:=1000000) (disch:=first|exact Lb rfl|omega) only [AXS,AXB,J.dst,reduceIte,Z1,Z2,Z3,Z4,Z5]
  refine wL_stN rfl rfl rfl B6 (by rw [ePr_len]; exact Nat.le_of_ble_eq_true rfl) slice_one ?_
  rintro h9 u9 (B9 : Blk _ _ _ (ePr { pv1 with ca := ca,cn := (settleL p.cells c.s.by_ c.s.yes).length,cc := cc }))
  have I9 := I7.putC O8 e8 u9 B9
  have z9 := u9.size
  replace B3 := u9.blk B3 (by omega)
  replace B4 := u9.blk B4 (by omega)
  replace B5 := u9.blk B5 (by omega)
  have x4 : ApP b4 h7.size h8 { pv1 with ca := ca,cn := (settleL p.cells c.s.by_ c.s.yes).length,cc := cc } := ⟨.inl (by omega),a4.2⟩
  have x5 : ApP b5 h7.size h8 { pv1 with ca := ca,cn := (settleL p.cells c.s.by_ c.s.yes).length,cc := cc } := ⟨.inl (by omega),a5.2⟩
  try simp (maxSteps:=1000000) (disch:=first|exact Lb rfl|omega) only [AXS,AXB,J.dst,reduceIte,Z1,Z2,Z3,Z4,Z5]
  (try simp (maxSteps:=1000000) (disch:=first|exact Lb rfl|omega) only [AXS,AXB,J.dst,reduceIte,Z1,Z2,Z3,Z4,Z5]); rw [f57c39_eq]; (try simp (maxSteps:=1000000) (disch:=first|exact Lb rfl|omega) only [AXS,AXB,J.dst,reduceIte,Z1,Z2,Z3,Z4,Z5,f57r28,B9.cel,ePr,hdn,B3.rd,eCm,hcs])
  refine rfindO_ok p.done c.s.by_ _ I9.dones (by unfold maxLen; omega) ?_
  intro h10 e10
  refine ⟨trivial,?_⟩
  replace B3 := B3.ext e10; replace B4 := B4.ext e10; replace B5 := B5.ext e10
  have z10 := e10.size
  try simp (maxSteps:=1000000) (disch:=first|exact Lb rfl|omega) only [AXS,AXB,J.dst,reduceIte,Z1,Z2,Z3,Z4,Z5]
  refine wL_newN ?_; rintro b11 h11 e11 s11 hb11 B11
  replace B3 := B3.ext e11; replace B4 := B4.ext e11; replace B5 := B5.ext e11
  have z11 := e11.size
  try simp (maxSteps:=1000000) (disch:=first|exact Lb rfl|omega) only [AXS,AXB,J.dst,reduceIte,Z1,Z2,Z3,Z4,Z5]
  refine wL_stN rfl rfl rfl B11 (by decide) (eOut_one _) ?_
  rintro h12 u12 -
  have z12 := u12.size
  replace B3 := u12.blk B3 (by omega)
  replace B4 := u12.blk B4 (by omega)
  replace B5 := u12.blk B5 (by omega)
  have I12 := I9.exts (e10.trans (u12.ext e11 (by omega)))
  have B12 := I12.b
  (try simp (maxSteps:=1000000) (disch:=first|exact Lb rfl|omega) only [AXS,AXB,J.dst,reduceIte,Z1,Z2,Z3,Z4,Z5]); rw [f57c40_eq]; (try simp (maxSteps:=1000000) (disch:=first|exact Lb rfl|omega) only [AXS,AXB,J.dst,reduceIte,Z1,Z2,Z3,Z4,Z5,f57r29]); rw [f57c41_eq]; (try simp (maxSteps:=1000000) (disch:=first|exact Lb rfl|omega) only [AXS,AXB,J.dst,reduceIte,Z1,Z2,Z3,Z4,Z5])
  refine ⟨fun q => ?_,fun q => ?_⟩
  ·have hno : findO p.done c.s.by_ = none := by simpa using q
   rw [hno] at hd
   have hap' : applyP p c = ({ p with cells := settleL p.cells c.s.by_ c.s.yes,done := p.done ++ [outC c] },⟨okS,[]⟩) := by rw [hapO (by rw [hd]; rfl),hd]
   (try simp (maxSteps:=1000000) (disch:=first|exact Lb rfl|omega) only [AXS,AXB,J.dst,reduceIte,Z1,Z2,Z3,Z4,Z5]); rw [f57c42_eq]; (try simp (maxSteps:=1000000) (disch:=first|exact Lb rfl|omega) only [AXS,AXB,J.dst,reduceIte,Z1,Z2,Z3,Z4,Z5,f57r30,B12.cel,ePr,hdn,B3.rd,B3.cel,eCm,hcs])
   refine wL_bslN rfl ?_; rintro b13 h13 e13 s13 hb13 (B13 : Blk _ _ _ (eOut (outC c)))
   replace B4 := B4.ext e13; replace B5 := B5.ext e13
   have I13 := I12.exts e13
   have z13 := e13.size
   have Bp := I13.b
   try simp (maxSteps:=1000000) (disch:=first|exact Lb rfl|omega) only [AXS,AXB,J.dst,reduceIte,Z1,Z2,Z3,Z4,Z5]
   rw [wL_raw]
   refine raw_append slT114 rfl rfl rfl I13.o.done' (news := eOut (outC c)) (by rw [eOut_len]) (.inr ⟨b13,0,rfl,B13.row⟩) (eOut_one _) (by unfold maxLen; show p.done.length + 1 ≤ _; omega) (by show (p.done.length + 1) * 56 ≤ _; omega) (by omega) ?_
   intro a14 c14 h14 O14 G14 A14
   refine ⟨trivial,?_⟩
   have z14 := G14.size
   have hda6 := I13.da
   replace Bp := G14.blk Bp (fun e => hda6 e.symm)
   replace B4 := G14.blk B4 (fun e => a4.2.2 e.symm)
   replace B5 := G14.blk B5 (fun e => a5.2.2 e.symm)
   try simp (maxSteps:=1000000) (disch:=first|exact Lb rfl|omega) only [AXS,AXB,J.dst,reduceIte,Z1,Z2,Z3,Z4,Z5]
   refine wL_stN rfl rfl rfl Bp (by rw [ePr_len]; exact Nat.le_of_ble_eq_true rfl) slice_one ?_
   rintro h15 u15 (B15 : Blk _ _ _ (ePr { pv1 with ca := ca,cn := (settleL p.cells c.s.by_ c.s.yes).length,cc := cc,da := a14,dn := p.done.length + 1,dc := c14 }))
   have I15 := I12.putD e13 (x := outC c) (by rw [List.flatMap_append]; simpa using O14) (by simp) G14 A14 u15 B15
   have z15 := u15.size
   replace B4 := u15.blk B4 (by omega)
   replace B5 := u15.blk B5 (by omega)
   have y4 := ap_app' (v' := { pv1 with ca := ca,cn := (settleL p.cells c.s.by_ c.s.yes).length,cc := cc,da := a14,dn := p.done.length + 1,dc := c14 }) A14 x4 (by omega) rfl rfl
   have y5 := ap_app' (v' := { pv1 with ca := ca,cn := (settleL p.cells c.s.by_ c.s.yes).length,cc := cc,da := a14,dn := p.done.length + 1,dc := c14 }) A14 x5 (by omega) rfl rfl
   try simp (maxSteps:=1000000) (disch:=first|exact Lb rfl|omega) only [AXS,AXB,J.dst,reduceIte,Z1,Z2,Z3,Z4,Z5]
   (try simp (maxSteps:=1000000) (disch:=first|exact Lb rfl|omega) only [AXS,AXB,J.dst,reduceIte,Z1,Z2,Z3,Z4,Z5]); rw [f57c43_eq]; (try simp (maxSteps:=1000000) (disch:=first|exact Lb rfl|omega) only [AXS,AXB,J.dst,reduceIte,Z1,Z2,Z3,Z4,Z5,f57r31,B15.rd,ePr])
   refine wL_stN rfl rfl rfl B4 (by decide) (ePr_one { pv1 with ca := ca,cn := (settleL p.cells c.s.by_ c.s.yes).length,cc := cc,da := a14,dn := p.done.length + 1,dc := c14 }) ?_
   rintro hA uA (E4 : Blk _ _ _ (ePr { pv1 with ca := ca,cn := (settleL p.cells c.s.by_ c.s.yes).length,cc := cc,da := a14,dn := p.done.length + 1,dc := c14 }))
   try simp (maxSteps:=1000000) (disch:=first|exact Lb rfl|omega) only [AXS,AXB,J.dst,reduceIte,Z1,Z2,Z3,Z4,Z5]
   refine wL_stN rfl rfl rfl (uA.blk B5 (by omega)) (by decide) (eRp_one ⟨okS,none,0,0⟩) ?_
   rintro hB uB (E5 : Blk _ _ _ (eRp ⟨okS,none,0,0⟩))
   replace E4 := uB.blk E4 (by omega)
   simp (maxSteps:=1000000) (disch:=first|exact Lb rfl|omega) only [AXS,AXB,J.dst,reduceIte,Z1,Z2,Z3,Z4,Z5,E4.rd,ePr,E5.rd,eRp]
   have := fin h15 _ _ h7.size h8 ⟨okS,none,0,0⟩ ⟨okS,[]⟩ hA hB I15 (RpO.none _ _ _) (no _) y4 y5 uA uB hap'
   exact this
  ·obtain ⟨o,ho⟩ : ∃ o,findO p.done c.s.by_ = some o := by
    cases hf : findO p.done c.s.by_ with
    | none => rw [hf] at q; cases q
    | some o => exact ⟨o,rfl⟩
   rw [ho] at hd
   have hap' : applyP p c = ({ p with cells := settleL p.cells c.s.by_ c.s.yes },⟨okS,[]⟩) := by rw [hapO (by rw [hd]; rfl),hd]
   (try simp (maxSteps:=1000000) (disch:=first|exact Lb rfl|omega) only [AXS,AXB,J.dst,reduceIte,Z1,Z2,Z3,Z4,Z5]); rw [f57c43_eq]; (try simp (maxSteps:=1000000) (disch:=first|exact Lb rfl|omega) only [AXS,AXB,J.dst,reduceIte,Z1,Z2,Z3,Z4,Z5,f57r31,B12.rd,ePr])
   refine wL_stN rfl rfl rfl B4 (by decide) (ePr_one { pv1 with ca := ca,cn := (settleL p.cells c.s.by_ c.s.yes).length,cc := cc }) ?_
   rintro hA uA (E4 : Blk _ _ _ (ePr { pv1 with ca := ca,cn := (settleL p.cells c.s.by_ c.s.yes).length,cc := cc }))
   try simp (maxSteps:=1000000) (disch:=first|exact Lb rfl|omega) only [AXS,AXB,J.dst,reduceIte,Z1,Z2,Z3,Z4,Z5]
   refine wL_stN rfl rfl rfl (uA.blk B5 (by omega)) (by decide) (eRp_one ⟨okS,none,0,0⟩) ?_
   rintro hB uB (E5 : Blk _ _ _ (eRp ⟨okS,none,0,0⟩))
   replace E4 := uB.blk E4 (by omega)
   simp (maxSteps:=1000000) (disch:=first|exact Lb rfl|omega) only [AXS,AXB,J.dst,reduceIte,Z1,Z2,Z3,Z4,Z5,E4.rd,ePr,E5.rd,eRp]
   have := fin h12 _ _ h7.size h8 ⟨okS,none,0,0⟩ ⟨okS,[]⟩ hA hB I12 (RpO.none _ _ _) (no _) x4 x5 uA uB hap'
   exact this
 have k5' : ¬ c.s.kind = 5 := by simpa using k5
 (try simp (maxSteps:=1000000) (disch:=first|exact Lb rfl|omega) only [AXS,AXB,J.dst,reduceIte,Z1,Z2,Z3,Z4,Z5]); rw [f57c44_eq]; (try simp (maxSteps:=1000000) (disch:=first|exact Lb rfl|omega) only [AXS,AXB,J.dst,reduceIte,Z1,Z2,Z3,Z4,Z5,f57r32]); rw [f57c45_eq]; (try simp (maxSteps:=1000000) (disch:=first|exact Lb rfl|omega) only [AXS,AXB,J.dst,reduceIte,Z1,Z2,Z3,Z4,Z5])
 refine ⟨fun k6 => ?_,fun k6 => ?_⟩
 ·-- Close
  have k6' : c.s.kind = 6 := by simpa using k6
  have hd : doesP p c = ({ p with s := { p.s with closed := maxI p.s.closed (minI c.s.wall mostWall) } },⟨{ okS with wall := maxI p.s.closed (minI c.s.wall mostWall) },[]⟩) := by
   unfold doesP; rw [if_neg k2',if_neg k3',if_neg k4',if_neg k5',if_pos k6']
  have hap' := hapO (by rw [hd]; rfl)
  rw [hd] at hap'
  (try simp (maxSteps:=1000000) (disch:=first|exact Lb rfl|omega) only [AXS,AXB,J.dst,reduceIte,Z1,Z2,Z3,Z4,Z5]); rw [f57c46_eq]; (try simp (maxSteps:=1000000) (disch:=first|exact Lb rfl|omega) only [AXS,AXB,J.dst,reduceIte,Z1,Z2,Z3,Z4,Z5,f57r33,B6.cel,ePr,hps,B3.cel,eCm,hcs,Bool.false_eq_true])
  refine wL_stN rfl rfl rfl B6 (by rw [ePr_len]; exact Nat.le_of_ble_eq_true rfl) int_one ?_
  rintro h8 u8 (B8 : Blk _ _ _ (ePr { pv1 with s := { pv1.s with closed := maxI p.s.closed (minI c.s.wall mostWall) } }))
  have I8 := I7.put _ u8 B8
  rw [hps] at I8 B8
  have z8 := u8.size
  replace B4 := u8.blk B4 (by omega)
  replace B5 := u8.blk B5 (by omega)
  try simp (maxSteps:=1000000) (disch:=first|exact Lb rfl|omega) only [AXS,AXB,J.dst,reduceIte,Z1,Z2,Z3,Z4,Z5]
  rw [f57c47_eq]
  refine ⟨fun b => b < h8.size ∧ b ≠ b4 ∧ b ≠ b5,fun b hb => hb.1,?_⟩
  have n6 : b6 ≠ b4 ∧ b6 ≠ b5 := by omega
  simp (maxSteps:=1000000) (disch:=first|exact Lb rfl|omega) only [AXS,AXB,J.dst,reduceIte,Z1,Z2,Z3,Z4,Z5,f57r34,B8.rd,B8.cel,ePr]
  refine ⟨⟨by omega,n6⟩,⟨by omega,n6⟩,?_⟩
  refine wL_stD rfl rfl (fun hb => hb.2.1 rfl) rfl B4 (by decide) (ePr_one { pv1 with s := { p.s with closed := maxI p.s.closed (minI c.s.wall mostWall) } }) ?_
  rintro hA uA (E4 : Blk _ _ _ (ePr { pv1 with s := { p.s with closed := maxI p.s.closed (minI c.s.wall mostWall) } }))
  try simp (maxSteps:=1000000) (disch:=first|exact Lb rfl|omega) only [AXS,AXB,J.dst,reduceIte,Z1,Z2,Z3,Z4,Z5]
  refine wL_stD rfl rfl (fun hb => hb.2.2 rfl) rfl (uA.blk B5 (by omega)) (by decide) (eRp_one ⟨{ okS with wall := maxI p.s.closed (minI c.s.wall mostWall) },none,0,0⟩) ?_
  rintro hB uB (E5 : Blk _ _ _ (eRp ⟨{ okS with wall := maxI p.s.closed (minI c.s.wall mostWall) },none,0,0⟩))
  replace E4 := uB.blk E4 (by omega)
  simp (maxSteps:=1000000) (disch:=first|exact Lb rfl|omega) only [AXS,AXB,J.dst,reduceIte,Z1,Z2,Z3,Z4,Z5,E4.rd,ePr,E5.rd,eRp]
  have := fin h8 _ _ lo hc ⟨{ okS with wall := maxI p.s.closed (minI c.s.wall mostWall) },none,0,0⟩ ⟨{ okS with wall := maxI p.s.closed (minI c.s.wall mostWall) },[]⟩ hA hB I8 (RpO.none _ _ _) (no _) a4 a5 uA uB hap'
  exact this
 have k6' : ¬ c.s.kind = 6 := by simpa using k6
 (try simp (maxSteps:=1000000) (disch:=first|exact Lb rfl|omega) only [AXS,AXB,J.dst,reduceIte,Z1,Z2,Z3,Z4,Z5]); rw [f57c48_eq]; (try simp (maxSteps:=1000000) (disch:=first|exact Lb rfl|omega) only [AXS,AXB,J.dst,reduceIte,Z1,Z2,Z3,Z4,Z5,f57r35]); rw [f57c49_eq]; (try simp (maxSteps:=1000000) (disch:=first|exact Lb rfl|omega) only [AXS,AXB,J.dst,reduceIte,Z1,Z2,Z3,Z4,Z5])
 refine ⟨fun k7 => ?_,fun k7 => ?_⟩
 ·-- Trim
  have k7' : c.s.kind = 7 := by simpa using k7
  have hd : doesP p c = ({ p with s := { p.s with low := maxI p.s.low (minI c.s.wall p.s.closed) },cells := trimL p.cells ⟨maxI p.s.low (minI c.s.wall p.s.closed),0⟩ },⟨{ okS with wall := maxI p.s.low (minI c.s.wall p.s.closed) },[]⟩) := by
   unfold doesP; rw [if_neg k2',if_neg k3',if_neg k4',if_neg k5',if_neg k6',if_pos k7']
  have hap' := hapO (by rw [hd]; rfl)
  rw [hd] at hap'
  (try simp (maxSteps:=1000000) (disch:=first|exact Lb rfl|omega) only [AXS,AXB,J.dst,reduceIte,Z1,Z2,Z3,Z4,Z5]); rw [f57c50_eq]; (try simp (maxSteps:=1000000) (disch:=first|exact Lb rfl|omega) only [AXS,AXB,J.dst,reduceIte,Z1,Z2,Z3,Z4,Z5,f57r36,B6.cel,ePr,hps,B3.cel,eCm,hcs,Bool.false_eq_true])
  refine wL_stN rfl rfl rfl B6 (by rw [ePr_len]; exact Nat.le_of_ble_eq_true rfl) int_one ?_
  rintro h8 u8 (B8 : Blk _ _ _ (ePr { pv1 with s := { pv1.s with low := maxI p.s.low (minI c.s.wall p.s.closed) } }))
  have I8 := I7.put _ u8 B8
  rw [hps] at I8 B8
  have z8 := u8.size
  replace B4 := u8.blk B4 (by omega)
  replace B5 := u8.blk B5 (by omega)
  try simp (maxSteps:=1000000) (disch:=first|exact Lb rfl|omega) only [AXS,AXB,J.dst,reduceIte,Z1,Z2,Z3,Z4,Z5]
  (try simp (maxSteps:=1000000) (disch:=first|exact Lb rfl|omega) only [AXS,AXB,J.dst,reduceIte,Z1,Z2,Z3,Z4,Z5]); rw [f57c51_eq]; (try simp (maxSteps:=1000000) (disch:=first|exact Lb rfl|omega) only [AXS,AXB,J.dst,reduceIte,Z1,Z2,Z3,Z4,Z5,f57r37,B8.cel,ePr,hcn])
  refine rtrimG g.sz.cells hn' I8.cells ⟨maxI p.s.low (minI c.s.wall p.s.closed),0⟩ ?_
  intro ca cc h9 O9 e9
  refine ⟨trivial,?_⟩
  replace B8 := B8.ext e9; replace B4 := B4.ext e9; replace B5 := B5.ext e9
  have z9 := e9.size
  try simp (maxSteps:=1000000) (disch:=first|exact Lb rfl|omega) only [AXS,AXB,J.dst,reduceIte,Z1,Z2,Z3,Z4,Z5]
  refine wL_stN rfl rfl rfl B8 (by rw [ePr_len]; exact Nat.le_of_ble_eq_true rfl) slice_one ?_
  rintro h10 u10 (B10 : Blk _ _ _ (ePr { pv1 with s := { p.s with low := maxI p.s.low (minI c.s.wall p.s.closed) },ca := ca,cn := (trimL p.cells ⟨maxI p.s.low (minI c.s.wall p.s.closed),0⟩).length,cc := cc }))
  have I10 := I8.putC O9 e9 u10 B10
  have z10 := u10.size
  replace B4 := u10.blk B4 (by omega)
  replace B5 := u10.blk B5 (by omega)
  try simp (maxSteps:=1000000) (disch:=first|exact Lb rfl|omega) only [AXS,AXB,J.dst,reduceIte,Z1,Z2,Z3,Z4,Z5]
  rw [f57c52_eq]
  refine ⟨fun b => b < h10.size ∧ b ≠ b4 ∧ b ≠ b5,fun b hb => hb.1,?_⟩
  have n6 : b6 ≠ b4 ∧ b6 ≠ b5 := by omega
  simp (maxSteps:=1000000) (disch:=first|exact Lb rfl|omega) only [AXS,AXB,J.dst,reduceIte,Z1,Z2,Z3,Z4,Z5,f57r38,B10.rd,B10.cel,ePr]
  refine ⟨⟨by omega,n6⟩,⟨by omega,n6⟩,?_⟩
  refine wL_stD rfl rfl (fun hb => hb.2.1 rfl) rfl B4 (by decide) (ePr_one { pv1 with s := { p.s with low := maxI p.s.low (minI c.s.wall p.s.closed) },ca := ca,cn := (trimL p.cells ⟨maxI p.s.low (minI c.s.wall p.s.closed),0⟩).length,cc := cc }) ?_
  rintro hA uA (E4 : Blk _ _ _ (ePr { pv1 with s := { p.s with low := maxI p.s.low (minI c.s.wall p.s.closed) },ca := ca,cn := (trimL p.cells ⟨maxI p.s.low (minI c.s.wall p.s.closed),0⟩).length,cc := cc }))
  try simp (maxSteps:=1000000) (disch:=first|exact Lb rfl|omega) only [AXS,AXB,J.dst,reduceIte,Z1,Z2,Z3,Z4,Z5]
  refine wL_stD rfl rfl (fun hb => hb.2.2 rfl) rfl (uA.blk B5 (by omega)) (by decide) (eRp_one ⟨{ okS with wall := maxI p.s.low (minI c.s.wall p.s.closed) },none,0,0⟩) ?_
  rintro hB uB (E5 : Blk _ _ _ (eRp ⟨{ okS with wall := maxI p.s.low (minI c.s.wall p.s.closed) },none,0,0⟩))
  replace E4 := uB.blk E4 (by omega)
  simp (maxSteps:=1000000) (disch:=first|exact Lb rfl|omega) only [AXS,AXB,J.dst,reduceIte,Z1,Z2,Z3,Z4,Z5,E4.rd,ePr,E5.rd,eRp]
  have := fin h10 _ _ h8.size h9 ⟨{ okS with wall := maxI p.s.low (minI c.s.wall p.s.closed) },none,0,0⟩ ⟨{ okS with wall := maxI p.s.low (minI c.s.wall p.s.closed) },[]⟩ hA hB I10 (RpO.none _ _ _) (no _) ⟨.inl (by omega),a4.2⟩ ⟨.inl (by omega),a5.2⟩ uA uB hap'
  exact this
 have k7' : ¬ c.s.kind = 7 := by simpa using k7
 have hd : doesP p c = (p,errR 9) := by
  unfold doesP; rw [if_neg k2',if_neg k3',if_neg k4',if_neg k5',if_neg k6',if_neg k7']
 have hap' : applyP p c = (p,errR 9) := by rw [hapE (by rw [hd]; show ¬ (9 : Int) = 0; decide),hd]
 (try simp (maxSteps:=1000000) (disch:=first|exact Lb rfl|omega) only [AXS,AXB,J.dst,reduceIte,Z1,Z2,Z3,Z4,Z5]); rw [f57c53_eq]; (try simp (maxSteps:=1000000) (disch:=first|exact Lb rfl|omega) only [AXS,AXB,J.dst,reduceIte,Z1,Z2,Z3,Z4,Z5,f57r39,B6.rd,ePr])
 refine wL_stN rfl rfl rfl B4 (by decide) (ePr_one pv1) ?_
 rintro hA uA (E4 : Blk _ _ _ (ePr pv1))
 try simp (maxSteps:=1000000) (disch:=first|exact Lb rfl|omega) only [AXS,AXB,J.dst,reduceIte,Z1,Z2,Z3,Z4,Z5]
 refine wL_stN rfl rfl rfl (uA.blk B5 (by omega)) (by decide) (eRp_one ⟨(errR 9).s,none,0,0⟩) ?_
 rintro hB uB (E5 : Blk _ _ _ (eRp ⟨(errR 9).s,none,0,0⟩))
 replace E4 := uB.blk E4 (by omega)
 simp (maxSteps:=1000000) (disch:=first|exact Lb rfl|omega) only [AXS,AXB,J.dst,reduceIte,Z1,Z2,Z3,Z4,Z5,E4.rd,ePr,E5.rd,eRp]
 have := fin h7 pv1 p lo hc ⟨(errR 9).s,none,0,0⟩ (errR 9) hA hB I7 (RpO.none _ _ _) (no _) a4 a5 uA uB hap'
 exact this
end Go.Proofs.Ytefghfgmkndikaa
namespace Go.Proofs.Ytefghfgmkndikaa
open Go Go.AX Go.ChangeShapes Go.WideShapes Go.RowKit Go.Deep
section
variable {H : Type} {enc : TypeId × Value → H} {w : World} {base : Nat}
end
end Go.Proofs.Ytefghfgmkndikaa
namespace Go.Proofs.Ytefghfgmkndikaa
open Go.AX
set_option maxRecDepth 100000
def f14r0 : List I := [.op (.mov 4 (.const (.bool false))),
 .kp [0,1]]
def f14r1 : List I := [.op (.call (some 15) 52 []),
 .op (.un 16 .not (.tmp 15)),
 .kp [0,1,16]]
def f14r2 : List I := [.op (.mov 4 (.const (.bool false))),
 .kp [4]]
def f14r3 : List I := [.op (.mov 17 (.tmp 0)),
 .op (.call (some 18) 53 [(.tmp 17),(.const (.int .i64 60))]),
 .op (.un 19 .not (.tmp 18)),
 .op (.mov 20 (.tmp 19)),
 .sc 20 false 3,
 .g 20 false (.mov 21 (.tmp 1)),
 .g 20 false (.len 22 true (.tmp 21)),
 .g 20 false (.bin 23 .gtr (.tmp 22) (.const (.int .i64 100))),
 .op (.pick 24 (.tmp 20) (.const (.bool true)) (.tmp 23)),
 .kp [24,0,1]]
def f14r4 : List I := [.op (.mov 4 (.const (.bool true))),
 .kp [4]]
def f14r5 : List I := [.op (.new 5 116 [.int .i64 0,.int .i64 0,.int .i64 0,.int .i64 0,.int .i64 0,.int .i64 0,.slice none 0 0,.slice none 0 0,.slice none 0 0]),
 .kp [0,1,5]]
def f14r6 : List I := [.op (.mov 6 (.const (.int .i64 0))),
 .kp [0,1,5,6]]
def f14r7 : List I := [.op (.mov 25 (.tmp 6)),
 .op (.mov 26 (.tmp 0)),
 .op (.len 27 true (.tmp 26)),
 .op (.bin 28 .lss (.tmp 25) (.tmp 27)),
 .kp [0,1,5,6,28]]
def f14r8 : L := (.one [.op (.ld 31 (some 9) (.tmp 5)),
 .op (.mov 32 (.tmp 0)),
 .op (.mov 33 (.tmp 6)),
 .op (.iad 34 14 (.tmp 32) (.tmp 33)),
 .op (.ld 35 (some 14) (.tmp 34)),
 .op (.mov 36 (.tmp 6)),
 .op (.mov 37 (.tmp 1)),
 .op (.len 38 true (.tmp 37)),
 .op (.bin 39 .lss (.tmp 36) (.tmp 38)),
 .op (.mov 40 (.tmp 39)),
 .sc 40 true 4,
 .g 40 true (.mov 41 (.tmp 1)),
 .g 40 true (.mov 42 (.tmp 6)),
 .g 40 true (.iad 43 1 (.tmp 41) (.tmp 42)),
 .g 40 true (.ld 44 none (.tmp 43)),
 .op (.pick 45 (.tmp 40) (.tmp 44) (.const (.bool false)))] (.alt (.one [.op (.call (some 46) 54 [(.tmp 31),(.tmp 35),(.tmp 45)]),
 .op (.new 7 43 [.int .i64 0,.int .i64 0,.int .i64 0,.int .i64 0,.int .i64 0,.int .i64 0,.int .i64 0,.int .i64 0,.int .i64 0,.int .i64 0,.int .i64 0,.bool false,.slice none 0 0,.slice none 0 0]),
 .op (.st 14 (.tmp 7) (.tmp 46)),
 .kp [0,1,5,6,7]] .nil) (.one [.op (.new 7 43 [.int .i64 0,.int .i64 0,.int .i64 0,.int .i64 0,.int .i64 0,.int .i64 0,.int .i64 0,.int .i64 0,.int .i64 0,.int .i64 0,.int .i64 0,.bool false,.slice none 0 0,.slice none 0 0]),
 .op (.call (some 46) 54 [(.tmp 31),(.tmp 35),(.tmp 45)]),
 .op (.st 14 (.tmp 7) (.tmp 46)),
 .kp [0,1,5,6,7]] .nil)))
def f14r9 : List I := [.op (.ld 47 (some 9) (.tmp 5)),
 .op (.call (some 48) 55 [(.tmp 47)]),
 .op (.new 8 116 [.int .i64 0,.int .i64 0,.int .i64 0,.int .i64 0,.int .i64 0,.int .i64 0,.slice none 0 0,.slice none 0 0,.slice none 0 0]),
 .op (.st 9 (.tmp 8) (.tmp 48)),
 .kp [0,1,5,6,7,8]]
def f14r10 : List I := [.op (.ld 50 (some 9) (.tmp 5)),
 .op (.ld 51 (some 14) (.tmp 7)),
 .op (.call (some 52) 56 [(.tmp 50),(.tmp 51)]),
 .op (.mov 49 (.tmp 52)),
 .op (.ext 53 (.tmp 49) 0),
 .op (.ext 54 (.tmp 49) 1),
 .op (.new 9 116 [.int .i64 0,.int .i64 0,.int .i64 0,.int .i64 0,.int .i64 0,.int .i64 0,.slice none 0 0,.slice none 0 0,.slice none 0 0]),
 .op (.new 10 47 [.int .i64 0,.slice none 0 0,.int .i64 0,.int .i64 0,.int .i64 0,.int .i64 0,.int .i64 0,.int .i64 0,.int .i64 0,.int .i64 0,.bool false]),
 .op (.st 9 (.tmp 9) (.tmp 53)),
 .op (.st 11 (.tmp 10) (.tmp 54)),
 .kp [0,1,5,6,7,8,9,10]]
def f14r11 : List I := [.op (.ld 56 (some 9) (.tmp 8)),
 .op (.ld 57 (some 14) (.tmp 7)),
 .op (.call (some 58) 57 [(.tmp 56),(.tmp 57)]),
 .op (.mov 55 (.tmp 58)),
 .op (.ext 59 (.tmp 55) 0),
 .op (.ext 60 (.tmp 55) 1),
 .op (.new 11 116 [.int .i64 0,.int .i64 0,.int .i64 0,.int .i64 0,.int .i64 0,.int .i64 0,.slice none 0 0,.slice none 0 0,.slice none 0 0]),
 .op (.new 12 47 [.int .i64 0,.slice none 0 0,.int .i64 0,.int .i64 0,.int .i64 0,.int .i64 0,.int .i64 0,.int .i64 0,.int .i64 0,.int .i64 0,.bool false]),
 .op (.st 9 (.tmp 11) (.tmp 59)),
 .op (.st 11 (.tmp 12) (.tmp 60)),
 .kp [0,1,5,6,8,9,10,11,12]]
def f14r12b : List I := [.op (.mov 77 (.tmp 76)),
 .sc 77 false 5,
 .g 77 false (.ld 78 (some 9) (.tmp 9)),
 .g 77 false (.ld 80 (some 9) (.tmp 11)),
 .g 77 false (.call (some 79) 60 [(.tmp 78)]),
 .g 77 false (.call (some 81) 61 [(.tmp 80)]),
 .g 77 false (.eqb 82 true (.tmp 79) (.tmp 81)),
 .op (.pick 83 (.tmp 77) (.const (.bool true)) (.tmp 82)),
 .kp [83,0,1,5,6,9,10,11]]
def f14r12a : List I := .op (.mov 71 (.tmp 70)) ::
 .sc 71 false 4 ::
 .g 71 false (.ld 72 (some 9) (.tmp 5)) ::
 .g 71 false (.ld 73 (some 9) (.tmp 8)) ::
 .g 71 false (.call (some 74) 58 [(.tmp 72),(.tmp 73)]) ::
 .g 71 false (.un 75 .not (.tmp 74)) ::
 .op (.pick 76 (.tmp 71) (.const (.bool true)) (.tmp 75)) ::
 .kp [76,0,1,5,6,9,10,11] ::
 f14r12b
def f14r12 : List I := .op (.ld 61 (some 9) (.tmp 9)) ::
 .op (.ld 62 (some 9) (.tmp 11)) ::
 .op (.call (some 63) 58 [(.tmp 61),(.tmp 62)]) ::
 .op (.un 64 .not (.tmp 63)) ::
 .op (.mov 65 (.tmp 64)) ::
 .sc 65 false 4 ::
 .g 65 false (.ld 66 (some 11) (.tmp 10)) ::
 .g 65 false (.ld 67 (some 11) (.tmp 12)) ::
 .g 65 false (.call (some 68) 59 [(.tmp 66),(.tmp 67)]) ::
 .g 65 false (.un 69 .not (.tmp 68)) ::
 .op (.pick 70 (.tmp 65) (.const (.bool true)) (.tmp 69)) ::
 .kp [70,0,1,5,6,8,9,10,11] ::
 f14r12a
def f14r13 : List I := [.op (.mov 4 (.const (.bool false))),
 .kp [4]]
def f14r14 : List I := [.op (.mov 13 (.const (.int .i64 0))),
 .kp [0,1,5,6,9,10,11,13]]
def f14r15 : List I := [.op (.mov 84 (.tmp 13)),
 .op (.fad 85 1 (.tmp 10)),
 .op (.ld 86 none (.tmp 85)),
 .op (.len 87 true (.tmp 86)),
 .op (.bin 88 .lss (.tmp 84) (.tmp 87)),
 .kp [0,1,5,6,9,10,11,13,88]]
def f14r16 : List I := [.op (.fad 91 1 (.tmp 10)),
 .op (.ld 92 none (.tmp 91)),
 .op (.mov 93 (.tmp 13)),
 .op (.bld 94 [.string ⟨#[]⟩,.string ⟨#[]⟩] []),
 .op (.iad 95 2 (.tmp 92) (.tmp 93)),
 .op (.st 2 (.tmp 95) (.tmp 94)),
 .kp [0,1,5,6,9,10,11,13]]
def f14r17 : List I := [.op (.mov 89 (.tmp 13)),
 .op (.bin 90 .add (.tmp 89) (.const (.int .i64 1))),
 .op (.mov 13 (.tmp 90)),
 .kp [0,1,5,6,9,10,11,13]]
def f14r18 : List I := [.op (.mov 14 (.const (.int .i64 0))),
 .kp [0,1,5,6,9,11,14]]
def f14r19 : List I := [.op (.mov 96 (.tmp 14)),
 .op (.fad 97 6 (.tmp 5)),
 .op (.ld 98 none (.tmp 97)),
 .op (.len 99 true (.tmp 98)),
 .op (.bin 100 .lss (.tmp 96) (.tmp 99)),
 .kp [0,1,5,6,9,11,14,100]]
def f14r20 : List I := [.op (.fad 103 6 (.tmp 5)),
 .op (.ld 104 none (.tmp 103)),
 .op (.mov 105 (.tmp 14)),
 .op (.bld 106 [.string ⟨#[]⟩,.slice none 0 0,.bool false,.int .i64 0,.int .i64 0,.int .i64 0,.int .i64 0,.int .i64 0,.int .i64 0,.int .i64 0,.bool false,.string ⟨#[]⟩] []),
 .op (.iad 107 12 (.tmp 104) (.tmp 105)),
 .op (.st 12 (.tmp 107) (.tmp 106)),
 .kp [0,1,5,6,9,11,14]]
def f14r21 : List I := [.op (.mov 101 (.tmp 14)),
 .op (.bin 102 .add (.tmp 101) (.const (.int .i64 1))),
 .op (.mov 14 (.tmp 102)),
 .kp [0,1,5,6,9,11,14]]
def f14r22 : List I := [.op (.ld 108 (some 9) (.tmp 9)),
 .op (.ld 109 (some 9) (.tmp 11)),
 .op (.call (some 110) 58 [(.tmp 108),(.tmp 109)]),
 .op (.un 111 .not (.tmp 110)),
 .kp [0,1,5,6,9,111]]
def f14r23 : List I := [.op (.mov 4 (.const (.bool false))),
 .kp [4]]
def f14r24 : List I := [.op (.ld 112 (some 9) (.tmp 9)),
 .op (.st 9 (.tmp 5) (.tmp 112)),
 .kp [0,1,5,6]]
def f14r25 : List I := [.op (.mov 29 (.tmp 6)),
 .op (.bin 30 .add (.tmp 29) (.const (.int .i64 1))),
 .op (.mov 6 (.tmp 30)),
 .kp [0,1,5,6]]
def f14r26 : List I := [.op (.mov 4 (.const (.bool true))),
 .kp [4]]
def f14c3 : C := (.seq (.reg f14r2) .ret)
def f14c6 : C := (.seq (.reg f14r4) .ret)
def f14c19 : C := (.seq (.reg f14r13) .ret)
def f14c25 : C := (.reg f14r16)
def f14c26 : C := (.reg f14r17)
def f14c24 : C := (.seq (.block 3 f14c25) f14c26)
def f14c23 : C := (.seq (.cond (.tmp 88) .skip (.exit 2)) f14c24)
def f14c22 : C := (.seq (.reg f14r15) f14c23)
def f14c32 : C := (.reg f14r20)
def f14c33 : C := (.reg f14r21)
def f14c31 : C := (.seq (.block 5 f14c32) f14c33)
def f14c30 : C := (.seq (.cond (.tmp 100) .skip (.exit 4)) f14c31)
def f14c29 : C := (.seq (.reg f14r19) f14c30)
def f14c36 : C := (.seq (.reg f14r23) .ret)
def f14c37 : C := (.reg f14r24)
def f14c35 : C := (.seq (.cond (.tmp 111) f14c36 .skip) f14c37)
def f14c34 : C := (.seq (.reg f14r22) f14c35)
def f14c28 : C := (.seq (.block 4 (.loop f14c29)) f14c34)
def f14c27 : C := (.seq (.reg f14r18) f14c28)
def f14c21 : C := (.seq (.block 2 (.loop f14c22)) f14c27)
def f14c20 : C := (.seq (.reg f14r14) f14c21)
def f14c18 : C := (.seq (.cond (.tmp 83) f14c19 .skip) f14c20)
def f14c17 : C := (.seq (.drw f14r12) f14c18)
def f14c16 : C := (.seq (.reg f14r11) f14c17)
def f14c15 : C := (.seq (.reg f14r10) f14c16)
def f14c14 : C := (.seq (.reg f14r9) f14c15)
def f14c13 : C := (.seq (.drt f14r8) f14c14)
def f14c38 : C := (.reg f14r25)
def f14c12 : C := (.seq (.block 1 f14c13) f14c38)
def f14c11 : C := (.seq (.cond (.tmp 28) .skip (.exit 0)) f14c12)
def f14c10 : C := (.seq (.reg f14r7) f14c11)
def f14c39 : C := (.seq (.reg f14r26) .ret)
def f14c9 : C := (.seq (.block 0 (.loop f14c10)) f14c39)
def f14c8 : C := (.seq (.reg f14r6) f14c9)
def f14c7 : C := (.seq (.reg f14r5) f14c8)
def f14c5 : C := (.seq (.cond (.tmp 24) f14c6 .skip) f14c7)
def f14c4 : C := (.seq (.reg f14r3) f14c5)
def f14c2 : C := (.seq (.cond (.tmp 16) f14c3 .skip) f14c4)
def f14c1 : C := (.seq (.reg f14r1) f14c2)
def f14c0 : C := (.seq (.reg f14r0) f14c1)
theorem f14cmp : cmpF Try.prog Try.f14 [.l [.o 0,.kp [0,1]],
 .l [.o 0,.o 1,.kp [0,1,16]],
 .l [.o 0,.kp [4]],
 .l [.o 0,.o 1,.o 2,.o 3,.sc 20 false 3,.o 4,.o 5,.o 6,.o 7,.kp [24,0,1]],
 .l [.o 0,.kp [4]],
 .l [.o 0,.kp [0,1,5]],
 .l [.o 0,.kp [0,1,5,6]],
 .l [.o 0,.o 1,.o 2,.o 3,.kp [0,1,5,6,28]],
 .t (.one [.o 0,.o 1,.o 2,.o 3,.o 4,.o 5,.o 6,.o 7,.o 8,.o 9,.sc 40 true 4,.o 10,.o 11,.o 12,.o 13,.o 14] (.alt (.one [.o 15,.o 16,.o 17,.kp [0,1,5,6,7]] .nil) (.one [.o 16,.o 15,.o 17,.kp [0,1,5,6,7]] .nil))),
 .l [.o 0,.o 1,.o 2,.o 3,.kp [0,1,5,6,7,8]],
 .l [.o 0,.o 1,.o 2,.o 3,.o 4,.o 5,.o 6,.o 7,.o 8,.o 9,.kp [0,1,5,6,7,8,9,10]],
 .l [.o 0,.o 1,.o 2,.o 3,.o 4,.o 5,.o 6,.o 7,.o 8,.o 9,.kp [0,1,5,6,8,9,10,11,12]],
 .l [.o 0,.o 1,.o 2,.o 3,.o 4,.sc 65 false 4,.o 5,.o 6,.o 7,.o 8,.o 9,.kp [70,0,1,5,6,8,9,10,11],.o 10,.sc 71 false 4,.o 11,.o 12,.o 13,.o 14,.o 15,.kp [76,0,1,5,6,9,10,11],.o 16,.sc 77 false 5,.o 17,.o 19,.o 18,.o 20,.o 21,.o 22,.kp [83,0,1,5,6,9,10,11]],
 .l [.o 0,.kp [4]],
 .l [.o 0,.kp [0,1,5,6,9,10,11,13]],
 .l [.o 0,.o 1,.o 2,.o 3,.o 4,.kp [0,1,5,6,9,10,11,13,88]],
 .l [.o 0,.o 1,.o 2,.o 3,.o 4,.o 5,.kp [0,1,5,6,9,10,11,13]],
 .l [.o 0,.o 1,.o 2,.kp [0,1,5,6,9,10,11,13]],
 .l [.o 0,.kp [0,1,5,6,9,11,14]],
 .l [.o 0,.o 1,.o 2,.o 3,.o 4,.kp [0,1,5,6,9,11,14,100]],
 .l [.o 0,.o 1,.o 2,.o 3,.o 4,.o 5,.kp [0,1,5,6,9,11,14]],
 .l [.o 0,.o 1,.o 2,.kp [0,1,5,6,9,11,14]],
 .l [.o 0,.o 1,.o 2,.o 3,.kp [0,1,5,6,9,111]],
 .l [.o 0,.kp [4]],
 .l [.o 0,.o 1,.kp [0,1,5,6]],
 .l [.o 0,.o 1,.o 2,.kp [0,1,5,6]],
 .l [.o 0,.kp [4]]] = some (f14c0,[.tmp 4]) := by kernel_rfl
theorem f14ok {args : List Value} {h : Heap} {R : Value → Heap → Prop} (hn : args.length ≤ 113) (H : wC Try.prog f14c0 (endW [.tmp 4] R) (envOf 0 args) h) : CallsH Try.prog 14 args h R :=
 fn_ok2 Try.func14 f14cmp hn H
section
variable {P : Program} {Q : X → Env → Heap → Prop} {σ : Env} {h : Heap}
theorem f14c6_eq : wC P f14c6 Q σ h = (wL P none f14r4 0 (fun σ h => Q .ret σ h) σ h) := rfl
theorem f14c25_eq : wC P f14c25 Q σ h = (wL P none f14r16 0 (fun σ h => Q .normal σ h) σ h) := rfl
theorem f14c26_eq : wC P f14c26 Q σ h = (wL P none f14r17 0 (fun σ h => Q .normal σ h) σ h) := rfl
theorem f14c24_eq : wC P f14c24 Q σ h = (wC P f14c25 (X.inBlock 3 (X.then (fun σ h => wC P f14c26 Q σ h) Q)) σ h) := rfl
theorem f14c23_eq : wC P f14c23 Q σ h = (bd (evO σ (.tmp 88)) fun v => bd (asB v) fun t => br t (wC P f14c24 Q σ h) (Q (.exit 2) σ h)) := rfl
theorem f14c22_eq : wC P f14c22 Q σ h = (wL P none f14r15 0 (fun σ h => wC P f14c23 Q σ h) σ h) := rfl
theorem f14c32_eq : wC P f14c32 Q σ h = (wL P none f14r20 0 (fun σ h => Q .normal σ h) σ h) := rfl
theorem f14c33_eq : wC P f14c33 Q σ h = (wL P none f14r21 0 (fun σ h => Q .normal σ h) σ h) := rfl
theorem f14c31_eq : wC P f14c31 Q σ h = (wC P f14c32 (X.inBlock 5 (X.then (fun σ h => wC P f14c33 Q σ h) Q)) σ h) := rfl
theorem f14c30_eq : wC P f14c30 Q σ h = (bd (evO σ (.tmp 100)) fun v => bd (asB v) fun t => br t (wC P f14c31 Q σ h) (Q (.exit 4) σ h)) := rfl
theorem f14c29_eq : wC P f14c29 Q σ h = (wL P none f14r19 0 (fun σ h => wC P f14c30 Q σ h) σ h) := rfl
theorem f14c37_eq : wC P f14c37 Q σ h = (wL P none f14r24 0 (fun σ h => Q .normal σ h) σ h) := rfl
theorem f14c35_eq : wC P f14c35 Q σ h = (bd (evO σ (.tmp 111)) fun v => bd (asB v) fun t => br t (wC P f14c36 (X.then (fun σ h => wC P f14c37 Q σ h) Q) σ h) (wC P f14c37 Q σ h)) := rfl
theorem f14c34_eq : wC P f14c34 Q σ h = (wL P none f14r22 0 (fun σ h => wC P f14c35 Q σ h) σ h) := rfl
theorem f14c28_eq : wC P f14c28 Q σ h = (loopW (wC P f14c29) (X.inBlock 4 (X.then (fun σ h => wC P f14c34 Q σ h) Q)) σ h) := rfl
theorem f14c27_eq : wC P f14c27 Q σ h = (wL P none f14r18 0 (fun σ h => wC P f14c28 Q σ h) σ h) := rfl
theorem f14c21_eq : wC P f14c21 Q σ h = (loopW (wC P f14c22) (X.inBlock 2 (X.then (fun σ h => wC P f14c27 Q σ h) Q)) σ h) := rfl
theorem f14c20_eq : wC P f14c20 Q σ h = (wL P none f14r14 0 (fun σ h => wC P f14c21 Q σ h) σ h) := rfl
theorem f14c18_eq : wC P f14c18 Q σ h = (bd (evO σ (.tmp 83)) fun v => bd (asB v) fun t => br t (wC P f14c19 (X.then (fun σ h => wC P f14c20 Q σ h) Q) σ h) (wC P f14c20 Q σ h)) := rfl
theorem f14c17_eq : wC P f14c17 Q σ h = (drwW P f14r12 (fun σ h => wC P f14c18 Q σ h) σ h) := rfl
theorem f14c16_eq : wC P f14c16 Q σ h = (wL P none f14r11 0 (fun σ h => wC P f14c17 Q σ h) σ h) := rfl
theorem f14c15_eq : wC P f14c15 Q σ h = (wL P none f14r10 0 (fun σ h => wC P f14c16 Q σ h) σ h) := rfl
theorem f14c14_eq : wC P f14c14 Q σ h = (wL P none f14r9 0 (fun σ h => wC P f14c15 Q σ h) σ h) := rfl
theorem f14c13_eq : wC P f14c13 Q σ h = (drtW P f14r8 (fun σ h => wC P f14c14 Q σ h) σ h) := rfl
theorem f14c38_eq : wC P f14c38 Q σ h = (wL P none f14r25 0 (fun σ h => Q .normal σ h) σ h) := rfl
theorem f14c12_eq : wC P f14c12 Q σ h = (wC P f14c13 (X.inBlock 1 (X.then (fun σ h => wC P f14c38 Q σ h) Q)) σ h) := rfl
theorem f14c11_eq : wC P f14c11 Q σ h = (bd (evO σ (.tmp 28)) fun v => bd (asB v) fun t => br t (wC P f14c12 Q σ h) (Q (.exit 0) σ h)) := rfl
theorem f14c10_eq : wC P f14c10 Q σ h = (wL P none f14r7 0 (fun σ h => wC P f14c11 Q σ h) σ h) := rfl
theorem f14c39_eq : wC P f14c39 Q σ h = (wL P none f14r26 0 (fun σ h => Q .ret σ h) σ h) := rfl
theorem f14c9_eq : wC P f14c9 Q σ h = (loopW (wC P f14c10) (X.inBlock 0 (X.then (fun σ h => wC P f14c39 Q σ h) Q)) σ h) := rfl
theorem f14c8_eq : wC P f14c8 Q σ h = (wL P none f14r6 0 (fun σ h => wC P f14c9 Q σ h) σ h) := rfl
theorem f14c7_eq : wC P f14c7 Q σ h = (wL P none f14r5 0 (fun σ h => wC P f14c8 Q σ h) σ h) := rfl
theorem f14c5_eq : wC P f14c5 Q σ h = (bd (evO σ (.tmp 24)) fun v => bd (asB v) fun t => br t (wC P f14c6 (X.then (fun σ h => wC P f14c7 Q σ h) Q) σ h) (wC P f14c7 Q σ h)) := rfl
theorem f14c4_eq : wC P f14c4 Q σ h = (wL P none f14r3 0 (fun σ h => wC P f14c5 Q σ h) σ h) := rfl
theorem f14c2_eq : wC P f14c2 Q σ h = (bd (evO σ (.tmp 16)) fun v => bd (asB v) fun t => br t (wC P f14c3 (X.then (fun σ h => wC P f14c4 Q σ h) Q) σ h) (wC P f14c4 Q σ h)) := rfl
theorem f14c1_eq : wC P f14c1 Q σ h = (wL P none f14r1 0 (fun σ h => wC P f14c2 Q σ h) σ h) := rfl
theorem f14c0_eq : wC P f14c0 Q σ h = (wL P none f14r0 0 (fun σ h => wC P f14c1 Q σ h) σ h) := rfl
end
end Go.Proofs.Ytefghfgmkndikaa
namespace Go.AX
open Go
def eBl (b : Bool) : List Value := [.bool b]
theorem eBl_len (b : Bool) : (eBl b).length = 1 := rfl
theorem zPai_one : ∀ v ∈ (Value.agg #[.string ⟨#[]⟩,.string ⟨#[]⟩]).cells.toList,v.oneCell' = true := ePai_one ⟨noB,noB⟩
end Go.AX
namespace Go.Proofs.Ytefghfgmkndikaa
open Go Go.AX
def zCV : CV := ⟨noB,none,0,0,false,noLock⟩
set_option maxHeartbeats 16000000 in
theorem allPt_ok {a ao : Option Addr} {n no : Nat} (l : List Cmd) (bs : List Bool) (h : Heap) (S : SlM (fun b => b < h.size) h a l) (F : LenM l) (So : SlF (fun b => b < h.size) h eBl ao bs) (hbn : bs.length ≤ maxLen) {R : Value → Heap → Prop}
  (hR : ∀ h',Ext h h' → R (.bool true) h') : CallsH Try.prog 14 [.slice a l.length n,.slice ao bs.length no] h R := by
 have hbig : big = 1000000 := rfl
 unfold maxLen at hbn
 refine f14ok (by simp) ?_
 (try simp (maxSteps:=1000000) (disch:=first|exact Lb rfl|omega) only [AXS,AXB,J.dst,reduceIte,Z1,Z2,Z3,Z4,Z5]); rw [f14c0_eq]; (try simp (maxSteps:=1000000) (disch:=first|exact Lb rfl|omega) only [AXS,AXB,J.dst,reduceIte,Z1,Z2,Z3,Z4,Z5,f14r0]); rw [f14c1_eq]; (try simp (maxSteps:=1000000) (disch:=first|exact Lb rfl|omega) only [AXS,AXB,J.dst,reduceIte,Z1,Z2,Z3,Z4,Z5,f14r1])
 refine begunP_ok _ ?_
 intro h1 x1
 refine ⟨trivial,?_⟩
 (try simp (maxSteps:=1000000) (disch:=first|exact Lb rfl|omega) only [AXS,AXB,J.dst,reduceIte,Z1,Z2,Z3,Z4,Z5]); rw [f14c2_eq]; (try simp (maxSteps:=1000000) (disch:=first|exact Lb rfl|omega) only [AXS,AXB,J.dst,reduceIte,Z1,Z2,Z3,Z4,Z5])
 rw [f14c4_eq]
 simp (maxSteps:=1000000) (disch:=first|exact Lb rfl|omega) only [AXJ,AXS,AXB,J.dst,reduceIte,Z1,Z2,Z3,Z4,Z5,f14r3]
 refine lightP_ok l 60 _ (S.ext x1) F ?_
 intro bl h2 hbl x2
 refine ⟨trivial,?_⟩
 have x02 := x1.trans x2
 try simp (maxSteps:=1000000) (disch:=first|exact Lb rfl|omega) only [AXJ,AXS,AXB,J.dst,reduceIte,Z1,Z2,Z3,Z4,Z5]
 (try simp (maxSteps:=1000000) (disch:=first|exact Lb rfl|omega) only [AXS,AXB,J.dst,reduceIte,Z1,Z2,Z3,Z4,Z5]); rw [f14c5_eq]; (try simp (maxSteps:=1000000) (disch:=first|exact Lb rfl|omega) only [AXS,AXB,J.dst,reduceIte,Z1,Z2,Z3,Z4,Z5])
 refine ⟨fun hh => ?_,fun hh => ?_⟩
 ·(try simp (maxSteps:=1000000) (disch:=first|exact Lb rfl|omega) only [AXS,AXB,J.dst,reduceIte,Z1,Z2,Z3,Z4,Z5]); rw [f14c6_eq]; (try simp (maxSteps:=1000000) (disch:=first|exact Lb rfl|omega) only [AXS,AXB,J.dst,reduceIte,Z1,Z2,Z3,Z4,Z5,f14r4])
  exact hR _ x02
 have hbt : bl = true := by
  cases bl with
  | true => rfl
  | false => simp at hh
 obtain ⟨hL,hF⟩ := hbl hbt
 clear hh hbl
 have z02 := x02.size
 (try simp (maxSteps:=1000000) (disch:=first|exact Lb rfl|omega) only [AXS,AXB,J.dst,reduceIte,Z1,Z2,Z3,Z4,Z5]); rw [f14c7_eq]; (try simp (maxSteps:=1000000) (disch:=first|exact Lb rfl|omega) only [AXS,AXB,J.dst,reduceIte,Z1,Z2,Z3,Z4,Z5,f14r5])
 refine wL_newN ?_; rintro b5 h3 x3 s3 hb5 (B5 : Blk _ _ _ (ePr zPr))
 (try simp (maxSteps:=1000000) (disch:=first|exact Lb rfl|omega) only [AXS,AXB,J.dst,reduceIte,Z1,Z2,Z3,Z4,Z5]); rw [f14c8_eq]; (try simp (maxSteps:=1000000) (disch:=first|exact Lb rfl|omega) only [AXS,AXB,J.dst,reduceIte,Z1,Z2,Z3,Z4,Z5,f14r6])
 rw [f14c9_eq]
 refine loop_in (fun m σ h' => Ext h2 h' ∧ ∃ (k : Nat) (pv : PrV) (p : Prt),k + m = l.length ∧ Blk h' b5 116 (ePr pv) ∧ PrF (b5 + 1) h' pv p ∧ GdP (100 * k) p ∧
   σ = [(0,.slice a l.length n),(1,.slice ao bs.length no),(5,ptr b5 0),(6,vi k)]) l.length ⟨x3,0,zPr,emptyP,by omega,B5,⟨rfl,rfl,rfl,rfl,OwnC.nil _ _,Own.nil _ _ _ _,Own.nil _ _ _ _⟩,by simpa using emptyG,rfl⟩ ?_
 rintro m σ h4 ⟨x24,k,pv,p,hk,B5,hp,hg,rfl⟩ Q' hnx hex hrt _
 have x04 := x02.trans x24
 (try simp (maxSteps:=1000000) (disch:=first|exact Lb rfl|omega) only [AXS,AXB,J.dst,reduceIte,Z1,Z2,Z3,Z4,Z5]); rw [f14c10_eq]; (try simp (maxSteps:=1000000) (disch:=first|exact Lb rfl|omega) only [AXS,AXB,J.dst,reduceIte,Z1,Z2,Z3,Z4,Z5,f14r7]); rw [f14c11_eq]; (try simp (maxSteps:=1000000) (disch:=first|exact Lb rfl|omega) only [AXS,AXB,J.dst,reduceIte,Z1,Z2,Z3,Z4,Z5])
 refine ⟨fun hh => ?_,fun hh => ?_⟩
 ·have hkl : k < l.length := by have := of_decide_eq_true hh; omega
  obtain ⟨c0,hx⟩ := get_ex hkl
  obtain ⟨b',o,cv,rfl,_,hrow,hcr⟩ := (S.ext x04).elem hx
  have hL0 := hF c0 (List.mem_of_getElem? hx)
  have hb'l := hrow.lt (by rw [eCm_len]; omega)
  have l5 := B5.lt
  have z24 := x24.size
  have z04 := x04.size
  have hpr := hp.prr
  have hcar := hp.cells.row
  try simp (maxSteps:=1000000) (disch:=first|exact Lb rfl|omega) only [AXS,AXB,J.dst,reduceIte,Z1,Z2,Z3,Z4,Z5]
  rw [f14c12_eq,f14c13_eq]
  have app8 : ∀ (ot : Bool) h5 b7 cv',Ext h4 h5 → Blk h5 b7 43 (eCm cv') → h4.size ≤ b7 → CmR (fun b => b < h.size) h5 cv' (if ot = true then c0 else ownM p c0) →
    wC Try.prog f14c14 (X.inBlock 1 (X.then (fun σ h => wC Try.prog f14c38 Q' σ h) Q')) [(0,.slice (some ⟨b',o,none⟩) l.length n),(1,.slice ao bs.length no),(5,ptr b5 0),(6,vi k),(7,ptr b7 0)] h5 := by
   intro ot h5 b7 cv' x45 B7 l7 C5
   generalize hcc : (if ot = true then c0 else ownM p c0) = c at *
   have hcl : c.spans.length < 100 ∧ c.writes.length < 100 := by
    subst hcc
    split
    ·exact hL0
    ·exact hL0
   have w7 := B7.lt
   have B5 := B5.ext x45
   have hp5 := hpr.ext x45
   have z45 := x45.size
   (try simp (maxSteps:=1000000) (disch:=first|exact Lb rfl|omega) only [AXS,AXB,J.dst,reduceIte,Z1,Z2,Z3,Z4,Z5]); rw [f14c14_eq]; (try simp (maxSteps:=1000000) (disch:=first|exact Lb rfl|omega) only [AXS,AXB,J.dst,reduceIte,Z1,Z2,Z3,Z4,Z5,f14r9,B5.rd,ePr])
   refine rpartC_ok pv p _ hp5 hg.sz (by omega) ?_
   intro pv8 lo8 hc8 h6 O8 x6
   refine ⟨trivial,?_⟩
   replace B5 := B5.ext x6; replace B7 := B7.ext x6
   try simp (maxSteps:=1000000) (disch:=first|exact Lb rfl|omega) only [AXS,AXB,J.dst,reduceIte,Z1,Z2,Z3,Z4,Z5]
   refine wL_newN ?_; rintro b8 h7 x7 s7 hb8 B8
   replace B5 := B5.ext x7; replace B7 := B7.ext x7
   try simp (maxSteps:=1000000) (disch:=first|exact Lb rfl|omega) only [AXS,AXB,J.dst,reduceIte,Z1,Z2,Z3,Z4,Z5]
   refine wL_stN rfl rfl rfl B8 (by decide) (ePr_one pv8) ?_
   rintro h8 u8 (B8 : Blk _ _ _ (ePr pv8))
   have z6 := x6.size
   have z8 := u8.size
   have m5 := B5.lt
   have m7 := B7.lt
   replace B5 := u8.blk B5 (by omega)
   replace B7 := u8.blk B7 (by omega)
   have x68 := u8.ext x7 (by omega)
   have x58 := x6.trans x68
   have P8 := O8.fin.prr.ext x68
   have hp8 := hp5.ext x58
   have C8 := C5.ext x58
   (try simp (maxSteps:=1000000) (disch:=first|exact Lb rfl|omega) only [AXS,AXB,J.dst,reduceIte,Z1,Z2,Z3,Z4,Z5]); rw [f14c15_eq]; (try simp (maxSteps:=1000000) (disch:=first|exact Lb rfl|omega) only [AXS,AXB,J.dst,reduceIte,Z1,Z2,Z3,Z4,Z5,f14r10,B5.rd,ePr,B7.rd,eCm])
   refine apply_ok2 (n := 100 * k) pv p cv' c _ hp8 C8 hg.sz (by omega) (by omega) hg.e0 ?_
   intro pa ra h9 loa hca Oa Aa Ka x9
   refine ⟨trivial,?_⟩
   replace B5 := B5.ext x9; replace B7 := B7.ext x9; replace B8 := B8.ext x9
   try simp (maxSteps:=1000000) (disch:=first|exact Lb rfl|omega) only [AXS,AXB,J.dst,reduceIte,Z1,Z2,Z3,Z4,Z5]
   refine wL_newN ?_; rintro b9 h10 x10 s10 hb9 B9
   replace B5 := B5.ext x10; replace B7 := B7.ext x10; replace B8 := B8.ext x10
   try simp (maxSteps:=1000000) (disch:=first|exact Lb rfl|omega) only [AXS,AXB,J.dst,reduceIte,Z1,Z2,Z3,Z4,Z5]
   refine wL_newN ?_; rintro b10 h11 x11 s11 hb10 B10
   replace B5 := B5.ext x11; replace B7 := B7.ext x11; replace B8 := B8.ext x11; replace B9 := B9.ext x11
   try simp (maxSteps:=1000000) (disch:=first|exact Lb rfl|omega) only [AXS,AXB,J.dst,reduceIte,Z1,Z2,Z3,Z4,Z5]
   refine wL_stN rfl rfl rfl B9 (by decide) (ePr_one pa) ?_
   rintro h12 u12 (B9 : Blk _ _ _ (ePr pa))
   try simp (maxSteps:=1000000) (disch:=first|exact Lb rfl|omega) only [AXS,AXB,J.dst,reduceIte,Z1,Z2,Z3,Z4,Z5]
   refine wL_stN rfl rfl rfl (u12.blk B10 (by omega)) (by decide) (eRp_one ra) ?_
   rintro h13 u13 (B10 : Blk _ _ _ (eRp ra))
   have z9 := x9.size
   have z12 := u12.size
   have z13 := u13.size
   have x913 := u13.ext (u12.ext (x10.trans x11) (by omega)) (by omega)
   replace B9 := u13.blk B9 (by omega)
   replace B5 := u13.blk (u12.blk B5 (by omega)) (by omega)
   replace B7 := u13.blk (u12.blk B7 (by omega)) (by omega)
   replace B8 := u13.blk (u12.blk B8 (by omega)) (by omega)
   have x813 := x9.trans x913
   have hob := Ka.pairs.ob
   have hroom := Ka.pairs.room
   have hpn := Ka.pn
   (try simp (maxSteps:=1000000) (disch:=first|exact Lb rfl|omega) only [AXS,AXB,J.dst,reduceIte,Z1,Z2,Z3,Z4,Z5]); rw [f14c16_eq]; (try simp (maxSteps:=1000000) (disch:=first|exact Lb rfl|omega) only [AXS,AXB,J.dst,reduceIte,Z1,Z2,Z3,Z4,Z5,f14r11,B8.rd,ePr,B7.rd,eCm])
   refine rapply_ok (n := 100 * k) pv8 p cv' c _ (P8.ext x813) (C8.ext x813) hg (by omega) (by omega) ?_
   intro pb rb h14 Pb Kb x14
   refine ⟨trivial,?_⟩
   replace B5 := B5.ext x14; replace B8 := B8.ext x14; replace B9 := B9.ext x14; replace B10 := B10.ext x14
   try simp (maxSteps:=1000000) (disch:=first|exact Lb rfl|omega) only [AXS,AXB,J.dst,reduceIte,Z1,Z2,Z3,Z4,Z5]
   refine wL_newN ?_; rintro b11 h15 x15 s15 hb11 B11
   replace B5 := B5.ext x15; replace B8 := B8.ext x15; replace B9 := B9.ext x15; replace B10 := B10.ext x15
   try simp (maxSteps:=1000000) (disch:=first|exact Lb rfl|omega) only [AXS,AXB,J.dst,reduceIte,Z1,Z2,Z3,Z4,Z5]
   refine wL_newN ?_; rintro b12 h16 x16 s16 hb12 B12
   replace B5 := B5.ext x16; replace B8 := B8.ext x16; replace B9 := B9.ext x16; replace B10 := B10.ext x16; replace B11 := B11.ext x16
   try simp (maxSteps:=1000000) (disch:=first|exact Lb rfl|omega) only [AXS,AXB,J.dst,reduceIte,Z1,Z2,Z3,Z4,Z5]
   refine wL_stN rfl rfl rfl B11 (by decide) (ePr_one pb) ?_
   rintro h17 u17 (B11 : Blk _ _ _ (ePr pb))
   try simp (maxSteps:=1000000) (disch:=first|exact Lb rfl|omega) only [AXS,AXB,J.dst,reduceIte,Z1,Z2,Z3,Z4,Z5]
   refine wL_stN rfl rfl rfl (u17.blk B12 (by omega)) (by decide) (eRp_one rb) ?_
   rintro h18 u18 (B12 : Blk _ _ _ (eRp rb))
   have z14 := x14.size
   have z17 := u17.size
   have z18 := u18.size
   have x1418 := u18.ext (u17.ext (x15.trans x16) (by omega)) (by omega)
   replace B11 := u18.blk B11 (by omega)
   replace B5 := u18.blk (u17.blk B5 (by omega)) (by omega)
   replace B8 := u18.blk (u17.blk B8 (by omega)) (by omega)
   replace B9 := u18.blk (u17.blk B9 (by omega)) (by omega)
   replace B10 := u18.blk (u17.blk B10 (by omega)) (by omega)
   have x1318 := x14.trans x1418
   have gq := applyG (c := c) hg hcl
   generalize (applyP p c).1 = q at *
   generalize (applyP p c).2 = r at *
   have hrp : r.pairs.length ≤ maxLen := by omega
   have PA18 := (Oa.exts (x913.trans x1318)).fin.prr
   have PB18 := Pb.prr.ext x1418
   have KA18 := (SlF.of_own Ka.pairs Ka.pn).ext (x913.trans x1318)
   have KB18 := (SlF.of_own Kb.pairs Kb.pn).ext x1418
   have hp18 := hp8.ext (x813.trans x1318)
   have P818 := P8.ext (x813.trans x1318)
   obtain ⟨q1,q2,q3,q4,q5,q6⟩ := szAll gq.sz.cells.sz (by omega)
   have gqr := gq.sz.records
   have gqd := gq.sz.done
   have rcap := Pb.records.room
   have dcap := Pb.done.room
   have hpbr := Pb.rn
   have hpbd := Pb.dn
   have n5 := B5.lt
   have n8 := B8.lt
   have n9 := B9.lt
   have n10 := B10.lt
   have n11 := B11.lt
   have n12 := B12.lt
   try simp (maxSteps:=1000000) (disch:=first|exact Lb rfl|omega) only [AXS,AXB,J.dst,reduceIte,Z1,Z2,Z3,Z4,Z5]
   rw [f14c17_eq]
   refine drw_lt ?_
   simp (maxSteps:=1000000) (disch:=first|exact Lb rfl|omega) only [AXJ,AXS,AXB,J.dst,reduceIte,Z1,Z2,Z3,Z4,Z5,↓br_TT,↓br_TF,↓br_FT,↓br_FF,f14r12,B9.rd,B11.rd,ePr]
   repeat (with_reducible refine And.intro (by intros; omega) ?_)
   refine samePrt_ok pa pb q _ PA18 PB18 gq.sz (by omega) ?_
   intro h19 x19
   refine ⟨kp_ext (Nat.le_refl _) x19,?_⟩
   simp (maxSteps:=1000000) (disch:=first|exact Lb rfl|omega) only [AXJ,AXS,AXB,J.dst,reduceIte,Z1,Z2,Z3,Z4,Z5,↓br_TT,↓br_TF,↓br_FT,↓br_FF,B10.rd,B12.rd,eRp]
   repeat (with_reducible refine And.intro (by intros; omega) ?_)
   refine sameRep_ok ra rb r _ Ka.s Ka.pn (KA18.ext x19) Kb.s Kb.pn (KB18.ext x19) hrp ?_
   intro h20 x20
   refine ⟨kp_ext x19.size x20,?_⟩
   try simp (maxSteps:=1000000) (disch:=first|exact Lb rfl|omega) only [AXJ,AXS,AXB,J.dst,reduceIte,Z1,Z2,Z3,Z4,Z5,↓br_TT,↓br_TF,↓br_FT,↓br_FF,Bool.not_true]
   simp (maxSteps:=1000000) (disch:=first|exact Lb rfl|omega) only [AXJ,AXS,AXB,J.dst,reduceIte,Z1,Z2,Z3,Z4,Z5,↓br_TT,↓br_TF,↓br_FT,↓br_FF,f14r12a,B5.rd,B8.rd,ePr]
   repeat (with_reducible refine And.intro (by intros; omega) ?_)
   have x1820 := x19.trans x20
   refine samePrt_ok pv pv8 p _ (hp18.ext x1820) (P818.ext x1820) hg.sz (by omega) ?_
   intro h21 x21
   refine ⟨kp_ext x1820.size x21,?_⟩
   have x1821 := x1820.trans x21
   try simp (maxSteps:=1000000) (disch:=first|exact Lb rfl|omega) only [AXJ,AXS,AXB,J.dst,reduceIte,Z1,Z2,Z3,Z4,Z5,↓br_TT,↓br_TF,↓br_FT,↓br_FF,Bool.not_true]
   simp (maxSteps:=1000000) (disch:=first|exact Lb rfl|omega) only [AXJ,AXS,AXB,J.dst,reduceIte,Z1,Z2,Z3,Z4,Z5,↓br_TT,↓br_TF,↓br_FT,↓br_FF,f14r12b,B9.rd,B11.rd,ePr]
   repeat (with_reducible refine And.intro (by intros; omega) ?_)
   refine mayM_ok pa q _ (PA18.ext x1821) q5 q6 (by omega) (by omega) ?_
   intro m1 h22 hm1 x22
   refine ⟨kp_ext x1821.size x22,?_⟩
   have x1822 := x1821.trans x22
   try simp (maxSteps:=1000000) (disch:=first|exact Lb rfl|omega) only [AXJ,AXS,AXB,J.dst,reduceIte,Z1,Z2,Z3,Z4,Z5]
   refine rmayM_ok pb q _ (PB18.ext x1822) q5 q6 (by omega) (by omega) (by omega) (by omega) ?_
   intro m2 h23 hm2 x23
   refine ⟨kp_ext x1822.size x23,?_⟩
   have x1823 := x1822.trans x23
   have hmm : m1 = m2 := by
    cases m1 <;> cases m2 <;> first | rfl | (have := hm1.1 rfl; have := hm2.2 this; cases this) | (have := hm2.1 rfl; have := hm1.2 this; cases this)
   subst hmm
   try simp (maxSteps:=1000000) (disch:=first|exact Lb rfl|omega) only [AXJ,AXS,AXB,J.dst,reduceIte,Z1,Z2,Z3,Z4,Z5,↓br_TT,↓br_TF,↓br_FT,↓br_FF,Bool.not_true]
   rw [f14c18_eq]
   try simp (maxSteps:=1000000) (disch:=first|exact Lb rfl|omega) only [AXS,AXB,J.dst,reduceIte,Z1,Z2,Z3,Z4,Z5]
   replace B5 := B5.ext x1823; replace B9 := B9.ext x1823; replace B10 := B10.ext x1823; replace B11 := B11.ext x1823
   have z1823 := x1823.size
   have Ka23 := Ka.pairs.ext ((x913.trans x1318).trans x1823)
   have x423 : Ext h4 h23 := (((x45.trans x58).trans x813).trans x1318).trans x1823
   (try simp (maxSteps:=1000000) (disch:=first|exact Lb rfl|omega) only [AXS,AXB,J.dst,reduceIte,Z1,Z2,Z3,Z4,Z5]); rw [f14c20_eq]; (try simp (maxSteps:=1000000) (disch:=first|exact Lb rfl|omega) only [AXS,AXB,J.dst,reduceIte,Z1,Z2,Z3,Z4,Z5,f14r14])
   rw [f14c21_eq]
   refine loop_in (fun m σ h' => Gr (ob ra.pa) h23 h' ∧ (0 < r.pairs.length → ∃ g cur,ra.pa = some ⟨g,0,none⟩ ∧ Blk h' g 99 cur ∧ cur.length = ra.pc * 2) ∧ ∃ j : Nat,j + m = r.pairs.length ∧
    σ = [(0,.slice (some ⟨b',o,none⟩) l.length n),(1,.slice ao bs.length no),(5,ptr b5 0),(6,vi k),(9,ptr b9 0),(10,ptr b10 0),(11,ptr b11 0),(13,vi j)]) r.pairs.length
    ⟨(Ext.refl _).gr _,fun hpos => (by obtain ⟨g,cur,e1,_,e3,e4,_⟩ := Ka23.blk (by omega); exact ⟨g,cur,e1,e3,e4⟩),0,by omega,rfl⟩ ?_
   rintro m2 σ h24 ⟨G24,W24,j,hj,rfl⟩ Q2 hnx2 hex2 hrt2 _
   have E5 := G24.blk B5 (fun e => by have := hob _ e.symm; omega)
   have E9 := G24.blk B9 (fun e => by have := hob _ e.symm; omega)
   have E10 := G24.blk B10 (fun e => by have := hob _ e.symm; omega)
   have E11 := G24.blk B11 (fun e => by have := hob _ e.symm; omega)
   have z24' := G24.size
   unfold maxLen at hrp
   (try simp (maxSteps:=1000000) (disch:=first|exact Lb rfl|omega) only [AXS,AXB,J.dst,reduceIte,Z1,Z2,Z3,Z4,Z5]); rw [f14c22_eq]; (try simp (maxSteps:=1000000) (disch:=first|exact Lb rfl|omega) only [AXS,AXB,J.dst,reduceIte,Z1,Z2,Z3,Z4,Z5,f14r15,E10.cel,eRp,hpn]); rw [f14c23_eq]; (try simp (maxSteps:=1000000) (disch:=first|exact Lb rfl|omega) only [AXS,AXB,J.dst,reduceIte,Z1,Z2,Z3,Z4,Z5,E10.cel,eRp,hpn])
   refine ⟨fun hh => ?_,fun hh => ?_⟩
   ·have hjl : j < r.pairs.length := by have := of_decide_eq_true hh; omega
    obtain ⟨g,cur,e1,Bg,hlen⟩ := W24 (by omega)
    try simp (maxSteps:=1000000) (disch:=first|exact Lb rfl|omega) only [AXS,AXB,J.dst,reduceIte,Z1,Z2,Z3,Z4,Z5]
    rw [f14c24_eq]
    (try simp (maxSteps:=1000000) (disch:=first|exact Lb rfl|omega) only [AXS,AXB,J.dst,reduceIte,Z1,Z2,Z3,Z4,Z5]); rw [f14c25_eq]; (try simp (maxSteps:=1000000) (disch:=first|exact Lb rfl|omega) only [AXS,AXB,J.dst,reduceIte,Z1,Z2,Z3,Z4,Z5,f14r16,E10.cel,eRp,hpn,e1])
    refine ⟨by omega,by omega,?_⟩
    refine wL_stN rfl rfl rfl Bg (by rw [hlen]; omega) zPai_one ?_
    rintro h25 u25 Bg'
    try simp (maxSteps:=1000000) (disch:=first|exact Lb rfl|omega) only [AXS,AXB,J.dst,reduceIte,Z1,Z2,Z3,Z4,Z5]
    (try simp (maxSteps:=1000000) (disch:=first|exact Lb rfl|omega) only [AXS,AXB,J.dst,reduceIte,Z1,Z2,Z3,Z4,Z5]); rw [f14c26_eq]; (try simp (maxSteps:=1000000) (disch:=first|exact Lb rfl|omega) only [AXS,AXB,J.dst,reduceIte,Z1,Z2,Z3,Z4,Z5,f14r17])
    rw [i64_wrap (by omega) (by omega)]
    exact hnx2 (m2 - 1) _ _ (by omega) ⟨G24.upd u25 (.inl (by rw [e1]; rfl)),fun _ => ⟨g,_,e1,Bg',by rw [putL_length]; exact hlen⟩,j + 1,by omega,rfl⟩
   ·refine hex2 _ _ ?_
    clear hh hj hnx2 hex2 hrt2 W24
    have hcl2 : p.cells.length ≤ 900000 := by have := hg.sz.cells.sz.1; omega
    (try simp (maxSteps:=1000000) (disch:=first|exact Lb rfl|omega) only [AXS,AXB,J.dst,reduceIte,Z1,Z2,Z3,Z4,Z5]); rw [f14c27_eq]; (try simp (maxSteps:=1000000) (disch:=first|exact Lb rfl|omega) only [AXS,AXB,J.dst,reduceIte,Z1,Z2,Z3,Z4,Z5,f14r18])
    rw [f14c28_eq]
    refine loop_in (fun m σ h' => Gr (ob pv.ca) h24 h' ∧ (0 < p.cells.length → ∃ g cur,pv.ca = some ⟨g,0,none⟩ ∧ Blk h' g 103 cur ∧ cur.length = pv.cc * 12) ∧ ∃ j : Nat,j + m = p.cells.length ∧
     σ = [(0,.slice (some ⟨b',o,none⟩) l.length n),(1,.slice ao bs.length no),(5,ptr b5 0),(6,vi k),(9,ptr b9 0),(11,ptr b11 0),(14,vi j)]) p.cells.length
     ⟨(Ext.refl _).gr _,fun hpos => (by
      obtain ⟨vs,O1,hn1,_⟩ := hp.cells
      have hrm := O1.room
      obtain ⟨g,cur,e1,e2,e3,e4,_⟩ := O1.blk (by omega)
      have hg4 := e3.lt
      exact ⟨g,cur,e1,G24.blk (e3.ext x423) (fun e => by have := hob _ e.symm; omega),e4⟩),0,by omega,rfl⟩ ?_
    rintro m3 σ h26 ⟨G26,W26,j3,hj3,rfl⟩ Q3 hnx3 hex3 hrt3 _
    have D5 := G26.blk E5 (fun e => by have := hcar _ e.symm; omega)
    have D9 := G26.blk E9 (fun e => by have := hcar _ e.symm; omega)
    have D11 := G26.blk E11 (fun e => by have := hcar _ e.symm; omega)
    have z26 := G26.size
    (try simp (maxSteps:=1000000) (disch:=first|exact Lb rfl|omega) only [AXS,AXB,J.dst,reduceIte,Z1,Z2,Z3,Z4,Z5]); rw [f14c29_eq]; (try simp (maxSteps:=1000000) (disch:=first|exact Lb rfl|omega) only [AXS,AXB,J.dst,reduceIte,Z1,Z2,Z3,Z4,Z5,f14r19,D5.cel,ePr,hp.cn]); rw [f14c30_eq]; (try simp (maxSteps:=1000000) (disch:=first|exact Lb rfl|omega) only [AXS,AXB,J.dst,reduceIte,Z1,Z2,Z3,Z4,Z5,D5.cel,ePr,hp.cn])
    refine ⟨fun hh => ?_,fun hh => ?_⟩
    ·have hjl : j3 < p.cells.length := by have := of_decide_eq_true hh; omega
     obtain ⟨g,cur,e1,Bg,hlen⟩ := W26 (by omega)
     have hcap := hpr.cc
     have hcn := hp.cn
     try simp (maxSteps:=1000000) (disch:=first|exact Lb rfl|omega) only [AXS,AXB,J.dst,reduceIte,Z1,Z2,Z3,Z4,Z5]
     rw [f14c31_eq]
     (try simp (maxSteps:=1000000) (disch:=first|exact Lb rfl|omega) only [AXS,AXB,J.dst,reduceIte,Z1,Z2,Z3,Z4,Z5]); rw [f14c32_eq]; (try simp (maxSteps:=1000000) (disch:=first|exact Lb rfl|omega) only [AXS,AXB,J.dst,reduceIte,Z1,Z2,Z3,Z4,Z5,f14r20,D5.cel,ePr,hcn,e1])
     refine ⟨by omega,by omega,?_⟩
     refine wL_stN rfl rfl rfl Bg (by rw [hlen]; omega) (eCV_one zCV) ?_
     rintro h27 u27 Bg'
     try simp (maxSteps:=1000000) (disch:=first|exact Lb rfl|omega) only [AXS,AXB,J.dst,reduceIte,Z1,Z2,Z3,Z4,Z5]
     (try simp (maxSteps:=1000000) (disch:=first|exact Lb rfl|omega) only [AXS,AXB,J.dst,reduceIte,Z1,Z2,Z3,Z4,Z5]); rw [f14c33_eq]; (try simp (maxSteps:=1000000) (disch:=first|exact Lb rfl|omega) only [AXS,AXB,J.dst,reduceIte,Z1,Z2,Z3,Z4,Z5,f14r21])
     rw [i64_wrap (by omega) (by omega)]
     exact hnx3 (m3 - 1) _ _ (by omega) ⟨G26.upd u27 (.inl (by rw [e1]; rfl)),fun _ => ⟨g,_,e1,Bg',by rw [putL_length]; exact hlen⟩,j3 + 1,by omega,rfl⟩
    ·refine hex3 _ _ ?_
     clear hh hj3 hnx3 hex3 hrt3 W26
     have OaF := ((Oa.exts ((x913.trans x1318).trans x1823)).grA G24 Aa).grA G26 (fun kk hk => Oa.ap (by have := hcar kk hk; omega))
     have PBF := ((PB18.ext x1823).at_ (h' := h24) fun b hb => G24.at_ b (by omega) (fun e => by have := hob _ e.symm; omega)).at_ (h' := h26) fun b hb => G26.at_ b (by omega) (fun e => by have := hcar _ e.symm; omega)
     (try simp (maxSteps:=1000000) (disch:=first|exact Lb rfl|omega) only [AXS,AXB,J.dst,reduceIte,Z1,Z2,Z3,Z4,Z5]); rw [f14c34_eq]; (try simp (maxSteps:=1000000) (disch:=first|exact Lb rfl|omega) only [AXS,AXB,J.dst,reduceIte,Z1,Z2,Z3,Z4,Z5,f14r22,D9.rd,D11.rd,ePr])
     refine samePrt_ok pa pb q _ OaF.fin.prr PBF gq.sz (by omega) ?_
     intro h27 x27
     refine ⟨trivial,?_⟩
     replace D5 := D5.ext x27; replace D9 := D9.ext x27
     try simp (maxSteps:=1000000) (disch:=first|exact Lb rfl|omega) only [AXS,AXB,J.dst,reduceIte,Z1,Z2,Z3,Z4,Z5]
     (try simp (maxSteps:=1000000) (disch:=first|exact Lb rfl|omega) only [AXS,AXB,J.dst,reduceIte,Z1,Z2,Z3,Z4,Z5]); rw [f14c35_eq]; (try simp (maxSteps:=1000000) (disch:=first|exact Lb rfl|omega) only [AXS,AXB,J.dst,reduceIte,Z1,Z2,Z3,Z4,Z5])
     (try simp (maxSteps:=1000000) (disch:=first|exact Lb rfl|omega) only [AXS,AXB,J.dst,reduceIte,Z1,Z2,Z3,Z4,Z5]); rw [f14c37_eq]; (try simp (maxSteps:=1000000) (disch:=first|exact Lb rfl|omega) only [AXS,AXB,J.dst,reduceIte,Z1,Z2,Z3,Z4,Z5,f14r24,D9.rd,ePr])
     refine wL_stN rfl rfl rfl D5 (by rw [ePr_len]; decide) (ePr_one pa) ?_
     rintro h28 u28 (D5' : Blk _ _ _ (ePr pa))
     try simp (maxSteps:=1000000) (disch:=first|exact Lb rfl|omega) only [AXS,AXB,J.dst,reduceIte,Z1,Z2,Z3,Z4,Z5]
     have e5 := Oa.ap (b := b5) (by omega)
     (try simp (maxSteps:=1000000) (disch:=first|exact Lb rfl|omega) only [AXS,AXB,J.dst,reduceIte,Z1,Z2,Z3,Z4,Z5]); rw [f14c38_eq]; (try simp (maxSteps:=1000000) (disch:=first|exact Lb rfl|omega) only [AXS,AXB,J.dst,reduceIte,Z1,Z2,Z3,Z4,Z5,f14r25])
     rw [i64_wrap (by omega) (by omega)]
     have x228 : Ext h2 h28 := u28.ext ((G26.ext (G24.ext (x24.trans x423) (fun kk hk => by have := hob kk hk; omega)) (fun kk hk => by have := hcar kk hk; omega)).trans x27) (by omega)
     exact hnx (m - 1) _ _ (by omega) ⟨x228,k + 1,pa,q,by omega,D5',((OaF.exts x27).upd u28 e5.1 e5.2.1 e5.2.2).fin.mono (by omega),gq.mono (by omega),rfl⟩
  by_cases hko : k < bs.length
  ·obtain ⟨ot,hot⟩ := get_ex hko
   obtain ⟨bo,oo,rfl,hbo,hrowo⟩ := (So.ext x04).elem eBl_len hot
   have hbo' : bo < h.size := hbo
   have e1 : decide ((k : Int) < (bs.length : Int)) = true := by rw [decide_eq_true_eq]; omega
   have hcel : cel h4 bo (oo + k * 1) = some (.bool ot) := by simpa [eBl] using hrowo 0 (by rw [eBl_len]; omega)
   refine drt_lt ?_
   simp only [f14r8,wT_one,wT_alt,wT_nil]
   simp (maxSteps:=1000000) (disch:=first|exact Lb rfl|omega) only [AXS,AXB,J.dst,reduceIte,Z1,Z2,Z3,Z4,Z5,↓br_TT,↓br_TF,↓br_FT,↓br_FF,B5.rd,ePr,row_cm hrow,e1,hcel]
   repeat (with_reducible refine And.intro (by intros; omega) ?_)
   refine ⟨?_,?_⟩
   ·refine own_okP pv p cv c0 ot _ hp.s hcr hg.e0 hg.e1 ?_
    intro cv' h5 C5 x5
    have C5' : CmR (fun b => b < h.size) h5 cv' (if ot = true then c0 else ownM p c0) := C5
    refine ⟨kp_ext (Nat.le_refl _) x5,?_⟩
    try simp (maxSteps:=1000000) (disch:=first|exact Lb rfl|omega) only [AXS,AXB,J.dst,reduceIte,Z1,Z2,Z3,Z4,Z5]
    have i5 := x5.size
    refine wL_newD x5.size ?_; rintro b7 h6 x6 s6 hb7 B7
    try simp (maxSteps:=1000000) (disch:=first|exact Lb rfl|omega) only [AXS,AXB,J.dst,reduceIte,Z1,Z2,Z3,Z4,Z5]
    refine wL_stD rfl rfl (by omega) rfl B7 (by decide) (eCm_one cv') ?_
    rintro h7 u7 (B7 : Blk _ _ _ (eCm cv'))
    try simp (maxSteps:=1000000) (disch:=first|exact Lb rfl|omega) only [AXS,AXB,J.dst,reduceIte,Z1,Z2,Z3,Z4,Z5]
    exact app8 ot h7 b7 cv' (u7.ext (x5.trans x6) (by omega)) B7 (by omega) (C5'.ext (u7.ext x6 (by omega)))
   ·refine wL_newD (Nat.le_refl _) ?_; rintro b7 h6 x6 s6 hb7 B7
    try simp (maxSteps:=1000000) (disch:=first|exact Lb rfl|omega) only [AXS,AXB,J.dst,reduceIte,Z1,Z2,Z3,Z4,Z5]
    refine own_okP pv p cv c0 ot _ hp.s (hcr.ext x6) hg.e0 hg.e1 ?_
    intro cv' h5 C5 x5
    have C5' : CmR (fun b => b < h.size) h5 cv' (if ot = true then c0 else ownM p c0) := C5
    refine ⟨kp_ext x6.size x5,?_⟩
    try simp (maxSteps:=1000000) (disch:=first|exact Lb rfl|omega) only [AXS,AXB,J.dst,reduceIte,Z1,Z2,Z3,Z4,Z5]
    have i5 := x5.size
    refine wL_stD rfl rfl (by omega) rfl (B7.ext x5) (by decide) (eCm_one cv') ?_
    rintro h7 u7 (B7 : Blk _ _ _ (eCm cv'))
    try simp (maxSteps:=1000000) (disch:=first|exact Lb rfl|omega) only [AXS,AXB,J.dst,reduceIte,Z1,Z2,Z3,Z4,Z5]
    exact app8 ot h7 b7 cv' (u7.ext (x6.trans x5) (by omega)) B7 (by omega) (C5'.at_ (h' := h7) fun b hb => u7.ne b (by have hb' : b < h.size := hb; omega))
  ·have e1 : decide ((k : Int) < (bs.length : Int)) = false := by rw [decide_eq_false_iff_not]; omega
   refine drt_lt ?_
   simp only [f14r8,wT_one,wT_alt,wT_nil]
   simp (maxSteps:=1000000) (disch:=first|exact Lb rfl|omega) only [AXS,AXB,J.dst,reduceIte,Z1,Z2,Z3,Z4,Z5,↓br_TT,↓br_TF,↓br_FT,↓br_FF,B5.rd,ePr,row_cm hrow,e1]
   repeat (with_reducible refine And.intro (by intros; omega) ?_)
   refine ⟨?_,?_⟩
   ·refine own_okP pv p cv c0 false _ hp.s hcr hg.e0 hg.e1 ?_
    intro cv' h5 C5 x5
    have C5' : CmR (fun b => b < h.size) h5 cv' (if false = true then c0 else ownM p c0) := C5
    refine ⟨kp_ext (Nat.le_refl _) x5,?_⟩
    try simp (maxSteps:=1000000) (disch:=first|exact Lb rfl|omega) only [AXS,AXB,J.dst,reduceIte,Z1,Z2,Z3,Z4,Z5]
    have i5 := x5.size
    refine wL_newD x5.size ?_; rintro b7 h6 x6 s6 hb7 B7
    try simp (maxSteps:=1000000) (disch:=first|exact Lb rfl|omega) only [AXS,AXB,J.dst,reduceIte,Z1,Z2,Z3,Z4,Z5]
    refine wL_stD rfl rfl (by omega) rfl B7 (by decide) (eCm_one cv') ?_
    rintro h7 u7 (B7 : Blk _ _ _ (eCm cv'))
    try simp (maxSteps:=1000000) (disch:=first|exact Lb rfl|omega) only [AXS,AXB,J.dst,reduceIte,Z1,Z2,Z3,Z4,Z5]
    exact app8 false h7 b7 cv' (u7.ext (x5.trans x6) (by omega)) B7 (by omega) (C5'.ext (u7.ext x6 (by omega)))
   ·refine wL_newD (Nat.le_refl _) ?_; rintro b7 h6 x6 s6 hb7 B7
    try simp (maxSteps:=1000000) (disch:=first|exact Lb rfl|omega) only [AXS,AXB,J.dst,reduceIte,Z1,Z2,Z3,Z4,Z5]
    refine own_okP pv p cv c0 false _ hp.s (hcr.ext x6) hg.e0 hg.e1 ?_
    intro cv' h5 C5 x5
    have C5' : CmR (fun b => b < h.size) h5 cv' (if false = true then c0 else ownM p c0) := C5
    refine ⟨kp_ext x6.size x5,?_⟩
    try simp (maxSteps:=1000000) (disch:=first|exact Lb rfl|omega) only [AXS,AXB,J.dst,reduceIte,Z1,Z2,Z3,Z4,Z5]
    have i5 := x5.size
    refine wL_stD rfl rfl (by omega) rfl (B7.ext x5) (by decide) (eCm_one cv') ?_
    rintro h7 u7 (B7 : Blk _ _ _ (eCm cv'))
    try simp (maxSteps:=1000000) (disch:=first|exact Lb rfl|omega) only [AXS,AXB,J.dst,reduceIte,Z1,Z2,Z3,Z4,Z5]
    exact app8 false h7 b7 cv' (u7.ext (x6.trans x5) (by omega)) B7 (by omega) (C5'.at_ (h' := h7) fun b hb => u7.ne b (by have hb' : b < h.size := hb; omega))
 ·refine hex _ _ ?_
  (try simp (maxSteps:=1000000) (disch:=first|exact Lb rfl|omega) only [AXS,AXB,J.dst,reduceIte,Z1,Z2,Z3,Z4,Z5]); rw [f14c39_eq]; (try simp (maxSteps:=1000000) (disch:=first|exact Lb rfl|omega) only [AXS,AXB,J.dst,reduceIte,Z1,Z2,Z3,Z4,Z5,f14r26])
  exact hR _ x04
end Go.Proofs.Ytefghfgmkndikaa
