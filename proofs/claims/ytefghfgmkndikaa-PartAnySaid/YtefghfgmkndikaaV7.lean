/-
  The walks and plain laws under the laws of one package: texts of mine put together, what they do not use left out (wip/tools/prune.py).
-/
import Derived.Test.YtefghfgmkndikaaV6
set_option linter.unusedSimpArgs false
set_option linter.unusedVariables false
open Nat renaming reduceEqDiff → Z1, reduceAdd → Z2, reduceMul → Z3, reduceLT → Z4, reduceLeDiff → Z5, le_of_ble_eq_true → Lb
namespace Go.AX
open Go
theorem run_check_flat {P : Program} (em : Bool) : ∀ (d N : Nat),d ≤ N → ∀ (t : TypeId) (ks : List Kd) (xs : List Value) (w : World),flatT P d t = some ks → xs.length = ks.length → (Instr.checkKey em N t (mkV P t xs)).run P w = .ok () w
 | 0,_,_,_,_,_,_,h,_ => by cases h
 | d + 1,0,hN,_,_,_,_,_,_ => by omega
 | d + 1,N + 1,hN,t,ks,xs,w,h,hl => by
  unfold flatT at h
  split at h
  ·rename_i k hu
   unfold Instr.checkKey
   simp only [Sem.run_bind,run_underlying hu,Result.andThen_ok]
   rfl
  ·rename_i hu
   unfold Instr.checkKey
   simp only [Sem.run_bind,run_underlying hu,Result.andThen_ok]
   rfl
  ·rename_i hu
   unfold Instr.checkKey
   simp only [Sem.run_bind,run_underlying hu,Result.andThen_ok]
   rfl
  ·rename_i fs hu
   split at h
   ·cases h
   ·obtain ⟨a,hfs,h2⟩ := Option.bind_eq_some_iff.1 h
    split at h2
    ·cases h2
     have hm : mkV P t xs = .agg xs.toArray := by simp [mkV,hu]
     rw [hm,Instr.checkKey]
     simp only [Sem.run_bind,run_underlying hu,Result.andThen_ok]
     rw [← Array.forIn_toList]
     have key : ∀ (L : List Field) (o : Nat) (ks' : List Kd),flatFs (flatT P d) o L = some ks' → o + ks'.length ≤ xs.length →
       (∀ f ∈ L, f.name ≠ "_" ∧ ∃ a : List Kd, flatT P d f.type = some a ∧ f.offset + a.length ≤ xs.length) := by
      intro L
      induction L with
      | nil => intro o ks' _ _ f hf; cases hf
      | cons f L ih =>
       intro o ks' h hle g hg
       unfold flatFs at h
       split at h
       ·cases h
       ·rename_i hno
        have hname : f.name ≠ "_" := fun e => hno (.inl e)
        have hoff : f.offset = o := Classical.byContradiction fun e => hno (.inr e)
        obtain ⟨a,ha,h⟩ := Option.bind_eq_some_iff.1 h
        split at h
        ·cases h
        ·obtain ⟨ks2,hk2,rfl⟩ := Option.map_eq_some_iff.1 h
         rw [List.length_append] at hle
         rcases List.mem_cons.1 hg with e | hg
         ·subst e
          exact ⟨hname,a,ha,by omega⟩
         ·exact ih (o + a.length) ks2 hk2 (by omega) g hg
     have each := key fs.toList 0 _ hfs (by omega)
     clear key hfs
     generalize fs.toList = L at each
     induction L with
     | nil => simp
     | cons f L ih =>
      obtain ⟨hn,a,ha,hle⟩ := each f (by simp)
      have p1 := run_part_flat ha xs f.offset hle w
      have p2 := run_check_flat em d N (by omega) f.type a ((xs.drop f.offset).take a.length) w ha (by rw [List.length_take,List.length_drop]; omega)
      simp only [List.forIn_cons,Sem.run_bind,hn,ne_eq,not_false_eq_true,if_true,Result.andThen_ok,p1,p2,Sem.run_pure]
      exact ih (fun y hy => each y (by simp [hy]))
    ·cases h2
  ·cases h
end Go.AX
namespace Go.Proofs.Ytefghfgmkndikaa
open Go Go.AX Go.MapKept
theorem str37k : (match Try.prog.underlying 37 with | some (.struct _) => true | _ => false) = true := by kernel_rfl
theorem und37k : ∃ fs,Try.prog.underlying 37 = some (.struct fs) := by
 have h := str37k
 split at h
 ·rename_i fs hu; exact ⟨fs,hu⟩
 ·cases h
theorem flat37k : flatT Try.prog 20 37 = some [.i .i64,.i .i64,.i .i64,.i .i64] := by kernel_rfl
theorem und182 : Try.prog.underlying 182 = some (.map 37 3) := by kernel_rfl
def kTry (t : Try4) : Value := .agg (eTry t).toArray
theorem zero3v : (Try.prog.info? 3).bind (fun i => i.zero) = some (.int .i64 0) := by kernel_rfl
theorem run_zero3v (w : World) : (zeroValue 3).run Try.prog w = .ok (vi 0) w := by
 obtain ⟨i,hi,hz⟩ := Option.bind_eq_some_iff.1 zero3v
 simp [zeroValue,typeInfo,hi,hz]
theorem run_checkTry (em : Bool) (t : Try4) (w : World) : (Instr.checkKey em 10000 37 (kTry t)).run Try.prog w = .ok () w := by
 obtain ⟨fs,hu⟩ := und37k
 have := run_check_flat em 20 10000 (by decide) 37 _ (eTry t) w flat37k rfl
 simpa [mkV,hu,kTry] using this
theorem run_eqTry (s t : Try4) (w : World) : (Op.equal 37 (kTry s) (kTry t)).run Try.prog w = .ok (decide (s = t)) w := by
 obtain ⟨fs,hu⟩ := und37k
 have h := eqA_try s t
 obtain ⟨b,hb,e⟩ := Option.map_eq_some_iff.1 (show (eqKds [.i .i64,.i .i64,.i .i64,.i .i64] (eTry s) (eTry t)).map (fun b => Value.bool (if false then !b else b)) = some (.bool (decide (s = t))) from h)
 have e' : b = decide (s = t) := by simpa using e
 subst e'
 have := equalIn_flat (P := Try.prog) w 20 Op.maxDepth (by decide) 37 _ (eTry s) (eTry t) _ flat37k hb
 simpa [mkV,hu,kTry,Op.equal] using this
def mk3 (x : (Try4 × Int) × Nat) : MapEntry := ⟨kTry x.1.1,vi x.1.2,x.2⟩
def mE (l : List (Try4 × Int)) : List MapEntry := l.zipIdx.map mk3
theorem mE_at (l : List (Try4 × Int)) (i : Nat) : (mE l)[i]? = l[i]?.map fun x => ⟨kTry x.1,vi x.2,i⟩ := by
 unfold mE
 rw [List.getElem?_map,List.getElem?_zipIdx,Option.map_map]
 simp only [Nat.zero_add]
 rfl
theorem mE_len (l : List (Try4 × Int)) : (mE l).length = l.length := by simp [mE]
theorem mE_snoc (l : List (Try4 × Int)) (x : Try4 × Int) : mE (l ++ [x]) = mE l ++ [⟨kTry x.1,vi x.2,l.length⟩] := by
 unfold mE
 rw [List.zipIdx_append,List.map_append]
 simp [mk3]
/-- The first entry of a key: its place, its value. -/
def fndL (t : Try4) : List (Try4 × Int) → Nat → Option (Nat × Int)
 | [],_ => none
 | x :: l,i => if t = x.1 then some (i,x.2) else fndL t l (i + 1)
theorem fndL_some {t : Try4} : ∀ {l : List (Try4 × Int)} {i j : Nat} {v : Int},fndL t l i = some (j,v) → ∃ k,j = i + k ∧ l[k]? = some (t,v)
 | [],_,_,_,h => by cases h
 | x :: l,i,j,v,h => by
  unfold fndL at h
  split at h
  ·rename_i e
   cases h
   refine ⟨0,rfl,?_⟩
   rw [e]; rfl
  ·obtain ⟨k,rfl,h2⟩ := fndL_some h
   exact ⟨k + 1,by omega,h2⟩
theorem fndL_none {t : Try4} : ∀ {l : List (Try4 × Int)} {i : Nat},(∀ x ∈ l, ¬ t = x.1) → fndL t l i = none
 | [],_,_ => rfl
 | x :: l,i,h => by
  unfold fndL
  rw [if_neg (h x (List.mem_cons_self ..))]
  exact fndL_none fun y hy => h y (List.mem_cons_of_mem _ hy)
theorem fndL_snoc {t : Try4} {v : Int} : ∀ {l : List (Try4 × Int)} {i : Nat},(∀ x ∈ l, ¬ t = x.1) → fndL t (l ++ [(t,v)]) i = some (i + l.length,v)
 | [],i,_ => by simp [fndL]
 | x :: l,i,h => by
  rw [List.cons_append,fndL,if_neg (h x (List.mem_cons_self ..)),fndL_snoc fun y hy => h y (List.mem_cons_of_mem _ hy),List.length_cons]
  congr 2
  omega
theorem fndL_mem {t : Try4} : ∀ {l : List (Try4 × Int)} {i : Nat},(∃ x ∈ l,t = x.1) → ∃ j v,fndL t l i = some (j,v)
 | [],_,h => by obtain ⟨x,hx,_⟩ := h; cases hx
 | x :: l,i,h => by
  unfold fndL
  by_cases e : t = x.1
  ·rw [if_pos e]; exact ⟨_,_,rfl⟩
  ·rw [if_neg e]
   obtain ⟨y,hy,hz⟩ := h
   rcases List.mem_cons.1 hy with e' | hy
   ·subst e'; exact absurd hz e
   ·exact fndL_mem ⟨y,hy,hz⟩
theorem fndL_set {t : Try4} {v : Int} : ∀ {l : List (Try4 × Int)} {i j : Nat} {u : Int},fndL t l i = some (i + j,u) → fndL t (l.set j (t,v)) i = some (i + j,v)
 | [],_,_,_,h => by cases h
 | x :: l,i,j,u,h => by
  unfold fndL at h
  split at h
  ·rename_i e
   have : j = 0 := by have := Option.some.inj h; have := congrArg Prod.fst this; simp at this; omega
   subst this
   simp [fndL]
  ·rename_i e
   obtain ⟨k,hk,hl⟩ := fndL_some h
   have : j = k + 1 := by omega
   subst this
   rw [List.set_cons_succ,fndL,if_neg e]
   have h' : fndL t l (i + 1) = some (i + 1 + k,u) := by rw [h,show i + (k + 1) = i + 1 + k by omega]
   rw [fndL_set h',show i + (k + 1) = i + 1 + k by omega]
theorem run_askTry (w : World) (t : Try4) : ∀ (l : List (Try4 × Int)) (n i : Nat),(Instr.findAsking 37 (kTry t) ((l.zipIdx n).map mk3) i).run Try.prog w = .ok ((fndL t l i).map fun p => (p.1,vi p.2)) w
 | [],n,i => rfl
 | x :: l,n,i => by
  rw [List.zipIdx_cons,List.map_cons,Instr.findAsking,fndL]
  simp only [Sem.run_bind,mk3,run_eqTry,Result.andThen_ok]
  by_cases e : t = x.1
  ·rw [if_pos e,e]; simp
  ·have := run_askTry w t l (n + 1) (i + 1)
   rw [if_neg e]
   simp only [e,decide_false,Bool.false_eq_true,if_false]
   exact this
theorem run_findTry (w : World) (t : Try4) (l : List (Try4 × Int)) : (Instr.findKey 37 (kTry t) (mE l)).run Try.prog w = .ok ((fndL t l 0).map fun p => (p.1,vi p.2)) w := by
 obtain ⟨fs,hu⟩ := und37k
 cases l with
 | nil => simp [Instr.findKey,run_underlying hu,mE,Instr.findNow,fndL]
 | cons x l =>
  have h := run_askTry w t (x :: l) 0 0
  have hm : mE (x :: l) = mk3 (x,0) :: (l.zipIdx 1).map mk3 := by unfold mE; rw [List.zipIdx_cons,List.map_cons]
  have hn : Instr.findNow (.struct fs) (kTry t) (mE (x :: l)) 0 = none := by rw [hm]; rfl
  simp only [Instr.findKey,Sem.run_bind,run_underlying hu,Result.andThen_ok,hn]
  exact h
structure MapSt (h : Heap) (b : Nat) (l : List (Try4 × Int)) : Prop where
 at_ : h[b]? = some (.map (mE l).toArray l.length)
theorem MapSt.ext {h h' : Heap} {b : Nat} {l : List (Try4 × Int)} (M : MapSt h b l) (x : Ext h h') : MapSt h' b l := by
 have hb : b < h.size := by
  rcases Nat.lt_or_ge b h.size with hl | hl
  ·exact hl
  ·have := M.at_; rw [Array.getElem?_eq_none hl] at this; cases this
 exact ⟨(x.at_ b hb).trans M.at_⟩
theorem MapSt.upd {h h' : Heap} {b c : Nat} {l : List (Try4 × Int)} (M : MapSt h b l) (u : Upd c h h') (hc : b ≠ c) : MapSt h' b l := ⟨(u.ne b hc).trans M.at_⟩
theorem MapSt.lt {h : Heap} {b : Nat} {l : List (Try4 × Int)} (M : MapSt h b l) : b < h.size := by
 rcases Nat.lt_or_ge b h.size with hl | hl
 ·exact hl
 ·have := M.at_; rw [Array.getElem?_eq_none hl] at this; cases this
def valL (t : Try4) (l : List (Try4 × Int)) : Int := match fndL t l 0 with | some p => p.2 | none => 0
section
variable {o : Oper} {σ : Env} {h : Heap} {K : Value → Heap → Prop} {x y z : Operand} {b : Nat} {l : List (Try4 × Int)} {t : Try4}
theorem raw_lookup (ho : o.op = .lookup 182 x y false) (hx : evO σ x = some (.map (some b))) (hy : evO σ y = some (kTry t)) (M : MapSt h b l) (H : K (vi (valL t l)) h) : RawW Try.prog o σ h K := by
 refine ⟨?_,?_,?_⟩
 ·rw [ho]; intro u hu
  simp only [Op.operands,List.mem_toArray,List.mem_cons,List.not_mem_nil,or_false] at hu
  rcases hu with rfl | rfl
  ·rw [hx]; rfl
  ·rw [hy]; rfl
 ·rw [ho]; intro cs b hh; cases hh
 ·intro w hw
  have hrun : (Instr.lookup 182 (.map (some b)) (kTry t) false).run Try.prog w = .ok (vi (valL t l)) w := by
   have hb : w.heap[b]? = some (.map (mE l).toArray l.length) := by rw [hw]; exact M.at_
   unfold valL
   cases hf : fndL t l 0 with
   | none => simp [Instr.lookup,run_underlying und182,MapKept.run_getObj_map hb,run_checkTry,run_findTry,hf,run_zero3v,Result.andThen]
   | some p => simp [Instr.lookup,run_underlying und182,MapKept.run_getObj_map hb,run_checkTry,run_findTry,hf,Result.andThen]
  refine ⟨.value (vi (valL t l)),_,w,?_,rfl,Same.refl w,by rw [hw]; exact H⟩
  simp [execOp,ho,hx,hy,hrun]
theorem sameTry (t : Try4) (w : World) : (Instr.keyThatStays (kTry t) (kTry t)).run Try.prog w = .ok (kTry t) w := by
 have : Instr.sameBits 10000 (kTry t) (kTry t) = true := by simp [Instr.sameBits,kTry,eTry]
 simp [Instr.keyThatStays,this]
theorem upd_set (h : Heap) (b : Nat) (x : Obj) : Upd b h (h.setIfInBounds b x) := ⟨by simp,fun c hc => by rw [Array.getElem?_setIfInBounds_ne (by omega)]⟩
/-- An entry that is not there comes. -/
theorem raw_entryN (ho : o.op = .mapEntry 182 x y) (hx : evO σ x = some (.map (some b))) (hy : evO σ y = some (kTry t)) (M : MapSt h b l) (hf : fndL t l 0 = none)
  (H : ∀ h',Upd b h h' → MapSt h' b (l ++ [(t,0)]) → K (.tuple #[vi 0,vi l.length]) h') : RawW Try.prog o σ h K := by
 refine ⟨?_,?_,?_⟩
 ·rw [ho]; intro u hu
  simp only [Op.operands,List.mem_toArray,List.mem_cons,List.not_mem_nil,or_false] at hu
  rcases hu with rfl | rfl
  ·rw [hx]; rfl
  ·rw [hy]; rfl
 ·rw [ho]; intro cs b hh; cases hh
 ·intro w hw
  subst hw
  have hb := M.at_
  have hrun : (Instr.mapEntry 182 (.map (some b)) (kTry t)).run Try.prog w = .ok (.tuple #[vi 0,vi l.length]) { w with heap := w.heap.setIfInBounds b (.map (mE (l ++ [(t,0)])).toArray (l ++ [(t,0)]).length) } := by
   have e : ((mE l).toArray.push ⟨kTry t,vi 0,l.length⟩) = (mE (l ++ [(t,0)])).toArray := by rw [mE_snoc]; simp
   simp [Instr.mapEntry,run_underlying und182,MapKept.run_getObj_map hb,run_checkTry,run_findTry,hf,run_zero3v,MapKept.run_setObj_map _ hb,Result.andThen,← e,goInt]
  refine ⟨.value (.tuple #[vi 0,vi l.length]),_, { w with heap := w.heap.setIfInBounds b (.map (mE (l ++ [(t,0)])).toArray (l ++ [(t,0)]).length) },?_,rfl,?_,H _ (upd_set _ b _) ⟨by simp [M.lt]⟩⟩
  ·simp [execOp,ho,hx,hy,hrun]
  ·exact ⟨rfl,rfl,rfl⟩
/-- An entry that is there. -/
theorem raw_entryS {j : Nat} {v : Int} (ho : o.op = .mapEntry 182 x y) (hx : evO σ x = some (.map (some b))) (hy : evO σ y = some (kTry t)) (M : MapSt h b l) (hf : fndL t l 0 = some (j,v))
  (H : ∀ h',Upd b h h' → MapSt h' b l → K (.tuple #[vi v,vi j]) h') : RawW Try.prog o σ h K := by
 refine ⟨?_,?_,?_⟩
 ·rw [ho]; intro u hu
  simp only [Op.operands,List.mem_toArray,List.mem_cons,List.not_mem_nil,or_false] at hu
  rcases hu with rfl | rfl
  ·rw [hx]; rfl
  ·rw [hy]; rfl
 ·rw [ho]; intro cs b hh; cases hh
 ·intro w hw
  subst hw
  have hb := M.at_
  obtain ⟨k,hk,hl⟩ := fndL_some hf
  have hk' : j = k := by omega
  subst hk'
  have he : (mE l)[j]? = some ⟨kTry t,vi v,j⟩ := by rw [mE_at,hl]; rfl
  have hm : ((mE l).modify j fun e => { e with key := kTry t }) = mE l := by
   apply List.ext_getElem?
   intro i
   rw [List.getElem?_modify]
   by_cases e : j = i
   ·subst e
    simp [he]
   ·simp [e]
  have hrun : (Instr.mapEntry 182 (.map (some b)) (kTry t)).run Try.prog w = .ok (.tuple #[vi v,vi j]) { w with heap := w.heap.setIfInBounds b (.map (mE l).toArray l.length) } := by
   simp [Instr.mapEntry,run_underlying und182,MapKept.run_getObj_map hb,run_checkTry,run_findTry,hf,he,sameTry,MapKept.run_setObj_map _ hb,Result.andThen,goInt,hm]
  refine ⟨.value (.tuple #[vi v,vi j]),_, { w with heap := w.heap.setIfInBounds b (.map (mE l).toArray l.length) },?_,rfl,?_,H _ (upd_set _ b _) ⟨by simp [M.lt]⟩⟩
  ·simp [execOp,ho,hx,hy,hrun]
  ·exact ⟨rfl,rfl,rfl⟩
theorem raw_estore {j : Nat} {v u : Int} (ho : o.op = .entryStore 182 x y z) (hx : evO σ x = some (.map (some b))) (hy : evO σ y = some (vi j)) (hz : evO σ z = some (vi v)) (M : MapSt h b l) (hj : l[j]? = some (t,u))
  (H : ∀ h',Upd b h h' → MapSt h' b (l.set j (t,v)) → K undef h') : RawW Try.prog o σ h K := by
 refine ⟨?_,?_,?_⟩
 ·rw [ho]; intro u hu
  simp only [Op.operands,List.mem_toArray,List.mem_cons,List.not_mem_nil,or_false] at hu
  rcases hu with rfl | rfl | rfl
  ·rw [hx]; rfl
  ·rw [hy]; rfl
  ·rw [hz]; rfl
 ·rw [ho]; intro cs b hh; cases hh
 ·intro w hw
  subst hw
  have hb := M.at_
  have hjl : j < l.length := by
   rcases Nat.lt_or_ge j l.length with h | h
   ·exact h
   ·rw [List.getElem?_eq_none h] at hj; cases hj
  have hfi : (mE l).findIdx? (fun e => (e.born : Int) == (j : Int)) = some j := by
   rw [List.findIdx?_eq_some_iff_getElem]
   have hbn : ∀ i (hi : i < (mE l).length),(mE l)[i].born = i := by
    intro i hi
    have := mE_at l i
    rw [List.getElem?_eq_getElem hi] at this
    have hi' : i < l.length := by rw [mE_len] at hi; exact hi
    rw [List.getElem?_eq_getElem hi'] at this
    have := Option.some.inj this
    rw [this]
   refine ⟨by rw [mE_len]; exact hjl,?_,?_⟩
   ·rw [hbn]; simp
   ·intro i hi
    rw [hbn]
    simp
    omega
  have hm : ((mE l).modify j fun e => { e with val := vi v }) = mE (l.set j (t,v)) := by
   apply List.ext_getElem?
   intro i
   rw [List.getElem?_modify,mE_at,mE_at,List.getElem?_set]
   by_cases e : j = i
   ·subst e
    rw [hj]
    simp [hjl]
   ·simp [e]
  have hrun : (Instr.entryStore 182 (.map (some b)) (vi j) (vi v)).run Try.prog w = .ok () { w with heap := w.heap.setIfInBounds b (.map (mE (l.set j (t,v))).toArray (l.set j (t,v)).length) } := by
   simp [Instr.entryStore,MapKept.run_getObj_map hb,asInt,asIntOf,hfi,MapKept.run_setObj_map _ hb,Result.andThen,hm]
  refine ⟨.skip,undef, { w with heap := w.heap.setIfInBounds b (.map (mE (l.set j (t,v))).toArray (l.set j (t,v)).length) },?_,rfl,?_,H _ (upd_set _ b _) ⟨by simp [M.lt]⟩⟩
  ·simp [execOp,ho,hx,hy,hz,hrun]
  ·exact ⟨rfl,rfl,rfl⟩
end
theorem seen_keys {l : List Out} {k : Nat} {t : Try4} : (∀ x ∈ (l.take k).map (fun (o : Out) => (o.by_,(1 : Int))), ¬ t = x.1) ↔ findO (l.take k) t = none := by
 rw [findO_none_iff]
 constructor
 ·intro H o ho e
  exact H (o.by_,1) (List.mem_map.2 ⟨o,ho,rfl⟩) e.symm
 ·intro H x hx e
  obtain ⟨o,ho,rfl⟩ := List.mem_map.1 hx
  exact H o ho e.symm
set_option maxHeartbeats 2000000 in
theorem onceM_ok {B : Nat → Prop} {a : Option Addr} {c : Nat} (l : List Out) (h : Heap) (S : SlF B h eOut a l) (hn : l.length ≤ 1000000) {R : Value → Heap → Prop}
  (hR : ∀ (b : Bool) h',(b = true ↔ OnceP l) → Ext h h' → R (.bool b) h') : CallsH Try.prog 102 [.slice a l.length c] h R := by
 refine f102ok (by simp) ?_
 (try simp (maxSteps:=1000000) (disch:=first|exact Lb rfl|omega) only [AXS,AXB,J.dst,reduceIte,Z1,Z2,Z3,Z4,Z5]); rw [f102c0_eq]; (try simp (maxSteps:=1000000) (disch:=first|exact Lb rfl|omega) only [AXS,AXB,J.dst,reduceIte,Z1,Z2,Z3,Z4,Z5,f102r0]); rw [f102c1_eq]; (try simp (maxSteps:=1000000) (disch:=first|exact Lb rfl|omega) only [AXS,AXB,J.dst,reduceIte,Z1,Z2,Z3,Z4,Z5,f102r1])
 rw [wL_raw]
 refine raw_map rfl ?_
 intro h1 x1 z1 hm
 refine ⟨trivial,?_⟩
 (try simp (maxSteps:=1000000) (disch:=first|exact Lb rfl|omega) only [AXS,AXB,J.dst,reduceIte,Z1,Z2,Z3,Z4,Z5]); rw [f102c2_eq]; (try simp (maxSteps:=1000000) (disch:=first|exact Lb rfl|omega) only [AXS,AXB,J.dst,reduceIte,Z1,Z2,Z3,Z4,Z5,f102r2])
 rw [f102c3_eq]
 have M0 : MapSt h1 h.size [] := ⟨hm⟩
 refine loop_in (fun m σ h' => Ext h h' ∧ ∃ k : Nat,k + m = l.length ∧ OnceP (l.take k) ∧ MapSt h' h.size ((l.take k).map fun (o : Out) => (o.by_,(1 : Int))) ∧ σ = [(3,.map (some h.size)),(7,.slice a l.length c),(8,vi l.length),(9,vi k)]) l.length ⟨x1,0,by omega,List.nodup_nil,M0,rfl⟩ ?_
 rintro m σ h2 ⟨x2,k,hk,ho,M,rfl⟩ Q' hnx hex hrt _
 (try simp (maxSteps:=1000000) (disch:=first|exact Lb rfl|omega) only [AXS,AXB,J.dst,reduceIte,Z1,Z2,Z3,Z4,Z5]); rw [f102c4_eq]; (try simp (maxSteps:=1000000) (disch:=first|exact Lb rfl|omega) only [AXS,AXB,J.dst,reduceIte,Z1,Z2,Z3,Z4,Z5,f102r3]); rw [f102c5_eq]; (try simp (maxSteps:=1000000) (disch:=first|exact Lb rfl|omega) only [AXS,AXB,J.dst,reduceIte,Z1,Z2,Z3,Z4,Z5])
 refine ⟨fun hh => ?_,fun hh => ?_⟩
 ·have hkl : k < l.length := by have := of_decide_eq_true hh; omega
  obtain ⟨x,hx⟩ := get_ex hkl
  obtain ⟨b,o,rfl,_,hrow⟩ := (S.ext x2).elem eOut_len hx
  have hon := once_snoc hx
  have hml := M.lt
  try simp (maxSteps:=1000000) (disch:=first|exact Lb rfl|omega) only [AXS,AXB,J.dst,reduceIte,Z1,Z2,Z3,Z4,Z5]
  rw [f102c6_eq]
  (try simp (maxSteps:=1000000) (disch:=first|exact Lb rfl|omega) only [AXS,AXB,J.dst,reduceIte,Z1,Z2,Z3,Z4,Z5]); rw [f102c7_eq]; (try simp (maxSteps:=1000000) (disch:=first|exact Lb rfl|omega) only [AXS,AXB,J.dst,reduceIte,Z1,Z2,Z3,Z4,Z5,f102r4,row_out hrow])
  refine ⟨by omega,by omega,?_⟩
  refine wL_newN ?_; rintro b5 h3 x3 s3 hb5 B5
  try simp (maxSteps:=1000000) (disch:=first|exact Lb rfl|omega) only [AXS,AXB,J.dst,reduceIte,Z1,Z2,Z3,Z4,Z5]
  refine wL_stN rfl rfl rfl B5 (by decide) (eOut_one x) ?_
  rintro h4 u4 (B5 : Blk _ _ _ (eOut x))
  replace M := (M.ext x3).upd u4 (by omega)
  have x04 := u4.ext (x2.trans x3) (by have := x2.size; omega)
  have z3 := x3.size
  have z4 := u4.size
  have zh := x2.size
  have hb5l := B5.lt
  have hml4 := M.lt
  try simp (maxSteps:=1000000) (disch:=first|exact Lb rfl|omega) only [AXS,AXB,J.dst,reduceIte,Z1,Z2,Z3,Z4,Z5]
  rw [f102c8_eq]
  refine ⟨fun b => b < h4.size ∧ b ≠ h.size,fun b hb => hb.1,?_⟩
  have hne : b5 ≠ h.size := by omega
  simp only [f102r5,wT_one,wT_alt,wT_nil]
  simp (maxSteps:=1000000) (disch:=first|exact Lb rfl|omega) only [AXS,AXB,J.dst,reduceIte,Z1,Z2,Z3,Z4,Z5,B5.rd,eOut]
  have hkt : (.agg #[vi x.by_.node,vi x.by_.life,vi x.by_.seq,vi x.by_.attempt] : Value) = kTry x.by_ := rfl
  rw [hkt]
  have back : ∀ h9 (lm : List (Try4 × Int)) (v : Int),Ext h h9 → h4.size ≤ h9.size → (∀ b,b < h4.size → b ≠ h.size → h9[b]? = h4[b]?) → MapSt h9 h.size lm → valL x.by_ lm = v → ((findO (l.take k) x.by_ = none → v = 1 ∧ lm = ((l.take (k + 1)).map fun (o : Out) => (o.by_,(1 : Int)))) ∧ (findO (l.take k) x.by_ ≠ none → v = 2)) →
    wC Try.prog f102c9 (X.inBlock 1 (X.then (fun σ h => wC Try.prog f102c12 Q' σ h) Q')) [(3,.map (some h.size)),(5,ptr b5 0),(7,.slice (some ⟨b,o,none⟩) l.length c),(8,vi l.length),(9,vi k)] h9 := by
   intro h9 lm v x9 z9 k9 M9 hv hc
   have B9 : Blk h9 b5 126 (eOut x) := (k9 b5 hb5l hne).trans B5
   (try simp (maxSteps:=1000000) (disch:=first|exact Lb rfl|omega) only [AXS,AXB,J.dst,reduceIte,Z1,Z2,Z3,Z4,Z5]); rw [f102c9_eq]; (try simp (maxSteps:=1000000) (disch:=first|exact Lb rfl|omega) only [AXS,AXB,J.dst,reduceIte,Z1,Z2,Z3,Z4,Z5,f102r6,B9.rd,eOut])
   rw [hkt,wL_raw]
   refine raw_lookup rfl rfl rfl M9 ?_
   refine ⟨trivial,?_⟩
   rw [hv]
   simp (maxSteps:=1000000) (disch:=first|exact Lb rfl|omega) only [AXS,AXB,J.dst,reduceIte,Z1,Z2,Z3,Z4,Z5]
   rw [f102c10_eq]
   simp (maxSteps:=1000000) (disch:=first|exact Lb rfl|omega) only [AXS,AXB,J.dst,reduceIte,Z1,Z2,Z3,Z4,Z5]
   refine ⟨fun q => ?_,fun q => ?_⟩
   ·(try simp (maxSteps:=1000000) (disch:=first|exact Lb rfl|omega) only [AXS,AXB,J.dst,reduceIte,Z1,Z2,Z3,Z4,Z5]); rw [f102c11_eq]; (try simp (maxSteps:=1000000) (disch:=first|exact Lb rfl|omega) only [AXS,AXB,J.dst,reduceIte,Z1,Z2,Z3,Z4,Z5,f102r7])
    refine hrt _ _ ?_
    simp (maxSteps:=1000000) (disch:=first|exact Lb rfl|omega) only [AXS,AXB,J.dst,reduceIte,Z1,Z2,Z3,Z4,Z5]
    refine hR false h9 ⟨fun h => (by cases h),fun hO => ?_⟩ x9
    have h1 := (hon.1 (once_take _ hO)).2
    have h2 := (hc.1 h1).1
    have := of_decide_eq_true q
    omega
   ·have hno : findO (l.take k) x.by_ = none := by
     rcases Classical.em (findO (l.take k) x.by_ = none) with h | h
     ·exact h
     ·have := hc.2 h
      have := of_decide_eq_false q
      omega
    (try simp (maxSteps:=1000000) (disch:=first|exact Lb rfl|omega) only [AXS,AXB,J.dst,reduceIte,Z1,Z2,Z3,Z4,Z5]); rw [f102c12_eq]; (try simp (maxSteps:=1000000) (disch:=first|exact Lb rfl|omega) only [AXS,AXB,J.dst,reduceIte,Z1,Z2,Z3,Z4,Z5,f102r8])
    rw [i64_wrap (by omega) (by omega)]
    refine hnx (m - 1) _ _ (by omega) ⟨x9,k + 1,by omega,hon.2 ⟨ho,hno⟩,?_,rfl⟩
    rw [← (hc.1 hno).2]
    exact M9
  have hlk : (l.take k).length = k := by rw [List.length_take]; omega
  have hsucc : (l.take (k + 1)).map (fun (o : Out) => (o.by_,(1 : Int))) = (l.take k).map (fun (o : Out) => (o.by_,(1 : Int))) ++ [(x.by_,1)] := by
   rw [List.take_add_one,hx]; simp
  refine ⟨⟨by omega,hne⟩,?_,?_⟩
  ·-- the value is asked for first
   rw [wL_raw]
   refine raw_lookup rfl rfl rfl M ?_
   refine ⟨fun _ _ => rfl,?_⟩
   simp (maxSteps:=1000000) (disch:=first|exact Lb rfl|omega) only [AXS,AXB,J.dst,reduceIte,Z1,Z2,Z3,Z4,Z5]
   rw [wL_raw]
   rcases Classical.em (findO (l.take k) x.by_ = none) with hno | hso
   ·have hf := fndL_none (i := 0) (seen_keys.2 hno)
    have hv0 : valL x.by_ ((l.take k).map fun (o : Out) => (o.by_,(1 : Int))) = 0 := by unfold valL; rw [hf]
    refine raw_entryN rfl rfl rfl M hf ?_
    intro h5 u5 M5
    refine ⟨fun b hb => u5.ne b hb.2,?_⟩
    simp (maxSteps:=1000000) (disch:=first|exact Lb rfl|omega) only [AXS,AXB,J.dst,reduceIte,Z1,Z2,Z3,Z4,Z5]
    rw [hv0,i64_wrap (by omega) (by omega),wL_raw]
    refine raw_estore (j := ((l.take k).map fun (o : Out) => (o.by_,(1 : Int))).length) (t := x.by_) (u := 0) rfl rfl rfl rfl M5 (by simp) ?_
    intro h6 u6 M6
    refine ⟨fun b hb => u6.ne b hb.2,?_⟩
    simp (maxSteps:=1000000) (disch:=first|exact Lb rfl|omega) only [AXS,AXB,J.dst,reduceIte,Z1,Z2,Z3,Z4,Z5]
    have y5 := u5.size
    have y6 := u6.size
    have hset : (((l.take k).map fun (o : Out) => (o.by_,(1 : Int))) ++ [(x.by_,0)]).set ((l.take k).map fun (o : Out) => (o.by_,(1 : Int))).length (x.by_,0 + 1) = ((l.take k).map fun (o : Out) => (o.by_,(1 : Int))) ++ [(x.by_,1)] := by
     rw [List.set_append_right _ _ (Nat.le_refl _)]; simp
    rw [hset] at M6
    refine back h6 _ 1 (u6.ext (u5.ext x04 (Nat.le_refl _)) (Nat.le_refl _)) (by omega) (fun b hb hn => (u6.ne b hn).trans (u5.ne b hn)) M6 ?_ ⟨fun _ => ⟨rfl,hsucc.symm⟩,fun h => absurd hno h⟩
    unfold valL
    rw [fndL_snoc (seen_keys.2 hno)]
   ·have hex' : ∃ y ∈ (l.take k).map (fun (o : Out) => (o.by_,(1 : Int))),x.by_ = y.1 := by
     refine Classical.byContradiction fun hn => hso (seen_keys.1 fun y hy e => hn ⟨y,hy,e⟩)
    obtain ⟨j,v,hf⟩ := fndL_mem (i := 0) hex'
    obtain ⟨j',hj',hl'⟩ := fndL_some hf
    have hjj : j = j' := by omega
    subst hjj
    have hv1 : v = 1 := by
     rw [List.getElem?_map] at hl'
     cases ho' : (l.take k)[j]? with
     | none => rw [ho'] at hl'; cases hl'
     | some y => rw [ho'] at hl'; have := Option.some.inj hl'; have := congrArg Prod.snd this; simpa using this.symm
    subst hv1
    have hv0 : valL x.by_ ((l.take k).map fun (o : Out) => (o.by_,(1 : Int))) = 1 := by unfold valL; rw [hf]
    refine raw_entryS rfl rfl rfl M hf ?_
    intro h5 u5 M5
    refine ⟨fun b hb => u5.ne b hb.2,?_⟩
    simp (maxSteps:=1000000) (disch:=first|exact Lb rfl|omega) only [AXS,AXB,J.dst,reduceIte,Z1,Z2,Z3,Z4,Z5]
    rw [hv0,i64_wrap (by omega) (by omega),wL_raw]
    refine raw_estore (j := j) (t := x.by_) (u := 1) rfl rfl rfl rfl M5 hl' ?_
    intro h6 u6 M6
    refine ⟨fun b hb => u6.ne b hb.2,?_⟩
    simp (maxSteps:=1000000) (disch:=first|exact Lb rfl|omega) only [AXS,AXB,J.dst,reduceIte,Z1,Z2,Z3,Z4,Z5]
    have y5 := u5.size
    have y6 := u6.size
    refine back h6 _ 2 (u6.ext (u5.ext x04 (Nat.le_refl _)) (Nat.le_refl _)) (by omega) (fun b hb hn => (u6.ne b hn).trans (u5.ne b hn)) M6 ?_ ⟨fun h => absurd h hso,fun _ => rfl⟩
    unfold valL
    have h0 : fndL x.by_ ((l.take k).map fun (o : Out) => (o.by_,(1 : Int))) 0 = some (0 + j,1) := by rw [hf]; simp
    rw [fndL_set h0]
    rfl
  ·-- the entry comes first
   rw [wL_raw]
   rcases Classical.em (findO (l.take k) x.by_ = none) with hno | hso
   ·have hf := fndL_none (i := 0) (seen_keys.2 hno)
    refine raw_entryN rfl rfl rfl M hf ?_
    intro h5 u5 M5
    refine ⟨fun b hb => u5.ne b hb.2,?_⟩
    simp (maxSteps:=1000000) (disch:=first|exact Lb rfl|omega) only [AXS,AXB,J.dst,reduceIte,Z1,Z2,Z3,Z4,Z5]
    rw [wL_raw]
    refine raw_lookup rfl rfl rfl M5 ?_
    refine ⟨fun _ _ => rfl,?_⟩
    simp (maxSteps:=1000000) (disch:=first|exact Lb rfl|omega) only [AXS,AXB,J.dst,reduceIte,Z1,Z2,Z3,Z4,Z5]
    have hv0 : valL x.by_ (((l.take k).map fun (o : Out) => (o.by_,(1 : Int))) ++ [(x.by_,0)]) = 0 := by unfold valL; rw [fndL_snoc (seen_keys.2 hno)]
    rw [hv0,i64_wrap (by omega) (by omega),wL_raw]
    refine raw_estore (j := ((l.take k).map fun (o : Out) => (o.by_,(1 : Int))).length) (t := x.by_) (u := 0) rfl rfl rfl rfl M5 (by simp) ?_
    intro h6 u6 M6
    refine ⟨fun b hb => u6.ne b hb.2,?_⟩
    simp (maxSteps:=1000000) (disch:=first|exact Lb rfl|omega) only [AXS,AXB,J.dst,reduceIte,Z1,Z2,Z3,Z4,Z5]
    have y5 := u5.size
    have y6 := u6.size
    have hset : (((l.take k).map fun (o : Out) => (o.by_,(1 : Int))) ++ [(x.by_,0)]).set ((l.take k).map fun (o : Out) => (o.by_,(1 : Int))).length (x.by_,0 + 1) = ((l.take k).map fun (o : Out) => (o.by_,(1 : Int))) ++ [(x.by_,1)] := by
     rw [List.set_append_right _ _ (Nat.le_refl _)]; simp
    rw [hset] at M6
    refine back h6 _ 1 (u6.ext (u5.ext x04 (Nat.le_refl _)) (Nat.le_refl _)) (by omega) (fun b hb hn => (u6.ne b hn).trans (u5.ne b hn)) M6 ?_ ⟨fun _ => ⟨rfl,hsucc.symm⟩,fun h => absurd hno h⟩
    unfold valL
    rw [fndL_snoc (seen_keys.2 hno)]
   ·have hex' : ∃ y ∈ (l.take k).map (fun (o : Out) => (o.by_,(1 : Int))),x.by_ = y.1 := by
     refine Classical.byContradiction fun hn => hso (seen_keys.1 fun y hy e => hn ⟨y,hy,e⟩)
    obtain ⟨j,v,hf⟩ := fndL_mem (i := 0) hex'
    obtain ⟨j',hj',hl'⟩ := fndL_some hf
    have hjj : j = j' := by omega
    subst hjj
    have hv1 : v = 1 := by
     rw [List.getElem?_map] at hl'
     cases ho' : (l.take k)[j]? with
     | none => rw [ho'] at hl'; cases hl'
     | some y => rw [ho'] at hl'; have := Option.some.inj hl'; have := congrArg Prod.snd this; simpa using this.symm
    subst hv1
    have hv0 : valL x.by_ ((l.take k).map fun (o : Out) => (o.by_,(1 : Int))) = 1 := by unfold valL; rw [hf]
    refine raw_entryS rfl rfl rfl M hf ?_
    intro h5 u5 M5
    refine ⟨fun b hb => u5.ne b hb.2,?_⟩
    simp (maxSteps:=1000000) (disch:=first|exact Lb rfl|omega) only [AXS,AXB,J.dst,reduceIte,Z1,Z2,Z3,Z4,Z5]
    rw [wL_raw]
    refine raw_lookup rfl rfl rfl M5 ?_
    refine ⟨fun _ _ => rfl,?_⟩
    simp (maxSteps:=1000000) (disch:=first|exact Lb rfl|omega) only [AXS,AXB,J.dst,reduceIte,Z1,Z2,Z3,Z4,Z5]
    rw [hv0,i64_wrap (by omega) (by omega),wL_raw]
    refine raw_estore (j := j) (t := x.by_) (u := 1) rfl rfl rfl rfl M5 hl' ?_
    intro h6 u6 M6
    refine ⟨fun b hb => u6.ne b hb.2,?_⟩
    simp (maxSteps:=1000000) (disch:=first|exact Lb rfl|omega) only [AXS,AXB,J.dst,reduceIte,Z1,Z2,Z3,Z4,Z5]
    have y5 := u5.size
    have y6 := u6.size
    refine back h6 _ 2 (u6.ext (u5.ext x04 (Nat.le_refl _)) (Nat.le_refl _)) (by omega) (fun b hb hn => (u6.ne b hn).trans (u5.ne b hn)) M6 ?_ ⟨fun h => absurd h hso,fun _ => rfl⟩
    unfold valL
    have h0 : fndL x.by_ ((l.take k).map fun (o : Out) => (o.by_,(1 : Int))) 0 = some (0 + j,1) := by rw [hf]; simp
    rw [fndL_set h0]
    rfl
 ·have hkl : k = l.length := by have := of_decide_eq_false hh; omega
  subst hkl
  refine hex _ _ ?_
  (try simp (maxSteps:=1000000) (disch:=first|exact Lb rfl|omega) only [AXS,AXB,J.dst,reduceIte,Z1,Z2,Z3,Z4,Z5]); rw [f102c13_eq]; (try simp (maxSteps:=1000000) (disch:=first|exact Lb rfl|omega) only [AXS,AXB,J.dst,reduceIte,Z1,Z2,Z3,Z4,Z5,f102r9])
  rw [List.take_length] at ho
  exact hR true h2 ⟨fun _ => ho,fun _ => rfl⟩ x2
structure MayPrt (p : Prt) : Prop where
 cells : MayP p.cells
 e0 : 0 ≤ p.s.epoch
 e1 : p.s.epoch ≤ mostEpoch
 low : p.s.low ≤ p.s.closed ∨ p.s.low = 0
 records : OnceP p.records
 done : OnceP p.done
theorem mayM_ok {B : Nat → Prop} (pv : PrV) (p : Prt) (h : Heap) (S : PrR B h pv p) (hn : p.cells.length ≤ big) (F : ∀ c ∈ p.cells,c.vers.length ≤ big) (hr : p.records.length ≤ 1000000) (hd : p.done.length ≤ 1000000) {R : Value → Heap → Prop}
  (hR : ∀ (b : Bool) h',(b = true ↔ MayPrt p) → Ext h h' → R (.bool b) h') : CallsH Try.prog 60 [.agg (ePr pv).toArray] h R := by
 have hrn := S.rn
 have hdn := S.dn
 have hm : mostEpoch = 1099511627776 := rfl
 have hs := S.s
 refine f60ok (by simp) ?_
 (try simp (maxSteps:=1000000) (disch:=first|exact Lb rfl|omega) only [AXS,AXB,J.dst,reduceIte,Z1,Z2,Z3,Z4,Z5]); rw [f60c0_eq]; (try simp (maxSteps:=1000000) (disch:=first|exact Lb rfl|omega) only [AXS,AXB,J.dst,reduceIte,Z1,Z2,Z3,Z4,Z5,f60r0])
 refine wL_boxN rfl ?_; rintro b1 h1 x1 s1 hb1 (B1 : Blk _ _ _ (ePr pv))
 try simp (maxSteps:=1000000) (disch:=first|exact Lb rfl|omega) only [AXS,AXB,J.dst,reduceIte,Z1,Z2,Z3,Z4,Z5]
 rw [f60c1_eq]
 simp (maxSteps:=1000000) (disch:=first|exact Lb rfl|omega) only [AXJ,AXS,AXB,J.dst,reduceIte,Z1,Z2,Z3,Z4,Z5,f60r1,B1.cel,ePr,S.cn]
 refine may_ok p.cells _ (S.cells.ext x1) hn F ?_
 intro bm hbm h2 x2
 refine ⟨trivial,?_⟩
 have B2 := B1.ext x2
 have x02 := x1.trans x2
 cases bm with
 | false =>
  simp (maxSteps:=1000000) (disch:=first|exact Lb rfl|omega) only [AXJ,AXS,AXB,J.dst,reduceIte,Z1,Z2,Z3,Z4,Z5,↓br_TT,↓br_TF,↓br_FT,↓br_FF]
  simp (maxSteps:=1000000) (disch:=first|exact Lb rfl|omega) only [AXJ,AXS,AXB,J.dst,reduceIte,Z1,Z2,Z3,Z4,Z5,↓br_TT,↓br_TF,↓br_FT,↓br_FF,f60r1a]
  simp (maxSteps:=1000000) (disch:=first|exact Lb rfl|omega) only [AXJ,AXS,AXB,J.dst,reduceIte,Z1,Z2,Z3,Z4,Z5,↓br_TT,↓br_TF,↓br_FT,↓br_FF,f60r1b]
  simp (maxSteps:=1000000) (disch:=first|exact Lb rfl|omega) only [AXJ,AXS,AXB,J.dst,reduceIte,Z1,Z2,Z3,Z4,Z5,↓br_TT,↓br_TF,↓br_FT,↓br_FF,f60r1c]
  simp (maxSteps:=1000000) (disch:=first|exact Lb rfl|omega) only [AXJ,AXS,AXB,J.dst,reduceIte,Z1,Z2,Z3,Z4,Z5,↓br_TT,↓br_TF,↓br_FT,↓br_FF,f60r1d]
  try simp (maxSteps:=1000000) (disch:=first|exact Lb rfl|omega) only [AXJ,AXS,AXB,J.dst,reduceIte,Z1,Z2,Z3,Z4,Z5,f60r1e]
  exact hR false _ ⟨fun h => (by cases h),fun M => (by have := hbm.2 M.cells; cases this)⟩ x02
 | true =>
 simp (maxSteps:=1000000) (disch:=first|exact Lb rfl|omega) only [AXJ,AXS,AXB,J.dst,reduceIte,Z1,Z2,Z3,Z4,Z5,↓br_TT,↓br_TF,↓br_FT,↓br_FF,B2.cel,ePr,hrn]
 refine onceM_ok p.records _ (S.records.ext x02) hr ?_
 intro b3 h3 hb3 x3
 refine ⟨trivial,?_⟩
 have B3 := B2.ext x3
 have x03 := x02.trans x3
 cases b3 with
 | false =>
  try simp (maxSteps:=1000000) (disch:=first|exact Lb rfl|omega) only [AXJ,AXS,AXB,J.dst,reduceIte,Z1,Z2,Z3,Z4,Z5,↓br_TT,↓br_TF,↓br_FT,↓br_FF]
  simp (maxSteps:=1000000) (disch:=first|exact Lb rfl|omega) only [AXJ,AXS,AXB,J.dst,reduceIte,Z1,Z2,Z3,Z4,Z5,↓br_TT,↓br_TF,↓br_FT,↓br_FF,f60r1a]
  simp (maxSteps:=1000000) (disch:=first|exact Lb rfl|omega) only [AXJ,AXS,AXB,J.dst,reduceIte,Z1,Z2,Z3,Z4,Z5,↓br_TT,↓br_TF,↓br_FT,↓br_FF,f60r1b]
  simp (maxSteps:=1000000) (disch:=first|exact Lb rfl|omega) only [AXJ,AXS,AXB,J.dst,reduceIte,Z1,Z2,Z3,Z4,Z5,↓br_TT,↓br_TF,↓br_FT,↓br_FF,f60r1c]
  simp (maxSteps:=1000000) (disch:=first|exact Lb rfl|omega) only [AXJ,AXS,AXB,J.dst,reduceIte,Z1,Z2,Z3,Z4,Z5,↓br_TT,↓br_TF,↓br_FT,↓br_FF,f60r1d]
  try simp (maxSteps:=1000000) (disch:=first|exact Lb rfl|omega) only [AXJ,AXS,AXB,J.dst,reduceIte,Z1,Z2,Z3,Z4,Z5,f60r1e]
  exact hR false _ ⟨fun h => (by cases h),fun M => (by have := hb3.2 M.records; cases this)⟩ x03
 | true =>
 try simp (maxSteps:=1000000) (disch:=first|exact Lb rfl|omega) only [AXJ,AXS,AXB,J.dst,reduceIte,Z1,Z2,Z3,Z4,Z5,↓br_TT,↓br_TF,↓br_FT,↓br_FF]
 simp (maxSteps:=1000000) (disch:=first|exact Lb rfl|omega) only [AXJ,AXS,AXB,J.dst,reduceIte,Z1,Z2,Z3,Z4,Z5,↓br_TT,↓br_TF,↓br_FT,↓br_FF,f60r1a,B3.cel,ePr,hdn]
 refine onceM_ok p.done _ (S.done.ext x03) hd ?_
 intro b4 h4 hb4 x4
 refine ⟨trivial,?_⟩
 have B4 := B3.ext x4
 have x04 := x03.trans x4
 cases b4 with
 | false =>
  try simp (maxSteps:=1000000) (disch:=first|exact Lb rfl|omega) only [AXJ,AXS,AXB,J.dst,reduceIte,Z1,Z2,Z3,Z4,Z5,↓br_TT,↓br_TF,↓br_FT,↓br_FF]
  simp (maxSteps:=1000000) (disch:=first|exact Lb rfl|omega) only [AXJ,AXS,AXB,J.dst,reduceIte,Z1,Z2,Z3,Z4,Z5,↓br_TT,↓br_TF,↓br_FT,↓br_FF,f60r1b]
  simp (maxSteps:=1000000) (disch:=first|exact Lb rfl|omega) only [AXJ,AXS,AXB,J.dst,reduceIte,Z1,Z2,Z3,Z4,Z5,↓br_TT,↓br_TF,↓br_FT,↓br_FF,f60r1c]
  simp (maxSteps:=1000000) (disch:=first|exact Lb rfl|omega) only [AXJ,AXS,AXB,J.dst,reduceIte,Z1,Z2,Z3,Z4,Z5,↓br_TT,↓br_TF,↓br_FT,↓br_FF,f60r1d]
  try simp (maxSteps:=1000000) (disch:=first|exact Lb rfl|omega) only [AXJ,AXS,AXB,J.dst,reduceIte,Z1,Z2,Z3,Z4,Z5,f60r1e]
  exact hR false _ ⟨fun h => (by cases h),fun M => (by have := hb4.2 M.done; cases this)⟩ x04
 | true =>
 try simp (maxSteps:=1000000) (disch:=first|exact Lb rfl|omega) only [AXJ,AXS,AXB,J.dst,reduceIte,Z1,Z2,Z3,Z4,Z5,↓br_TT,↓br_TF,↓br_FT,↓br_FF]
 simp (maxSteps:=1000000) (disch:=first|exact Lb rfl|omega) only [AXJ,AXS,AXB,J.dst,reduceIte,Z1,Z2,Z3,Z4,Z5,↓br_TT,↓br_TF,↓br_FT,↓br_FF,f60r1b,B4.cel,ePr,hs]
 simp (maxSteps:=1000000) (disch:=first|exact Lb rfl|omega) only [AXJ,AXS,AXB,J.dst,reduceIte,Z1,Z2,Z3,Z4,Z5,f60r1c,B4.cel,ePr,hs]
 simp (maxSteps:=1000000) (disch:=first|exact Lb rfl|omega) only [AXJ,AXS,AXB,J.dst,reduceIte,Z1,Z2,Z3,Z4,Z5,f60r1d,B4.cel,ePr,hs]
 simp (maxSteps:=1000000) (disch:=first|exact Lb rfl|omega) only [AXJ,AXS,AXB,J.dst,reduceIte,Z1,Z2,Z3,Z4,Z5,f60r1e]
 refine hR _ _ ?_ x04
 simp only [Bool.and_eq_true,Bool.or_eq_true,decide_eq_true_eq,beq_iff_eq]
 constructor
 ·rintro ⟨⟨h1,h2⟩,h3⟩
  exact ⟨hbm.1 rfl,h1,by omega,h3,hb3.1 rfl,hb4.1 rfl⟩
 ·intro M
  exact ⟨⟨M.e0,by have := M.e1; omega⟩,M.low⟩
theorem rmayM_ok {B : Nat → Prop} (pv : PrV) (p : Prt) (h : Heap) (S : PrR B h pv p) (hn : p.cells.length ≤ big) (F : ∀ c ∈ p.cells,c.vers.length ≤ big) (hr : p.records.length ≤ 1000000) (hd : p.done.length ≤ 1000000)
  (hrc : p.records.length ≤ pv.rc) (hdc : p.done.length ≤ pv.dc) {R : Value → Heap → Prop}
  (hR : ∀ (b : Bool) h',(b = true ↔ MayPrt p) → Ext h h' → R (.bool b) h') : CallsH Try.prog 61 [.agg (ePr pv).toArray] h R := by
 have hrn := S.rn
 have hdn := S.dn
 have hm : mostEpoch = 1099511627776 := rfl
 have hs := S.s
 refine f61ok (by simp) ?_
 (try simp (maxSteps:=1000000) (disch:=first|exact Lb rfl|omega) only [AXS,AXB,J.dst,reduceIte,Z1,Z2,Z3,Z4,Z5]); rw [f61c0_eq]; (try simp (maxSteps:=1000000) (disch:=first|exact Lb rfl|omega) only [AXS,AXB,J.dst,reduceIte,Z1,Z2,Z3,Z4,Z5,f61r0])
 refine wL_boxN rfl ?_; rintro b1 h1 x1 s1 hb1 (B1 : Blk _ _ _ (ePr pv))
 try simp (maxSteps:=1000000) (disch:=first|exact Lb rfl|omega) only [AXS,AXB,J.dst,reduceIte,Z1,Z2,Z3,Z4,Z5]
 rw [f61c1_eq]
 simp (maxSteps:=1000000) (disch:=first|exact Lb rfl|omega) only [AXJ,AXS,AXB,J.dst,reduceIte,Z1,Z2,Z3,Z4,Z5,f61r1,B1.cel,ePr,S.cn]
 refine rmay_ok p.cells _ (S.cells.ext x1) hn F ?_
 intro bm hbm h2 x2
 refine ⟨trivial,?_⟩
 have B2 := B1.ext x2
 have x02 := x1.trans x2
 simp (maxSteps:=1000000) (disch:=first|exact Lb rfl|omega) only [AXJ,AXS,AXB,J.dst,reduceIte,Z1,Z2,Z3,Z4,Z5,B2.cel,ePr,hs]
 simp (maxSteps:=1000000) (disch:=first|exact Lb rfl|omega) only [AXJ,AXS,AXB,J.dst,reduceIte,Z1,Z2,Z3,Z4,Z5,f61r1a,B2.cel,ePr,hs]
 simp (maxSteps:=1000000) (disch:=first|exact Lb rfl|omega) only [AXJ,AXS,AXB,J.dst,reduceIte,Z1,Z2,Z3,Z4,Z5,f61r1b,B2.cel,ePr,hs]
 (try simp (maxSteps:=1000000) (disch:=first|exact Lb rfl|omega) only [AXS,AXB,J.dst,reduceIte,Z1,Z2,Z3,Z4,Z5]); rw [f61c2_eq]; (try simp (maxSteps:=1000000) (disch:=first|exact Lb rfl|omega) only [AXS,AXB,J.dst,reduceIte,Z1,Z2,Z3,Z4,Z5])
 refine ⟨fun q => ?_,fun q => ?_⟩
 ·(try simp (maxSteps:=1000000) (disch:=first|exact Lb rfl|omega) only [AXS,AXB,J.dst,reduceIte,Z1,Z2,Z3,Z4,Z5]); rw [f61c3_eq]; (try simp (maxSteps:=1000000) (disch:=first|exact Lb rfl|omega) only [AXS,AXB,J.dst,reduceIte,Z1,Z2,Z3,Z4,Z5,f61r2])
  refine hR false _ ⟨fun h => (by cases h),fun M => ?_⟩ x02
  exfalso
  have h0 := M.e0
  have h1 := M.e1
  have h3 := M.low
  rw [hbm.2 M.cells] at q
  simp only [Bool.not_true,Bool.false_or,Bool.or_eq_true,Bool.and_eq_true,decide_eq_true_eq,bne_iff_ne] at q
  omega
 ·have q' := q
  simp only [Bool.or_eq_false_iff,Bool.and_eq_false_iff,Bool.not_eq_false',decide_eq_false_iff_not,bne_eq_false_iff_eq] at q'
  try simp (maxSteps:=1000000) (disch:=first|exact Lb rfl|omega) only [AXS,AXB,J.dst,reduceIte,Z1,Z2,Z3,Z4,Z5]
  rw [f61c4_eq]
  simp (maxSteps:=1000000) (disch:=first|exact Lb rfl|omega) only [AXJ,AXS,AXB,J.dst,reduceIte,Z1,Z2,Z3,Z4,Z5,f61r3,B2.cel,ePr,hrn]
  refine ronce_ok p.records _ (S.records.ext x02) hr hrc ?_
  intro b3 h3 hb3 x3
  refine ⟨trivial,?_⟩
  have B3 := B2.ext x3
  have x03 := x02.trans x3
  cases b3 with
  | false =>
   simp (maxSteps:=1000000) (disch:=first|exact Lb rfl|omega) only [AXJ,AXS,AXB,J.dst,reduceIte,Z1,Z2,Z3,Z4,Z5,↓br_TT,↓br_TF,↓br_FT,↓br_FF]
   try simp (maxSteps:=1000000) (disch:=first|exact Lb rfl|omega) only [AXJ,AXS,AXB,J.dst,reduceIte,Z1,Z2,Z3,Z4,Z5,f61r3a]
   exact hR false _ ⟨fun h => (by cases h),fun M => (by have := hb3.2 M.records; cases this)⟩ x03
  | true =>
   simp (maxSteps:=1000000) (disch:=first|exact Lb rfl|omega) only [AXJ,AXS,AXB,J.dst,reduceIte,Z1,Z2,Z3,Z4,Z5,↓br_TT,↓br_TF,↓br_FT,↓br_FF,B3.cel,ePr,hdn]
   refine ronce_ok p.done _ (S.done.ext x03) hd hdc ?_
   intro b4 h4 hb4 x4
   refine ⟨trivial,?_⟩
   try simp (maxSteps:=1000000) (disch:=first|exact Lb rfl|omega) only [AXJ,AXS,AXB,J.dst,reduceIte,Z1,Z2,Z3,Z4,Z5]
   try simp (maxSteps:=1000000) (disch:=first|exact Lb rfl|omega) only [AXJ,AXS,AXB,J.dst,reduceIte,Z1,Z2,Z3,Z4,Z5,f61r3a]
   refine hR _ _ ?_ (x03.trans x4)
   constructor
   ·intro e
    exact ⟨hbm.1 (by simpa using q'.1.1.1),by omega,by omega,by omega,hb3.1 rfl,hb4.1 e⟩
   ·intro M
    exact hb4.2 M.done
end Go.Proofs.Ytefghfgmkndikaa
namespace Go.Proofs.Ytefghfgmkndikaa
open Go Go.AX
/-- What is read, or why not. -/
def pairsP (p : Prt) (t : Stamp) (ss : List Spn) : List Pai × RpS :=
 match ss.find? fun s => (blocksL t (cellsIn p s)).2 with
 | some s => ([],(lockedR (blocksL t (cellsIn p s)).1).s)
 | none => if (readL p t ss []).2 = 0 then ((readL p t ss []).1,okS) else ([],(errR (readL p t ss []).2).s)
theorem noRep_one (s : RpS) : ∀ v ∈ (Value.agg (eRp ⟨s,none,0,0⟩).toArray).cells.toList,v.oneCell' = true := eRp_one ⟨s,none,0,0⟩
set_option maxHeartbeats 4000000 in
theorem rpairs_ok {B B' : Nat → Prop} {n sc : Nat} {sa : Option Addr} (pv : PrV) (p : Prt) (t : Stamp) (ss : List Spn) (h : Heap) (S : PrR B h pv p) (Z : SlF B' h eSpn sa ss) (g : SzP n p) (hn : n ≤ 900000) (hs : ss.length ≤ big) {R : Value → Heap → Prop}
  (hR : ∀ pa pc h',Own h.size h' 99 2 pa (pairsP p t ss).1.length pc ((pairsP p t ss).1.flatMap ePai) → Ext h h' → R (.tuple #[.slice pa (pairsP p t ss).1.length pc,.agg (eRp ⟨(pairsP p t ss).2,none,0,0⟩).toArray]) h') :
  CallsH Try.prog 98 [.agg (ePr pv).toArray,.agg (eStamp t).toArray,.slice sa ss.length sc] h R := by
 have hbig : big = 1000000 := rfl
 have hcn := S.cn
 refine f98ok (by simp) ?_
 (try simp (maxSteps:=1000000) (disch:=first|exact Lb rfl|omega) only [AXS,AXB,J.dst,reduceIte,Z1,Z2,Z3,Z4,Z5]); rw [f98c0_eq]; (try simp (maxSteps:=1000000) (disch:=first|exact Lb rfl|omega) only [AXS,AXB,J.dst,reduceIte,Z1,Z2,Z3,Z4,Z5,f98r0])
 refine wL_boxN rfl ?_; rintro b3 h1 e1 s1 hb3 (B3 : Blk _ _ _ (ePr pv))
 refine wL_boxN rfl ?_; rintro b4 h2 e2 s2 hb4 (B4 : Blk _ _ _ (eStamp t))
 replace B3 := B3.ext e2
 try simp (maxSteps:=1000000) (disch:=first|exact Lb rfl|omega) only [AXS,AXB,J.dst,reduceIte,Z1,Z2,Z3,Z4,Z5]
 refine wL_newN ?_; rintro b7 h3 e3 s3 hb7 B7
 replace B3 := B3.ext e3; replace B4 := B4.ext e3
 have e03 := (e1.trans e2).trans e3
 have z03 := e03.size
 (try simp (maxSteps:=1000000) (disch:=first|exact Lb rfl|omega) only [AXS,AXB,J.dst,reduceIte,Z1,Z2,Z3,Z4,Z5]); rw [f98c1_eq]; (try simp (maxSteps:=1000000) (disch:=first|exact Lb rfl|omega) only [AXS,AXB,J.dst,reduceIte,Z1,Z2,Z3,Z4,Z5,f98r1]); rw [f98c2_eq]; (try simp (maxSteps:=1000000) (disch:=first|exact Lb rfl|omega) only [AXS,AXB,J.dst,reduceIte,Z1,Z2,Z3,Z4,Z5,f98r2])
 rw [f98c3_eq]
 refine loop_in (fun m σ h' => Ext h3 h' ∧ ∃ k : Nat,k + m = ss.length ∧ (∀ j s,j < k → ss[j]? = some s → (blocksL t (cellsIn p s)).2 = false) ∧
  σ = [(2,.slice sa ss.length sc),(3,ptr b3 0),(4,ptr b4 0),(7,ptr b7 0),(8,.slice none 0 0),(9,vi k)]) ss.length ⟨Ext.refl _,0,by omega,by intros; omega,rfl⟩ ?_
 rintro m σ h4 ⟨e4,k,hk,hnb,rfl⟩ Q' hnx hex hrt _
 have e04 := e03.trans e4
 replace B3 := B3.ext e4; replace B4 := B4.ext e4; replace B7 := B7.ext e4
 (try simp (maxSteps:=1000000) (disch:=first|exact Lb rfl|omega) only [AXS,AXB,J.dst,reduceIte,Z1,Z2,Z3,Z4,Z5]); rw [f98c4_eq]; (try simp (maxSteps:=1000000) (disch:=first|exact Lb rfl|omega) only [AXS,AXB,J.dst,reduceIte,Z1,Z2,Z3,Z4,Z5,f98r3]); rw [f98c5_eq]; (try simp (maxSteps:=1000000) (disch:=first|exact Lb rfl|omega) only [AXS,AXB,J.dst,reduceIte,Z1,Z2,Z3,Z4,Z5])
 refine ⟨fun hh => ?_,fun hh => ?_⟩
 ·have hkl : k < ss.length := by have := of_decide_eq_true hh; omega
  obtain ⟨s,hx⟩ := get_ex hkl
  obtain ⟨b',o,rfl,_,hrow⟩ := (Z.ext e04).elem eSpn_len hx
  have l3 := B3.lt
  have l4 := B4.lt
  have lb := hrow.lt (by rw [eSpn_len]; omega)
  have S4 := S.ext e04
  try simp (maxSteps:=1000000) (disch:=first|exact Lb rfl|omega) only [AXS,AXB,J.dst,reduceIte,Z1,Z2,Z3,Z4,Z5]
  rw [f98c6_eq,f98c7_eq]
  refine drt_lt ?_
  simp only [f98r4,wT_one,wT_alt,wT_nil]
  simp (maxSteps:=1000000) (disch:=first|exact Lb rfl|omega) only [AXS,AXB,J.dst,reduceIte,Z1,Z2,Z3,Z4,Z5,B3.cel,ePr,hcn,row_spn hrow,B4.rd,eStamp]
  have app : ∀ h6 b10,Ext h4 h6 → Blk h6 b10 72 (eLck (blocksL t (cellsIn p s)).1) → wC Try.prog f98c8 (X.inBlock 1 (X.then (fun σ h => wC Try.prog f98c11 Q' σ h) Q'))
    [(2,.slice (some ⟨b',o,none⟩) ss.length sc),(3,ptr b3 0),(4,ptr b4 0),(7,ptr b7 0),(8,.slice none 0 0),(9,vi k),(10,ptr b10 0),(11,.bool (blocksL t (cellsIn p s)).2)] h6 := by
   intro h6 b10 e6 B10
   replace B7 := B7.ext e6
   (try simp (maxSteps:=1000000) (disch:=first|exact Lb rfl|omega) only [AXS,AXB,J.dst,reduceIte,Z1,Z2,Z3,Z4,Z5]); rw [f98c8_eq]; (try simp (maxSteps:=1000000) (disch:=first|exact Lb rfl|omega) only [AXS,AXB,J.dst,reduceIte,Z1,Z2,Z3,Z4,Z5,f98r5]); rw [f98c9_eq]; (try simp (maxSteps:=1000000) (disch:=first|exact Lb rfl|omega) only [AXS,AXB,J.dst,reduceIte,Z1,Z2,Z3,Z4,Z5])
   refine ⟨fun q => ?_,fun q => ?_⟩
   ·(try simp (maxSteps:=1000000) (disch:=first|exact Lb rfl|omega) only [AXS,AXB,J.dst,reduceIte,Z1,Z2,Z3,Z4,Z5]); rw [f98c10_eq]; (try simp (maxSteps:=1000000) (disch:=first|exact Lb rfl|omega) only [AXS,AXB,J.dst,reduceIte,Z1,Z2,Z3,Z4,Z5,f98r6,B10.rd,eLck])
    refine rlocked_ok (blocksL t (cellsIn p s)).1 _ ?_
    intro h7 e7
    refine ⟨trivial,?_⟩
    replace B7 := B7.ext e7
    try simp (maxSteps:=1000000) (disch:=first|exact Lb rfl|omega) only [AXS,AXB,J.dst,reduceIte,Z1,Z2,Z3,Z4,Z5]
    refine wL_stN rfl rfl rfl B7 (by decide) (noRep_one (lockedR (blocksL t (cellsIn p s)).1).s) ?_
    rintro h8 u8 (B8 : Blk _ _ _ (eRp ⟨(lockedR (blocksL t (cellsIn p s)).1).s,none,0,0⟩))
    try simp (maxSteps:=1000000) (disch:=first|exact Lb rfl|omega) only [AXS,AXB,J.dst,reduceIte,Z1,Z2,Z3,Z4,Z5]
    refine hrt _ _ ?_
    simp (maxSteps:=1000000) (disch:=first|exact Lb rfl|omega) only [AXS,AXB,J.dst,reduceIte,Z1,Z2,Z3,Z4,Z5,B8.rd,eRp]
    have hp : pairsP p t ss = ([],(lockedR (blocksL t (cellsIn p s)).1).s) := by
     unfold pairsP
     rw [findIdx_some hx q hnb]
    have := hR none 0 h8 (by rw [hp]; exact Own.nil _ _ _ _) (u8.ext (e04.trans (e6.trans e7)) (by omega))
    rw [hp] at this
    exact this
   ·(try simp (maxSteps:=1000000) (disch:=first|exact Lb rfl|omega) only [AXS,AXB,J.dst,reduceIte,Z1,Z2,Z3,Z4,Z5]); rw [f98c11_eq]; (try simp (maxSteps:=1000000) (disch:=first|exact Lb rfl|omega) only [AXS,AXB,J.dst,reduceIte,Z1,Z2,Z3,Z4,Z5,f98r7])
    rw [i64_wrap (by omega) (by omega)]
    refine hnx (m - 1) _ _ (by omega) ⟨e4.trans e6,k + 1,by omega,?_,rfl⟩
    intro j s' hj hs'
    rcases Nat.lt_or_ge j k with hlt | hge
    ·exact hnb j s' hlt hs'
    ·have : j = k := by omega
     subst this
     rw [hx] at hs'; cases hs'; exact q
  refine ⟨by omega,by omega,by omega,by omega,by omega,?_,?_⟩
  ·refine rblocksG g.cells hn S4.cells s t ?_
   intro h5 e5
   refine ⟨kp_ext (Nat.le_refl _) e5,?_⟩
   try simp (maxSteps:=1000000) (disch:=first|exact Lb rfl|omega) only [AXS,AXB,J.dst,reduceIte,Z1,Z2,Z3,Z4,Z5]
   have z5 := e5.size
   refine wL_newD e5.size ?_; rintro b10 h6 e6 s6 hb10 B10
   try simp (maxSteps:=1000000) (disch:=first|exact Lb rfl|omega) only [AXS,AXB,J.dst,reduceIte,Z1,Z2,Z3,Z4,Z5]
   refine wL_stD rfl rfl (by omega) rfl B10 (by decide) (eLck_one _) ?_
   rintro h7 u7 (B10 : Blk _ _ _ (eLck (blocksL t (cellsIn p s)).1))
   try simp (maxSteps:=1000000) (disch:=first|exact Lb rfl|omega) only [AXS,AXB,J.dst,reduceIte,Z1,Z2,Z3,Z4,Z5]
   exact app h7 b10 (u7.ext (e5.trans e6) (by omega)) B10
  ·refine wL_newD (Nat.le_refl _) ?_; rintro b10 h6 e6 s6 hb10 B10
   try simp (maxSteps:=1000000) (disch:=first|exact Lb rfl|omega) only [AXS,AXB,J.dst,reduceIte,Z1,Z2,Z3,Z4,Z5]
   refine rblocksG g.cells hn (S4.ext e6).cells s t ?_
   intro h5 e5
   refine ⟨kp_ext e6.size e5,?_⟩
   try simp (maxSteps:=1000000) (disch:=first|exact Lb rfl|omega) only [AXS,AXB,J.dst,reduceIte,Z1,Z2,Z3,Z4,Z5]
   have z5 := e5.size
   refine wL_stD rfl rfl (by omega) rfl (B10.ext e5) (by decide) (eLck_one _) ?_
   rintro h7 u7 (B10 : Blk _ _ _ (eLck (blocksL t (cellsIn p s)).1))
   try simp (maxSteps:=1000000) (disch:=first|exact Lb rfl|omega) only [AXS,AXB,J.dst,reduceIte,Z1,Z2,Z3,Z4,Z5]
   exact app h7 b10 (u7.ext (e6.trans e5) (by omega)) B10
 ·have hkl : k = ss.length := by have := of_decide_eq_false hh; omega
  subst hkl
  have hnone : (ss.find? fun s => (blocksL t (cellsIn p s)).2) = none := findIdx_none hnb
  refine hex _ _ ?_
  clear hk hnb hh hnx hex hrt
  (try simp (maxSteps:=1000000) (disch:=first|exact Lb rfl|omega) only [AXS,AXB,J.dst,reduceIte,Z1,Z2,Z3,Z4,Z5]); rw [f98c12_eq]; (try simp (maxSteps:=1000000) (disch:=first|exact Lb rfl|omega) only [AXS,AXB,J.dst,reduceIte,Z1,Z2,Z3,Z4,Z5,f98r8])
  rw [f98c13_eq]
  refine loop_in (fun m σ h' => Ext h4 h' ∧ ∃ (k : Nat) (acc : List Pai) (pa : Option Addr) (pc : Nat),k + m = ss.length ∧ readL p t ss [] = readL p t (ss.drop k) acc ∧ acc.length ≤ 512 ∧ Own h4.size h' 99 2 pa acc.length pc (acc.flatMap ePai) ∧
   σ = [(2,.slice sa ss.length sc),(3,ptr b3 0),(4,ptr b4 0),(7,ptr b7 0),(8,.slice pa acc.length pc),(12,vi k)]) ss.length ⟨Ext.refl _,0,[],none,0,by omega,rfl,by simp,Own.nil _ _ _ _,rfl⟩ ?_
  rintro m σ h5 ⟨e5,k,acc,pa,pc,hk,hrl,hal,O5,rfl⟩ Q' hnx hex hrt _
  have e05 := e04.trans e5
  replace B3 := B3.ext e5; replace B4 := B4.ext e5; replace B7 := B7.ext e5
  have z04 := e04.size
  have z5 := e5.size
  have z4 := e4.size
  (try simp (maxSteps:=1000000) (disch:=first|exact Lb rfl|omega) only [AXS,AXB,J.dst,reduceIte,Z1,Z2,Z3,Z4,Z5]); rw [f98c14_eq]; (try simp (maxSteps:=1000000) (disch:=first|exact Lb rfl|omega) only [AXS,AXB,J.dst,reduceIte,Z1,Z2,Z3,Z4,Z5,f98r9]); rw [f98c15_eq]; (try simp (maxSteps:=1000000) (disch:=first|exact Lb rfl|omega) only [AXS,AXB,J.dst,reduceIte,Z1,Z2,Z3,Z4,Z5])
  refine ⟨fun hh => ?_,fun hh => ?_⟩
  ·have hkl : k < ss.length := by have := of_decide_eq_true hh; omega
   obtain ⟨s,hx⟩ := get_ex hkl
   obtain ⟨b',o,rfl,_,hrow⟩ := (Z.ext e05).elem eSpn_len hx
   have hdrop : ss.drop k = s :: ss.drop (k + 1) := by
    rw [List.drop_eq_getElem_cons hkl]
    rw [List.getElem?_eq_getElem hkl] at hx; cases hx; rfl
   have l3 := B3.lt
   have l4 := B4.lt
   have lb := hrow.lt (by rw [eSpn_len]; omega)
   have S5 := S.ext e05
   try simp (maxSteps:=1000000) (disch:=first|exact Lb rfl|omega) only [AXS,AXB,J.dst,reduceIte,Z1,Z2,Z3,Z4,Z5]
   rw [f98c16_eq,f98c17_eq]
   refine drw_lt ?_
   simp (maxSteps:=1000000) (disch:=first|exact Lb rfl|omega) only [AXS,AXB,J.dst,reduceIte,Z1,Z2,Z3,Z4,Z5,f98r10,B3.cel,ePr,hcn,row_spn hrow,B4.rd,eStamp]
   repeat (with_reducible refine And.intro (by intros; omega) ?_)
   rw [i64_wrap (by omega) (by omega)]
   refine rscanG g.cells hn S5.cells s t (512 - acc.length) ?_
   intro xa xc h6 O6 e6
   refine ⟨kp_ext (Nat.le_refl _) e6,?_⟩
   try simp (maxSteps:=1000000) (disch:=first|exact Lb rfl|omega) only [AXS,AXB,J.dst,reduceIte,Z1,Z2,Z3,Z4,Z5]
   have hlen := scanL_len t (512 - acc.length) (withinL p.cells s)
   have hstep : readL p t (ss.drop k) acc = if (scanL t (512 - acc.length) (withinL p.cells s) []).2 = 0 then readL p t (ss.drop (k + 1)) (acc ++ (scanL t (512 - acc.length) (withinL p.cells s) []).1) else (acc,(scanL t (512 - acc.length) (withinL p.cells s) []).2) := by rw [hdrop]; rfl
   generalize scanL t (512 - acc.length) (withinL p.cells s) [] = sr at O6 hlen hstep ⊢
   replace B7 := B7.ext e6
   have z6 := e6.size
   (try simp (maxSteps:=1000000) (disch:=first|exact Lb rfl|omega) only [AXS,AXB,J.dst,reduceIte,Z1,Z2,Z3,Z4,Z5]); rw [f98c18_eq]; (try simp (maxSteps:=1000000) (disch:=first|exact Lb rfl|omega) only [AXS,AXB,J.dst,reduceIte,Z1,Z2,Z3,Z4,Z5,f98r11]); rw [f98c19_eq]; (try simp (maxSteps:=1000000) (disch:=first|exact Lb rfl|omega) only [AXS,AXB,J.dst,reduceIte,Z1,Z2,Z3,Z4,Z5])
   refine ⟨fun q => ?_,fun q => ?_⟩
   ·have hne : sr.2 ≠ 0 := by simpa using q
    (try simp (maxSteps:=1000000) (disch:=first|exact Lb rfl|omega) only [AXS,AXB,J.dst,reduceIte,Z1,Z2,Z3,Z4,Z5]); rw [f98c20_eq]; (try simp (maxSteps:=1000000) (disch:=first|exact Lb rfl|omega) only [AXS,AXB,J.dst,reduceIte,Z1,Z2,Z3,Z4,Z5,f98r12])
    refine wL_stN rfl rfl rfl B7 (by decide) (noRep_one (errR sr.2).s) ?_
    rintro h7 u7 (B8 : Blk _ _ _ (eRp ⟨(errR sr.2).s,none,0,0⟩))
    try simp (maxSteps:=1000000) (disch:=first|exact Lb rfl|omega) only [AXS,AXB,J.dst,reduceIte,Z1,Z2,Z3,Z4,Z5]
    refine hrt _ _ ?_
    simp (maxSteps:=1000000) (disch:=first|exact Lb rfl|omega) only [AXS,AXB,J.dst,reduceIte,Z1,Z2,Z3,Z4,Z5,B8.rd,eRp]
    have hp : pairsP p t ss = ([],(errR sr.2).s) := by
     unfold pairsP
     rw [hnone]
     simp only [hrl,hstep,if_neg hne]
    have := hR none 0 h7 (by rw [hp]; exact Own.nil _ _ _ _) (u7.ext (e05.trans e6) (by omega))
    rw [hp] at this
    exact this
   ·have he0 : sr.2 = 0 := by simpa using q
    rw [if_pos he0] at hstep
    have hl9 : acc.length + sr.1.length ≤ 512 := by
     rcases hlen he0 with h | h
     ·rw [h]; simpa using hal
     ·omega
    (try simp (maxSteps:=1000000) (disch:=first|exact Lb rfl|omega) only [AXS,AXB,J.dst,reduceIte,Z1,Z2,Z3,Z4,Z5]); rw [f98c21_eq]; (try simp (maxSteps:=1000000) (disch:=first|exact Lb rfl|omega) only [AXS,AXB,J.dst,reduceIte,Z1,Z2,Z3,Z4,Z5,f98r13])
    rw [wL_raw]
    refine raw_append slT45 rfl rfl rfl (O5.ext e6) (flat_len sr.1) (own_news O6) (one_flatMap ePai_one sr.1) (by unfold maxLen; omega) (by omega) (by omega) ?_
    intro pa' pc' h7 O7 G7 A7
    refine ⟨trivial,?_⟩
    try simp (maxSteps:=1000000) (disch:=first|exact Lb rfl|omega) only [AXS,AXB,J.dst,reduceIte,Z1,Z2,Z3,Z4,Z5]
    (try simp (maxSteps:=1000000) (disch:=first|exact Lb rfl|omega) only [AXS,AXB,J.dst,reduceIte,Z1,Z2,Z3,Z4,Z5]); rw [f98c22_eq]; (try simp (maxSteps:=1000000) (disch:=first|exact Lb rfl|omega) only [AXS,AXB,J.dst,reduceIte,Z1,Z2,Z3,Z4,Z5,f98r14])
    rw [i64_wrap (by omega) (by omega)]
    refine hnx (m - 1) _ _ (by omega) ⟨G7.ext (e5.trans e6) (fun j hj => (O5.ob j hj).1),k + 1,acc ++ sr.1,pa',pc',by omega,by rw [hrl,hstep],by rw [List.length_append]; exact hl9,by rw [List.length_append,List.flatMap_append]; exact O7,by rw [List.length_append]; rfl⟩
  ·have hkl : k = ss.length := by have := of_decide_eq_false hh; omega
   have hfin : readL p t ss [] = (acc,0) := by rw [hrl,hkl,List.drop_length]; rfl
   refine hex _ _ ?_
   (try simp (maxSteps:=1000000) (disch:=first|exact Lb rfl|omega) only [AXS,AXB,J.dst,reduceIte,Z1,Z2,Z3,Z4,Z5]); rw [f98c23_eq]; (try simp (maxSteps:=1000000) (disch:=first|exact Lb rfl|omega) only [AXS,AXB,J.dst,reduceIte,Z1,Z2,Z3,Z4,Z5,f98r15])
   refine wL_stN rfl rfl rfl B7 (by decide) (noRep_one okS) ?_
   rintro h7 u7 (B8 : Blk _ _ _ (eRp ⟨okS,none,0,0⟩))
   try simp (maxSteps:=1000000) (disch:=first|exact Lb rfl|omega) only [AXS,AXB,J.dst,reduceIte,Z1,Z2,Z3,Z4,Z5]
   simp (maxSteps:=1000000) (disch:=first|exact Lb rfl|omega) only [AXS,AXB,J.dst,reduceIte,Z1,Z2,Z3,Z4,Z5,B8.rd,eRp]
   have hp : pairsP p t ss = (acc,okS) := by
    unfold pairsP
    rw [hnone]
    simp only [hfin,if_true]
   have hob := O5.ob
   have := hR pa pc h7 (by rw [hp]; exact (O5.mono (by omega)).gr u7.gr (fun j hj e => by cases e; have := hob b7 hj; omega)) (u7.ext e05 (by omega))
   rw [hp] at this
   exact this
end Go.Proofs.Ytefghfgmkndikaa
namespace Go.Proofs.Ytefghfgmkndikaa
open Go Go.AX
theorem rlockG {B : Nat → Prop} {a : Option Addr} {c n : Nat} {cs : List Cell} {h : Heap} {R : Value → Heap → Prop} (g : Gd n cs) (hn : n ≤ 900000) (S : SlC B h a cs) (w : Wri) (l : Lck)
  (hR : ∀ a' c' h',Gd (n + 1) (lockL cs w l) → OwnC h.size h' a' (lockL cs w l).length c' (lockL cs w l) → Ext h h' → R (.slice a' (lockL cs w l).length c') h') :
  CallsH Try.prog 79 [.slice a cs.length c,.agg (eWri w).toArray,.agg (eLck l).toArray] h R := by
 obtain ⟨z1,z2,z3,z4,z5,z6⟩ := szAll g.sz hn
 refine rlock_ok cs w l h S z1 z6 ?_
 intro a' n' c' h' O e
 obtain rfl := OwnC.len O
 rw [rlockL_lock g.good] at O ⊢
 exact hR _ _ _ (lockG' g w l) O e
theorem rsettleG {B : Nat → Prop} {a : Option Addr} {c n : Nat} {cs : List Cell} {h : Heap} {R : Value → Heap → Prop} (g : Gd n cs) (hn : n ≤ 900000) (S : SlC B h a cs) (by_ : Try4) (yes : Bool)
  (hR : ∀ a' c' h',OwnC h.size h' a' (settleL cs by_ yes).length c' (settleL cs by_ yes) → Ext h h' → R (.slice a' (settleL cs by_ yes).length c') h') :
  CallsH Try.prog 80 [.slice a cs.length c,.agg (eTry by_).toArray,.bool yes] h R := by
 obtain ⟨z1,z2,z3,z4,z5,z6⟩ := szAll g.sz hn
 refine rsettle_ok cs by_ yes h S z5 z2 ?_
 intro a' n' c' h' O e
 obtain rfl := OwnC.len O
 rw [rsettleL_eq g.good] at O ⊢
 exact hR _ _ _ O e
theorem rtrimG {B : Nat → Prop} {a : Option Addr} {c n : Nat} {cs : List Cell} {h : Heap} {R : Value → Heap → Prop} (g : Gd n cs) (hn : n ≤ 900000) (S : SlC B h a cs) (t : Stamp)
  (hR : ∀ a' c' h',OwnC h.size h' a' (trimL cs t).length c' (trimL cs t) → Ext h h' → R (.slice a' (trimL cs t).length c') h') :
  CallsH Try.prog 81 [.slice a cs.length c,.agg (eStamp t).toArray] h R := by
 obtain ⟨z1,z2,z3,z4,z5,z6⟩ := szAll g.sz hn
 refine rtrim_ok cs t h S z5 z2 ?_
 intro a' n' c' h' O e
 obtain rfl := OwnC.len O
 rw [rtrimL_eq g.good] at O ⊢
 exact hR _ _ _ O e
set_option maxHeartbeats 4000000 in
theorem rprep_ok {h0 h hc : Heap} {lo n : Nat} {B : Nat → Prop} (pv : PrV) (p : Prt) (cv : CmV) (c : Cmd) (x0 : Ext h0 h) (O : PrO h0.size lo hc h pv p) (C : CmR B h0 cv c) (g : SzP n p) (hn : n + c.writes.length ≤ 900000) {R : Value → Heap → Prop}
  (hR : ∀ pv' h' lo' hc',PrO h0.size lo' hc' h' pv' (prepP p c).1 → Ext h h' → (∀ b,b < h.size → ApP b lo hc pv → ApP b lo' hc' pv') → (prepP p c).2.pairs = [] → R (.tuple #[.agg (ePr pv').toArray,.agg (eRp ⟨(prepP p c).2.s,none,0,0⟩).toArray]) h') :
  CallsH Try.prog 100 [.agg (ePr pv).toArray,.agg (eCm cv).toArray] h R := by
 have hn' : n ≤ 900000 := by omega
 have hcs := C.s
 have hcw := C.wn
 have hps := O.s
 have hz := O.le
 have hx0 := x0.size
 have gd := g.done
 refine f100ok (by simp) ?_
 (try simp (maxSteps:=1000000) (disch:=first|exact Lb rfl|omega) only [AXS,AXB,J.dst,reduceIte,Z1,Z2,Z3,Z4,Z5]); rw [f100c0_eq]; (try simp (maxSteps:=1000000) (disch:=first|exact Lb rfl|omega) only [AXS,AXB,J.dst,reduceIte,Z1,Z2,Z3,Z4,Z5,f100r0])
 refine wL_boxN rfl ?_; rintro b2 h1 e1 s1 hb2 (B2 : Blk _ _ _ (ePr pv))
 refine wL_boxN rfl ?_; rintro b3 h2 e2 s2 hb3 (B3 : Blk _ _ _ (eCm cv))
 replace B2 := B2.ext e2
 try simp (maxSteps:=1000000) (disch:=first|exact Lb rfl|omega) only [AXS,AXB,J.dst,reduceIte,Z1,Z2,Z3,Z4,Z5]
 refine wL_newN ?_; rintro b4 h3 e3 s3 hb4 B4
 try simp (maxSteps:=1000000) (disch:=first|exact Lb rfl|omega) only [AXS,AXB,J.dst,reduceIte,Z1,Z2,Z3,Z4,Z5]
 refine wL_newN ?_; rintro b5 h4 e4 s4 hb5 B5
 replace B2 := B2.ext e3; replace B3 := B3.ext e3
 replace B2 := B2.ext e4; replace B3 := B3.ext e4; replace B4 := B4.ext e4
 have e04 := ((e1.trans e2).trans e3).trans e4
 have I4 : InP h0 h4 b2 pv p lo hc := ⟨x0.trans e04,O.exts e04,B2,⟨by omega,.inr (by omega)⟩,(O.ap' (b := b2) (by omega)).2.1,(O.ap' (b := b2) (by omega)).2.2⟩
 have fin : ∀ (hz : Heap) (pv' : PrV) (p' : Prt) (lo' : Nat) (hc' : Heap) (s : RpS) (hA hB : Heap),InP h0 hz b2 pv' p' lo' hc' → Ext h hz → (∀ b,b < h.size → ApP b lo hc pv → ApP b lo' hc' pv') → ApP b4 lo' hc' pv' → ApP b5 lo' hc' pv' →
   Upd b4 hz hA → Upd b5 hA hB → prepP p c = (p',⟨s,[]⟩) → R (.tuple #[.agg (ePr pv').toArray,.agg (eRp ⟨s,none,0,0⟩).toArray]) hB := by
  intro hz pv' p' lo' hc' s hA hB I e F a4 a5 uA uB hp
  have := hR pv' hB lo' hc' (by rw [hp]; exact (I.o.upd uA a4.1 a4.2.1 a4.2.2).upd uB a5.1 a5.2.1 a5.2.2) (uB.ext (uA.ext e (by omega)) (by omega)) F (by rw [hp])
  rw [hp] at this
  exact this
 have z4 := e04.size
 (try simp (maxSteps:=1000000) (disch:=first|exact Lb rfl|omega) only [AXS,AXB,J.dst,reduceIte,Z1,Z2,Z3,Z4,Z5]); rw [f100c1_eq]; (try simp (maxSteps:=1000000) (disch:=first|exact Lb rfl|omega) only [AXS,AXB,J.dst,reduceIte,Z1,Z2,Z3,Z4,Z5,f100r1,B2.cel,ePr,O.dn,B3.rd,eCm,hcs])
 refine rfindO_ok p.done c.s.by_ _ (((SlF.of_own O.done O.dn).imp (B' := fun _ => True) fun _ _ => trivial).ext e04) (by unfold maxLen; omega) ?_
 intro h5 e5
 refine ⟨trivial,?_⟩
 replace B2 := B2.ext e5; replace B3 := B3.ext e5; replace B4 := B4.ext e5; replace B5 := B5.ext e5
 try simp (maxSteps:=1000000) (disch:=first|exact Lb rfl|omega) only [AXS,AXB,J.dst,reduceIte,Z1,Z2,Z3,Z4,Z5]
 refine wL_newN ?_; rintro b6 h6 e6 s6 hb6 B6
 replace B2 := B2.ext e6; replace B3 := B3.ext e6; replace B4 := B4.ext e6; replace B5 := B5.ext e6
 try simp (maxSteps:=1000000) (disch:=first|exact Lb rfl|omega) only [AXS,AXB,J.dst,reduceIte,Z1,Z2,Z3,Z4,Z5]
 refine wL_stN rfl rfl rfl B6 (by decide) (eOut_one ((findO p.done c.s.by_).getD noOut)) ?_
 rintro h7 u7 (B6 : Blk _ _ _ (eOut ((findO p.done c.s.by_).getD noOut)))
 have z5 := e5.size
 have z6 := e6.size
 have z7 := u7.size
 replace B2 := u7.blk B2 (by omega)
 replace B3 := u7.blk B3 (by omega)
 replace B4 := u7.blk B4 (by omega)
 replace B5 := u7.blk B5 (by omega)
 have e47 := e5.trans (u7.ext e6 (by omega))
 have I7 := I4.exts e47
 have e07 := e04.trans e47
 have O4' := O.ap' (b := b4) (by omega)
 have O5' := O.ap' (b := b5) (by omega)
 have m2 := B2.lt
 have m3 := B3.lt
 have m6 := B6.lt
 (try simp (maxSteps:=1000000) (disch:=first|exact Lb rfl|omega) only [AXS,AXB,J.dst,reduceIte,Z1,Z2,Z3,Z4,Z5]); rw [f100c2_eq]; (try simp (maxSteps:=1000000) (disch:=first|exact Lb rfl|omega) only [AXS,AXB,J.dst,reduceIte,Z1,Z2,Z3,Z4,Z5,f100r2]); rw [f100c3_eq]; (try simp (maxSteps:=1000000) (disch:=first|exact Lb rfl|omega) only [AXS,AXB,J.dst,reduceIte,Z1,Z2,Z3,Z4,Z5])
 refine ⟨fun q1 => ?_,fun q1 => ?_⟩
 ·obtain ⟨o,ho⟩ := Option.isSome_iff_exists.1 q1
  rw [ho,Option.getD_some] at B6
  have hl : prepP p c = (p,⟨{ okS with err := 26,yes := o.yes },[]⟩) := by unfold prepP; rw [ho]
  try simp (maxSteps:=1000000) (disch:=first|exact Lb rfl|omega) only [AXS,AXB,J.dst,reduceIte,Z1,Z2,Z3,Z4,Z5]
  rw [f100c4_eq]
  refine ⟨fun b => b < h7.size ∧ b ≠ b4 ∧ b ≠ b5,fun b hb => hb.1,?_⟩
  have n1 : b2 ≠ b4 ∧ b2 ≠ b5 := by omega
  have n2 : b6 ≠ b4 ∧ b6 ≠ b5 := by omega
  simp (maxSteps:=1000000) (disch:=first|exact Lb rfl|omega) only [AXS,AXB,J.dst,reduceIte,Z1,Z2,Z3,Z4,Z5,f100r3,B2.rd,ePr,B6.cel,eOut]
  refine ⟨⟨by omega,n1⟩,⟨by omega,n2⟩,?_⟩
  refine wL_stD rfl rfl (fun hb => hb.2.1 rfl) rfl B4 (by decide) (ePr_one pv) ?_
  rintro h8 u8 (E4 : Blk _ _ _ (ePr pv))
  try simp (maxSteps:=1000000) (disch:=first|exact Lb rfl|omega) only [AXS,AXB,J.dst,reduceIte,Z1,Z2,Z3,Z4,Z5]
  refine wL_stD rfl rfl (fun hb => hb.2.2 rfl) rfl (u8.blk B5 (by omega)) (by decide) (eRp_one ⟨{ okS with err := 26,yes := o.yes },none,0,0⟩) ?_
  rintro h9 u9 (E5 : Blk _ _ _ (eRp ⟨{ okS with err := 26,yes := o.yes },none,0,0⟩))
  replace E4 := u9.blk E4 (by omega)
  simp (maxSteps:=1000000) (disch:=first|exact Lb rfl|omega) only [AXS,AXB,J.dst,reduceIte,Z1,Z2,Z3,Z4,Z5,E4.rd,ePr,E5.rd,eRp]
  have := fin h7 pv p lo hc { okS with err := 26,yes := o.yes } h8 h9 I7 e07 (fun _ _ h => h) O4' O5' u8 u9 hl
  exact this
 have hno : findO p.done c.s.by_ = none := by simpa using q1
 clear B6 m6
 (try simp (maxSteps:=1000000) (disch:=first|exact Lb rfl|omega) only [AXS,AXB,J.dst,reduceIte,Z1,Z2,Z3,Z4,Z5]); rw [f100c5_eq]; (try simp (maxSteps:=1000000) (disch:=first|exact Lb rfl|omega) only [AXS,AXB,J.dst,reduceIte,Z1,Z2,Z3,Z4,Z5,f100r4,B2.cel,ePr,O.cn,B3.rd,eCm,hcs])
 refine rmineG g.cells hn' I7.cells c.s.by_ ?_
 intro h8 e8
 refine ⟨trivial,?_⟩
 replace B2 := B2.ext e8; replace B3 := B3.ext e8; replace B4 := B4.ext e8; replace B5 := B5.ext e8
 have I8 := I7.exts e8
 have e08 := e07.trans e8
 (try simp (maxSteps:=1000000) (disch:=first|exact Lb rfl|omega) only [AXS,AXB,J.dst,reduceIte,Z1,Z2,Z3,Z4,Z5]); rw [f100c6_eq]; (try simp (maxSteps:=1000000) (disch:=first|exact Lb rfl|omega) only [AXS,AXB,J.dst,reduceIte,Z1,Z2,Z3,Z4,Z5])
 refine ⟨fun q2 => ?_,fun q2 => ?_⟩
 ·have hl : prepP p c = (p,⟨okS,[]⟩) := by unfold prepP; rw [hno]; simp only [q2,if_true]
  (try simp (maxSteps:=1000000) (disch:=first|exact Lb rfl|omega) only [AXS,AXB,J.dst,reduceIte,Z1,Z2,Z3,Z4,Z5]); rw [f100c7_eq]; (try simp (maxSteps:=1000000) (disch:=first|exact Lb rfl|omega) only [AXS,AXB,J.dst,reduceIte,Z1,Z2,Z3,Z4,Z5,f100r5,B2.rd,ePr])
  refine wL_stN rfl rfl rfl B4 (by decide) (ePr_one pv) ?_
  rintro h9 u9 (E4 : Blk _ _ _ (ePr pv))
  try simp (maxSteps:=1000000) (disch:=first|exact Lb rfl|omega) only [AXS,AXB,J.dst,reduceIte,Z1,Z2,Z3,Z4,Z5]
  refine wL_stN rfl rfl rfl (u9.blk B5 (by omega)) (by decide) (eRp_one ⟨okS,none,0,0⟩) ?_
  rintro h10 u10 (E5 : Blk _ _ _ (eRp ⟨okS,none,0,0⟩))
  replace E4 := u10.blk E4 (by omega)
  simp (maxSteps:=1000000) (disch:=first|exact Lb rfl|omega) only [AXS,AXB,J.dst,reduceIte,Z1,Z2,Z3,Z4,Z5,E4.rd,ePr,E5.rd,eRp]
  have := fin h8 pv p lo hc okS h9 h10 I8 e08 (fun _ _ h => h) O4' O5' u9 u10 hl
  exact this
 (try simp (maxSteps:=1000000) (disch:=first|exact Lb rfl|omega) only [AXS,AXB,J.dst,reduceIte,Z1,Z2,Z3,Z4,Z5]); rw [f100c8_eq]; (try simp (maxSteps:=1000000) (disch:=first|exact Lb rfl|omega) only [AXS,AXB,J.dst,reduceIte,Z1,Z2,Z3,Z4,Z5,f100r6,B3.cel,eCm,hcs,B2.cel,ePr,hps])
 (try simp (maxSteps:=1000000) (disch:=first|exact Lb rfl|omega) only [AXS,AXB,J.dst,reduceIte,Z1,Z2,Z3,Z4,Z5]); rw [f100c9_eq]; (try simp (maxSteps:=1000000) (disch:=first|exact Lb rfl|omega) only [AXS,AXB,J.dst,reduceIte,Z1,Z2,Z3,Z4,Z5])
 have z8 := e8.size
 refine ⟨fun q3 => ?_,fun q3 => ?_⟩
 ·have q3' : c.s.at_.wall ≤ p.s.closed := of_decide_eq_true q3
  have hl : prepP p c = (p,⟨{ okS with err := 21,wall := p.s.closed },[]⟩) := by unfold prepP; rw [hno]; simp only [q2,Bool.false_eq_true,if_false,if_pos q3']
  try simp (maxSteps:=1000000) (disch:=first|exact Lb rfl|omega) only [AXS,AXB,J.dst,reduceIte,Z1,Z2,Z3,Z4,Z5]
  rw [f100c10_eq]
  refine ⟨fun b => b < h8.size ∧ b ≠ b4 ∧ b ≠ b5,fun b hb => hb.1,?_⟩
  have n1 : b2 ≠ b4 ∧ b2 ≠ b5 := by omega
  simp (maxSteps:=1000000) (disch:=first|exact Lb rfl|omega) only [AXS,AXB,J.dst,reduceIte,Z1,Z2,Z3,Z4,Z5,f100r7,B2.rd,B2.cel,ePr,hps]
  refine ⟨⟨by omega,n1⟩,⟨by omega,n1⟩,?_⟩
  refine wL_stD rfl rfl (fun hb => hb.2.1 rfl) rfl B4 (by decide) (ePr_one { pv with s := p.s }) ?_
  rintro h9 u9 (E4 : Blk _ _ _ (ePr { pv with s := p.s }))
  try simp (maxSteps:=1000000) (disch:=first|exact Lb rfl|omega) only [AXS,AXB,J.dst,reduceIte,Z1,Z2,Z3,Z4,Z5]
  refine wL_stD rfl rfl (fun hb => hb.2.2 rfl) rfl (u9.blk B5 (by omega)) (by decide) (eRp_one ⟨{ okS with err := 21,wall := p.s.closed },none,0,0⟩) ?_
  rintro h10 u10 (E5 : Blk _ _ _ (eRp ⟨{ okS with err := 21,wall := p.s.closed },none,0,0⟩))
  replace E4 := u10.blk E4 (by omega)
  simp (maxSteps:=1000000) (disch:=first|exact Lb rfl|omega) only [AXS,AXB,J.dst,reduceIte,Z1,Z2,Z3,Z4,Z5,E4.rd,ePr,E5.rd,eRp]
  have := fin h8 pv p lo hc { okS with err := 21,wall := p.s.closed } h9 h10 I8 e08 (fun _ _ h => h) O4' O5' u9 u10 hl
  rw [← hps] at this ⊢
  exact this
 have q3' : ¬ c.s.at_.wall ≤ p.s.closed := of_decide_eq_false q3
 (try simp (maxSteps:=1000000) (disch:=first|exact Lb rfl|omega) only [AXS,AXB,J.dst,reduceIte,Z1,Z2,Z3,Z4,Z5]); rw [f100c11_eq]; (try simp (maxSteps:=1000000) (disch:=first|exact Lb rfl|omega) only [AXS,AXB,J.dst,reduceIte,Z1,Z2,Z3,Z4,Z5,f100r8,B3.rd,eCm,hcs,B2.rd,ePr,hps])
 refine rless_ok c.s.at_ p.s.floor _ ?_
 intro h9 e9
 refine ⟨trivial,?_⟩
 replace B2 := B2.ext e9; replace B3 := B3.ext e9; replace B4 := B4.ext e9; replace B5 := B5.ext e9
 have I9 := I8.exts e9
 have e09 := e08.trans e9
 have z9 := e9.size
 (try simp (maxSteps:=1000000) (disch:=first|exact Lb rfl|omega) only [AXS,AXB,J.dst,reduceIte,Z1,Z2,Z3,Z4,Z5]); rw [f100c12_eq]; (try simp (maxSteps:=1000000) (disch:=first|exact Lb rfl|omega) only [AXS,AXB,J.dst,reduceIte,Z1,Z2,Z3,Z4,Z5])
 refine ⟨fun q4 => ?_,fun q4 => ?_⟩
 ·have hl : prepP p c = (p,⟨{ okS with err := 22,at_ := p.s.floor },[]⟩) := by unfold prepP; rw [hno]; simp only [q2,Bool.false_eq_true,if_false,if_neg q3',q4,if_true]
  try simp (maxSteps:=1000000) (disch:=first|exact Lb rfl|omega) only [AXS,AXB,J.dst,reduceIte,Z1,Z2,Z3,Z4,Z5]
  rw [f100c13_eq]
  refine ⟨fun b => b < h9.size ∧ b ≠ b4 ∧ b ≠ b5,fun b hb => hb.1,?_⟩
  have n1 : b2 ≠ b4 ∧ b2 ≠ b5 := by omega
  simp (maxSteps:=1000000) (disch:=first|exact Lb rfl|omega) only [AXS,AXB,J.dst,reduceIte,Z1,Z2,Z3,Z4,Z5,f100r9,B2.rd,ePr,hps]
  refine ⟨⟨by omega,n1⟩,⟨by omega,n1⟩,?_⟩
  refine wL_stD rfl rfl (fun hb => hb.2.1 rfl) rfl B4 (by decide) (ePr_one { pv with s := p.s }) ?_
  rintro h10 u10 (E4 : Blk _ _ _ (ePr { pv with s := p.s }))
  try simp (maxSteps:=1000000) (disch:=first|exact Lb rfl|omega) only [AXS,AXB,J.dst,reduceIte,Z1,Z2,Z3,Z4,Z5]
  refine wL_stD rfl rfl (fun hb => hb.2.2 rfl) rfl (u10.blk B5 (by omega)) (by decide) (eRp_one ⟨{ okS with err := 22,at_ := p.s.floor },none,0,0⟩) ?_
  rintro h11 u11 (E5 : Blk _ _ _ (eRp ⟨{ okS with err := 22,at_ := p.s.floor },none,0,0⟩))
  replace E4 := u11.blk E4 (by omega)
  simp (maxSteps:=1000000) (disch:=first|exact Lb rfl|omega) only [AXS,AXB,J.dst,reduceIte,Z1,Z2,Z3,Z4,Z5,E4.rd,ePr,E5.rd,eRp]
  have := fin h9 pv p lo hc { okS with err := 22,at_ := p.s.floor } h10 h11 I9 e09 (fun _ _ h => h) O4' O5' u10 u11 hl
  rw [← hps] at this ⊢
  exact this
 have hpre : prepP p c = match c.writes.find? fun w => (heldK p.cells w.key).2 with
   | some w => (p,lockedR (heldK p.cells w.key).1)
   | none => ({ p with cells := c.writes.foldl (fun cs w => lockL cs w (lkC c)) p.cells },⟨okS,[]⟩) := by
  unfold prepP; rw [hno]; simp only [q2,q3',q4,Bool.false_eq_true,if_false]
  try rfl
 clear hno q1 q2 q3 q3' q4
 have hwl : c.writes.length ≤ 900000 := by omega
 (try simp (maxSteps:=1000000) (disch:=first|exact Lb rfl|omega) only [AXS,AXB,J.dst,reduceIte,Z1,Z2,Z3,Z4,Z5]); rw [f100c14_eq]; (try simp (maxSteps:=1000000) (disch:=first|exact Lb rfl|omega) only [AXS,AXB,J.dst,reduceIte,Z1,Z2,Z3,Z4,Z5,f100r10])
 rw [f100c15_eq]
 refine loop_in (fun m σ h' => Ext h9 h' ∧ ∃ k : Nat,k + m = c.writes.length ∧ (∀ j w,j < k → c.writes[j]? = some w → (heldK p.cells w.key).2 = false) ∧ σ = [(2,ptr b2 0),(3,ptr b3 0),(4,ptr b4 0),(5,ptr b5 0),(8,vi k)]) c.writes.length ⟨Ext.refl _,0,by omega,by intros; omega,rfl⟩ ?_
 rintro m σ h10 ⟨e10,k,hk,hnb,rfl⟩ Q' hnx hex hrt _
 replace B2 := B2.ext e10; replace B3 := B3.ext e10; replace B4 := B4.ext e10; replace B5 := B5.ext e10
 have I10 := I9.exts e10
 have e010 := e09.trans e10
 have z10 := e10.size
 (try simp (maxSteps:=1000000) (disch:=first|exact Lb rfl|omega) only [AXS,AXB,J.dst,reduceIte,Z1,Z2,Z3,Z4,Z5]); rw [f100c16_eq]; (try simp (maxSteps:=1000000) (disch:=first|exact Lb rfl|omega) only [AXS,AXB,J.dst,reduceIte,Z1,Z2,Z3,Z4,Z5,f100r11,B3.cel,eCm,hcw]); rw [f100c17_eq]; (try simp (maxSteps:=1000000) (disch:=first|exact Lb rfl|omega) only [AXS,AXB,J.dst,reduceIte,Z1,Z2,Z3,Z4,Z5,B3.cel,eCm,hcw])
 refine ⟨fun hh => ?_,fun hh => ?_⟩
 ·have hkl : k < c.writes.length := by have := of_decide_eq_true hh; omega
  obtain ⟨w,hx⟩ := get_ex hkl
  obtain ⟨b',o,hsa,_,hrow⟩ := (C.writes.ext I10.ext).elem eWri_len hx
  have l2 := B2.lt
  have l3 := B3.lt
  have lw := hrow.lt (by rw [eWri_len]; omega)
  try simp (maxSteps:=1000000) (disch:=first|exact Lb rfl|omega) only [AXS,AXB,J.dst,reduceIte,Z1,Z2,Z3,Z4,Z5]
  rw [f100c18_eq,f100c19_eq]
  refine drt_lt ?_
  simp only [f100r12,wT_one,wT_alt,wT_nil]
  simp (maxSteps:=1000000) (disch:=first|exact Lb rfl|omega) only [AXS,AXB,J.dst,reduceIte,Z1,Z2,Z3,Z4,Z5,B2.cel,ePr,I10.o.cn,B3.cel,eCm,hcw,hsa,row_wri hrow]
  have app : ∀ h12 b9,Ext h10 h12 → Blk h12 b9 72 (eLck (heldK p.cells w.key).1) → wC Try.prog f100c20 (X.inBlock 1 (X.then (fun σ h => wC Try.prog f100c23 Q' σ h) Q')) [(2,ptr b2 0),(3,ptr b3 0),(4,ptr b4 0),(5,ptr b5 0),(8,vi k),(9,ptr b9 0),(10,.bool (heldK p.cells w.key).2)] h12 := by
   intro h12 b9 e12 B9
   replace B2 := B2.ext e12; replace B4 := B4.ext e12; replace B5 := B5.ext e12
   have I12 := I10.exts e12
   have z12 := e12.size
   have l9 := B9.lt
   (try simp (maxSteps:=1000000) (disch:=first|exact Lb rfl|omega) only [AXS,AXB,J.dst,reduceIte,Z1,Z2,Z3,Z4,Z5]); rw [f100c20_eq]; (try simp (maxSteps:=1000000) (disch:=first|exact Lb rfl|omega) only [AXS,AXB,J.dst,reduceIte,Z1,Z2,Z3,Z4,Z5,f100r13]); rw [f100c21_eq]; (try simp (maxSteps:=1000000) (disch:=first|exact Lb rfl|omega) only [AXS,AXB,J.dst,reduceIte,Z1,Z2,Z3,Z4,Z5])
   refine ⟨fun q => ?_,fun q => ?_⟩
   ·have hl : prepP p c = (p,⟨(lockedR (heldK p.cells w.key).1).s,[]⟩) := by
     rw [hpre,findIdx_some hx q hnb]
     rfl
    try simp (maxSteps:=1000000) (disch:=first|exact Lb rfl|omega) only [AXS,AXB,J.dst,reduceIte,Z1,Z2,Z3,Z4,Z5]
    rw [f100c22_eq]
    refine ⟨fun b => b < h12.size ∧ b ≠ b4 ∧ b ≠ b5,fun b hb => hb.1,?_⟩
    have n1 : b2 ≠ b4 ∧ b2 ≠ b5 := by omega
    by_cases n9 : b9 ≠ b4 ∧ b9 ≠ b5
    ·simp (maxSteps:=1000000) (disch:=first|exact Lb rfl|omega) only [AXS,AXB,J.dst,reduceIte,Z1,Z2,Z3,Z4,Z5,f100r14,B2.rd,ePr,B9.rd,eLck]
     refine ⟨⟨by omega,n1⟩,⟨by omega,n9⟩,?_⟩
     refine rlocked_ok (heldK p.cells w.key).1 _ ?_
     intro h13 e13
     refine ⟨fun b hb => e13.at_ b hb.1,?_⟩
     replace B4 := B4.ext e13; replace B5 := B5.ext e13
     have I13 := I12.exts e13
     try simp (maxSteps:=1000000) (disch:=first|exact Lb rfl|omega) only [AXS,AXB,J.dst,reduceIte,Z1,Z2,Z3,Z4,Z5]
     refine wL_stD rfl rfl (fun hb => hb.2.1 rfl) rfl B4 (by decide) (ePr_one pv) ?_
     rintro h14 u14 (E4 : Blk _ _ _ (ePr pv))
     try simp (maxSteps:=1000000) (disch:=first|exact Lb rfl|omega) only [AXS,AXB,J.dst,reduceIte,Z1,Z2,Z3,Z4,Z5]
     refine wL_stD rfl rfl (fun hb => hb.2.2 rfl) rfl (u14.blk B5 (by omega)) (by decide) (eRp_one ⟨(lockedR (heldK p.cells w.key).1).s,none,0,0⟩) ?_
     rintro h15 u15 (E5 : Blk _ _ _ (eRp ⟨(lockedR (heldK p.cells w.key).1).s,none,0,0⟩))
     replace E4 := u15.blk E4 (by omega)
     try simp (maxSteps:=1000000) (disch:=first|exact Lb rfl|omega) only [AXS,AXB,J.dst,reduceIte,Z1,Z2,Z3,Z4,Z5]
     refine hrt _ _ ?_
     simp (maxSteps:=1000000) (disch:=first|exact Lb rfl|omega) only [AXS,AXB,J.dst,reduceIte,Z1,Z2,Z3,Z4,Z5,E4.rd,ePr,E5.rd,eRp]
     have := fin h13 pv p lo hc (lockedR (heldK p.cells w.key).1).s h14 h15 I13 ((e010.trans e12).trans e13) (fun _ _ h => h) O4' O5' u14 u15 hl
     exact this
    ·exfalso
     apply n9
     have hz4 : b4 < h10.size := by omega
     constructor
     ·intro e
      subst e
      have h1 := B4
      have h2 := B9
      unfold Blk at h1 h2
      rw [h1] at h2
      simp at h2
     ·intro e
      subst e
      have h1 := B5
      have h2 := B9
      unfold Blk at h1 h2
      rw [h1] at h2
      simp at h2
   ·(try simp (maxSteps:=1000000) (disch:=first|exact Lb rfl|omega) only [AXS,AXB,J.dst,reduceIte,Z1,Z2,Z3,Z4,Z5]); rw [f100c23_eq]; (try simp (maxSteps:=1000000) (disch:=first|exact Lb rfl|omega) only [AXS,AXB,J.dst,reduceIte,Z1,Z2,Z3,Z4,Z5,f100r15])
    rw [i64_wrap (by omega) (by omega)]
    refine hnx (m - 1) _ _ (by omega) ⟨e10.trans e12,k + 1,by omega,?_,rfl⟩
    intro j w' hj hw'
    rcases Nat.lt_or_ge j k with hlt | hge
    ·exact hnb j w' hlt hw'
    ·have : j = k := by omega
     subst this
     rw [hx] at hw'; cases hw'; exact q
  refine ⟨by omega,by omega,by omega,by omega,by omega,?_,?_⟩
  ·refine rheldG g.cells hn' I10.cells w.key ?_
   intro h11 e11
   refine ⟨kp_ext (Nat.le_refl _) e11,?_⟩
   try simp (maxSteps:=1000000) (disch:=first|exact Lb rfl|omega) only [AXS,AXB,J.dst,reduceIte,Z1,Z2,Z3,Z4,Z5]
   have z11 := e11.size
   refine wL_newD e11.size ?_; rintro b9 h12 e12 s12 hb9 B9
   try simp (maxSteps:=1000000) (disch:=first|exact Lb rfl|omega) only [AXS,AXB,J.dst,reduceIte,Z1,Z2,Z3,Z4,Z5]
   refine wL_stD rfl rfl (by omega) rfl B9 (by decide) (eLck_one _) ?_
   rintro h13 u13 (B9 : Blk _ _ _ (eLck (heldK p.cells w.key).1))
   try simp (maxSteps:=1000000) (disch:=first|exact Lb rfl|omega) only [AXS,AXB,J.dst,reduceIte,Z1,Z2,Z3,Z4,Z5]
   exact app h13 b9 (u13.ext (e11.trans e12) (by omega)) B9
  ·refine wL_newD (Nat.le_refl _) ?_; rintro b9 h12 e12 s12 hb9 B9
   try simp (maxSteps:=1000000) (disch:=first|exact Lb rfl|omega) only [AXS,AXB,J.dst,reduceIte,Z1,Z2,Z3,Z4,Z5]
   refine rheldG g.cells hn' (I10.exts e12).cells w.key ?_
   intro h11 e11
   refine ⟨kp_ext e12.size e11,?_⟩
   try simp (maxSteps:=1000000) (disch:=first|exact Lb rfl|omega) only [AXS,AXB,J.dst,reduceIte,Z1,Z2,Z3,Z4,Z5]
   have z11 := e11.size
   refine wL_stD rfl rfl (by omega) rfl (B9.ext e11) (by decide) (eLck_one _) ?_
   rintro h13 u13 (B9 : Blk _ _ _ (eLck (heldK p.cells w.key).1))
   try simp (maxSteps:=1000000) (disch:=first|exact Lb rfl|omega) only [AXS,AXB,J.dst,reduceIte,Z1,Z2,Z3,Z4,Z5]
   exact app h13 b9 (u13.ext (e12.trans e11) (by omega)) B9
 ·have hkl : k = c.writes.length := by have := of_decide_eq_false hh; omega
  subst hkl
  have hl : prepP p c = ({ p with cells := c.writes.foldl (fun cs w => lockL cs w (lkC c)) p.cells },⟨okS,[]⟩) := by rw [hpre,findIdx_none hnb]
  refine hex _ _ ?_
  clear hk hh hnx hex hrt hnb
  (try simp (maxSteps:=1000000) (disch:=first|exact Lb rfl|omega) only [AXS,AXB,J.dst,reduceIte,Z1,Z2,Z3,Z4,Z5]); rw [f100c24_eq]; (try simp (maxSteps:=1000000) (disch:=first|exact Lb rfl|omega) only [AXS,AXB,J.dst,reduceIte,Z1,Z2,Z3,Z4,Z5,f100r16])
  rw [f100c25_eq]
  refine loop_in (fun m σ h' => ∃ (k : Nat) (pv' : PrV) (lo' : Nat) (hc' : Heap),k + m = c.writes.length ∧ InP h0 h' b2 pv' { p with cells := (c.writes.take k).foldl (fun cs w => lockL cs w (lkC c)) p.cells } lo' hc' ∧
   Gd (n + k) ((c.writes.take k).foldl (fun cs w => lockL cs w (lkC c)) p.cells) ∧ (∀ b,b < h10.size → ApP b lo hc pv → ApP b lo' hc' pv') ∧ Gr (some b2) h10 h' ∧ σ = [(2,ptr b2 0),(3,ptr b3 0),(4,ptr b4 0),(5,ptr b5 0),(11,vi k)]) c.writes.length
   ⟨0,pv,lo,hc,by omega,I10,g.cells,fun _ _ h => h,(Ext.refl _).gr _,rfl⟩ ?_
  rintro m σ h11 ⟨k,pv',lo',hc',hk,I11,g11,F11,G11,rfl⟩ Q' hnx hex hrt _
  have z11 := G11.size
  have D3 := G11.blk B3 (fun e => by cases e; omega)
  have D4 := G11.blk B4 (fun e => by cases e; omega)
  have D5 := G11.blk B5 (fun e => by cases e; omega)
  have Bp := I11.b
  (try simp (maxSteps:=1000000) (disch:=first|exact Lb rfl|omega) only [AXS,AXB,J.dst,reduceIte,Z1,Z2,Z3,Z4,Z5]); rw [f100c26_eq]; (try simp (maxSteps:=1000000) (disch:=first|exact Lb rfl|omega) only [AXS,AXB,J.dst,reduceIte,Z1,Z2,Z3,Z4,Z5,f100r17,D3.cel,eCm,hcw]); rw [f100c27_eq]; (try simp (maxSteps:=1000000) (disch:=first|exact Lb rfl|omega) only [AXS,AXB,J.dst,reduceIte,Z1,Z2,Z3,Z4,Z5,D3.cel,eCm,hcw])
  refine ⟨fun hh => ?_,fun hh => ?_⟩
  ·have hkl : k < c.writes.length := by have := of_decide_eq_true hh; omega
   obtain ⟨w,hx⟩ := get_ex hkl
   obtain ⟨b',o,hsa,_,hrow⟩ := (C.writes.ext I11.ext).elem eWri_len hx
   have lw := hrow.lt (by rw [eWri_len]; omega)
   have l3 := D3.lt
   have l2 := Bp.lt
   have hb3p : b3 ≠ b2 := by omega
   have hbw : b' ≠ b2 := by
    intro e
    subst e
    have hne : c.writes ≠ [] := by intro e; rw [e] at hkl; simp at hkl
    obtain ⟨bq,oq,hq1,hq2,hq3⟩ := C.writes hne
    rw [hsa] at hq1
    cases hq1
    have := hq3.lt (by rw [flatMap_length eWri_len]; omega)
    omega
   try simp (maxSteps:=1000000) (disch:=first|exact Lb rfl|omega) only [AXS,AXB,J.dst,reduceIte,Z1,Z2,Z3,Z4,Z5]
   rw [f100c28_eq,f100c29_eq]
   refine ⟨fun b => b < h11.size ∧ b ≠ b2,fun b hb => hb.1,?_⟩
   simp (maxSteps:=1000000) (disch:=first|exact Lb rfl|omega) only [AXS,AXB,J.dst,reduceIte,Z1,Z2,Z3,Z4,Z5,f100r18,D3.cel,D3.rd,eCm,hcw,hcs,hsa,row_wri hrow,Bp.cel,ePr,I11.o.cn]
   refine ⟨⟨by omega,hb3p⟩,by omega,by omega,⟨by omega,hbw⟩,⟨by omega,hb3p⟩,⟨by omega,hb3p⟩,⟨by omega,hb3p⟩,?_⟩
   have hfold : (c.writes.take (k + 1)).foldl (fun cs w => lockL cs w (lkC c)) p.cells = lockL ((c.writes.take k).foldl (fun cs w => lockL cs w (lkC c)) p.cells) w (lkC c) := by
    rw [List.take_add_one,hx]; simp [List.foldl_append]
   refine rlockG g11 (by omega) I11.cells w (lkC c) ?_
   intro a' c' h12 g12 O12 e12
   refine ⟨fun b hb => e12.at_ b hb.1,?_⟩
   try simp (maxSteps:=1000000) (disch:=first|exact Lb rfl|omega) only [AXS,AXB,J.dst,reduceIte,Z1,Z2,Z3,Z4,Z5]
   refine wL_stD rfl rfl (fun hb => hb.2 rfl) rfl (Bp.ext e12) (by rw [ePr_len]; exact Nat.le_of_ble_eq_true rfl) slice_one ?_
   rintro h13 u13 (B13 : Blk _ _ _ (ePr { pv' with ca := a',cn := (lockL ((c.writes.take k).foldl (fun cs w => lockL cs w (lkC c)) p.cells) w (lkC c)).length,cc := c' }))
   try simp (maxSteps:=1000000) (disch:=first|exact Lb rfl|omega) only [AXS,AXB,J.dst,reduceIte,Z1,Z2,Z3,Z4,Z5]
   have I13 := I11.putC O12 e12 u13 B13
   have z12 := e12.size
   (try simp (maxSteps:=1000000) (disch:=first|exact Lb rfl|omega) only [AXS,AXB,J.dst,reduceIte,Z1,Z2,Z3,Z4,Z5]); rw [f100c30_eq]; (try simp (maxSteps:=1000000) (disch:=first|exact Lb rfl|omega) only [AXS,AXB,J.dst,reduceIte,Z1,Z2,Z3,Z4,Z5,f100r19])
   rw [i64_wrap (by omega) (by omega)]
   exact hnx (m - 1) _ _ (by omega) ⟨k + 1, { pv' with ca := a',cn := (lockL ((c.writes.take k).foldl (fun cs w => lockL cs w (lkC c)) p.cells) w (lkC c)).length,cc := c' },h11.size,h12,by omega,by rw [hfold]; exact I13,by rw [hfold]; exact g12,fun b hb hap => ⟨.inl (by omega),(F11 b hb hap).2⟩,(G11.exts e12).upd u13 (.inl rfl),rfl⟩
  ·have hkl : k = c.writes.length := by have := of_decide_eq_false hh; omega
   subst hkl
   rw [List.take_length] at I11
   refine hex _ _ ?_
   (try simp (maxSteps:=1000000) (disch:=first|exact Lb rfl|omega) only [AXS,AXB,J.dst,reduceIte,Z1,Z2,Z3,Z4,Z5]); rw [f100c31_eq]; (try simp (maxSteps:=1000000) (disch:=first|exact Lb rfl|omega) only [AXS,AXB,J.dst,reduceIte,Z1,Z2,Z3,Z4,Z5,f100r20,Bp.rd,ePr])
   refine wL_stN rfl rfl rfl D4 (by decide) (ePr_one pv') ?_
   rintro h12 u12 (E4 : Blk _ _ _ (ePr pv'))
   try simp (maxSteps:=1000000) (disch:=first|exact Lb rfl|omega) only [AXS,AXB,J.dst,reduceIte,Z1,Z2,Z3,Z4,Z5]
   refine wL_stN rfl rfl rfl (u12.blk D5 (by omega)) (by decide) (eRp_one ⟨okS,none,0,0⟩) ?_
   rintro h13 u13 (E5 : Blk _ _ _ (eRp ⟨okS,none,0,0⟩))
   replace E4 := u13.blk E4 (by omega)
   simp (maxSteps:=1000000) (disch:=first|exact Lb rfl|omega) only [AXS,AXB,J.dst,reduceIte,Z1,Z2,Z3,Z4,Z5,E4.rd,ePr,E5.rd,eRp]
   have := fin h11 pv' _ lo' hc' okS h12 h13 I11 (G11.ext e010 (fun j hj => by cases hj; omega)) (fun b hb hap => F11 b (by omega) hap) (F11 b4 (by omega) O4') (F11 b5 (by omega) O5') u12 u13 hl
   exact this
end Go.Proofs.Ytefghfgmkndikaa
namespace Go.Proofs.Ytefghfgmkndikaa
open Go Go.AX
theorem does_pairs (p : Prt) (c : Cmd) (hk : c.s.kind = 2) (hl : ¬ c.s.at_.wall < p.s.low) : doesP p c = (if (pairsP p c.s.at_ c.spans).2.err = 0 then ({ p with s := { p.s with floor := maxS p.s.floor c.s.at_ } },⟨okS,(pairsP p c.s.at_ c.spans).1⟩) else (p,⟨(pairsP p c.s.at_ c.spans).2,[]⟩)) := by
 have e : doesP p c = readP p c := by unfold doesP; rw [if_pos hk]
 rw [e]
 unfold readP pairsP
 rw [if_neg hl]
 cases hf : c.spans.find? (fun s => (blocksL c.s.at_ (cellsIn p s)).2) with
 | some s =>
  dsimp only
  rw [if_neg (by show ¬ (20 : Int) = 0; decide)]
  rfl
 | none =>
  dsimp only
  by_cases hr : (readL p c.s.at_ c.spans []).2 = 0
  ·rw [if_pos hr,if_pos hr,if_pos (show okS.err = 0 from rfl)]
  ·rw [if_neg hr,if_neg hr,if_neg (show ¬ (errR (readL p c.s.at_ c.spans []).2).s.err = 0 from hr)]
   rfl
set_option maxHeartbeats 16000000 in
theorem rapply_ok {B B' : Nat → Prop} {n : Nat} (pv : PrV) (p : Prt) (cv : CmV) (c : Cmd) (h : Heap) (S : PrR B h pv p) (C : CmR B' h cv c) (g : GdP n p) (hn : n + c.writes.length ≤ 900000) (hs : c.spans.length ≤ big) {R : Value → Heap → Prop}
  (hR : ∀ pv' rv h',PrF h.size h' pv' (applyP p c).1 → RpO h.size h' rv (applyP p c).2 → Ext h h' → R (.tuple #[.agg (ePr pv').toArray,.agg (eRp rv).toArray]) h') : CallsH Try.prog 57 [.agg (ePr pv).toArray,.agg (eCm cv).toArray] h R := by
 have hbig : big = 1000000 := rfl
 have hm : mostEpoch = 1099511627776 := rfl
 have hn' : n ≤ 900000 := by omega
 have g0 := g.e0
 have g1 := g.e1
 have gd := g.sz.done
 have gr := g.sz.records
 have hcs := C.s
 refine f57ok (by simp) ?_
 (try simp (maxSteps:=1000000) (disch:=first|exact Lb rfl|omega) only [AXS,AXB,J.dst,reduceIte,Z1,Z2,Z3,Z4,Z5]); rw [f57c0_eq]; (try simp (maxSteps:=1000000) (disch:=first|exact Lb rfl|omega) only [AXS,AXB,J.dst,reduceIte,Z1,Z2,Z3,Z4,Z5,f57r0])
 refine wL_boxN rfl ?_; rintro b2 h1 e1 s1 hb2 (B2 : Blk _ _ _ (ePr pv))
 refine wL_boxN rfl ?_; rintro b3 h2 e2 s2 hb3 (B3 : Blk _ _ _ (eCm cv))
 replace B2 := B2.ext e2
 try simp (maxSteps:=1000000) (disch:=first|exact Lb rfl|omega) only [AXS,AXB,J.dst,reduceIte,Z1,Z2,Z3,Z4,Z5]
 refine wL_newN ?_; rintro b4 h3 e3 s3 hb4 B4
 try simp (maxSteps:=1000000) (disch:=first|exact Lb rfl|omega) only [AXS,AXB,J.dst,reduceIte,Z1,Z2,Z3,Z4,Z5]
 refine wL_newN ?_; rintro b5 h4 e4 s4 hb5 B5
 replace B2 := B2.ext e3; replace B3 := B3.ext e3
 replace B2 := B2.ext e4; replace B3 := B3.ext e4; replace B4 := B4.ext e4
 have e04 := ((e1.trans e2).trans e3).trans e4
 have z4 := e04.size
 (try simp (maxSteps:=1000000) (disch:=first|exact Lb rfl|omega) only [AXS,AXB,J.dst,reduceIte,Z1,Z2,Z3,Z4,Z5]); rw [f57c1_eq]; (try simp (maxSteps:=1000000) (disch:=first|exact Lb rfl|omega) only [AXS,AXB,J.dst,reduceIte,Z1,Z2,Z3,Z4,Z5,f57r1,B2.rd,ePr])
 refine rpartC_ok pv p _ (S.ext e04) g.sz hn' ?_
 intro pv1 lo hc h5 O5 e5
 refine ⟨trivial,?_⟩
 replace B3 := B3.ext e5; replace B4 := B4.ext e5; replace B5 := B5.ext e5
 have z5 := e5.size
 try simp (maxSteps:=1000000) (disch:=first|exact Lb rfl|omega) only [AXS,AXB,J.dst,reduceIte,Z1,Z2,Z3,Z4,Z5]
 refine wL_newN ?_; rintro b6 h6 e6 s6 hb6 B6
 replace B3 := B3.ext e6; replace B4 := B4.ext e6; replace B5 := B5.ext e6
 try simp (maxSteps:=1000000) (disch:=first|exact Lb rfl|omega) only [AXS,AXB,J.dst,reduceIte,Z1,Z2,Z3,Z4,Z5]
 refine wL_stN rfl rfl rfl B6 (by decide) (ePr_one pv1) ?_
 rintro h7 u7 (B6 : Blk _ _ _ (ePr pv1))
 have z7 := u7.size
 replace B3 := u7.blk B3 (by omega)
 replace B4 := u7.blk B4 (by omega)
 replace B5 := u7.blk B5 (by omega)
 have e57 := u7.ext e6 (by omega)
 have e47 := e5.trans e57
 have e07 := e04.trans e47
 have I7 : InP h h7 b6 pv1 p lo hc := ⟨e07,(O5.exts e57).mono (by omega),B6,⟨by omega,.inr (by have := O5.le; omega)⟩,(O5.ap' (b := b6) (by omega)).2.1,(O5.ap' (b := b6) (by omega)).2.2⟩
 have a4 := O5.ap (b := b4) (by omega)
 have a5 := O5.ap (b := b5) (by omega)
 have hps := O5.s
 have hcn := O5.cn
 have hrn := O5.rn
 have hdn := O5.dn
 have m3 := B3.lt
 have m6 := B6.lt
 have fin : ∀ (hz : Heap) (pv' : PrV) (p' : Prt) (lo' : Nat) (hc' : Heap) (rv : RpV) (r : Rep) (hA hB : Heap),InP h hz b6 pv' p' lo' hc' → RpO h.size hz rv r → (∀ k,ob rv.pa = some k → k ≠ b4 ∧ k ≠ b5) → ApP b4 lo' hc' pv' → ApP b5 lo' hc' pv' →
   Upd b4 hz hA → Upd b5 hA hB → applyP p c = (p',r) → R (.tuple #[.agg (ePr pv').toArray,.agg (eRp rv).toArray]) hB := by
  intro hz pv' p' lo' hc' rv r hA hB I K hk x4 x5 uA uB hap
  refine hR pv' rv hB (by rw [hap]; exact ((I.o.upd uA x4.1 x4.2.1 x4.2.2).upd uB x5.1 x5.2.1 x5.2.2).fin) ?_ (uB.ext (uA.ext I.ext (by omega)) (by omega))
  rw [hap]
  exact ⟨K.s,K.pn,(K.pairs.gr uA.gr fun j hj e => by cases e; exact (hk _ hj).1 rfl).gr uB.gr fun j hj e => by cases e; exact (hk _ hj).2 rfl⟩
 have no : ∀ (s : RpS) (k : Nat),ob (⟨s,none,0,0⟩ : RpV).pa = some k → k ≠ b4 ∧ k ≠ b5 := fun s k hk => by cases hk
 (try simp (maxSteps:=1000000) (disch:=first|exact Lb rfl|omega) only [AXS,AXB,J.dst,reduceIte,Z1,Z2,Z3,Z4,Z5]); rw [f57c2_eq]; (try simp (maxSteps:=1000000) (disch:=first|exact Lb rfl|omega) only [AXS,AXB,J.dst,reduceIte,Z1,Z2,Z3,Z4,Z5,f57r2,B3.cel,eCm,hcs])
 (try simp (maxSteps:=1000000) (disch:=first|exact Lb rfl|omega) only [AXS,AXB,J.dst,reduceIte,Z1,Z2,Z3,Z4,Z5]); rw [f57c3_eq]; (try simp (maxSteps:=1000000) (disch:=first|exact Lb rfl|omega) only [AXS,AXB,J.dst,reduceIte,Z1,Z2,Z3,Z4,Z5])
 refine ⟨fun k1 => ?_,fun k1 => ?_⟩
 ·-- a lease
  have k1' : c.s.kind = 1 := by simpa using k1
  have hap : applyP p c = (if (leaseP p c).2.s.err = 0 then leaseP p c else (p,(leaseP p c).2)) := by unfold applyP; simp only [if_pos k1']
  try simp (maxSteps:=1000000) (disch:=first|exact Lb rfl|omega) only [AXS,AXB,J.dst,reduceIte,Z1,Z2,Z3,Z4,Z5]
  rw [f57c4_eq]
  simp (maxSteps:=1000000) (disch:=first|exact Lb rfl|omega) only [AXJ,AXS,AXB,J.dst,reduceIte,Z1,Z2,Z3,Z4,Z5,f57r3,B3.cel,eCm,hcs,B6.cel,ePr,hps]
  try simp (maxSteps:=1000000) (disch:=first|exact Lb rfl|omega) only [AXS,AXB,J.dst,reduceIte,Z1,Z2,Z3,Z4,Z5]
  rw [i64_wrap (by omega) (by omega)]
  (try simp (maxSteps:=1000000) (disch:=first|exact Lb rfl|omega) only [AXS,AXB,J.dst,reduceIte,Z1,Z2,Z3,Z4,Z5]); rw [f57c5_eq]; (try simp (maxSteps:=1000000) (disch:=first|exact Lb rfl|omega) only [AXS,AXB,J.dst,reduceIte,Z1,Z2,Z3,Z4,Z5])
  generalize hcd : (c.s.epoch != p.s.epoch + 1 || decide (c.s.epoch > 1099511627776)) = cd
  have hcd' : cd = true ↔ (c.s.epoch ≠ p.s.epoch + 1 ∨ c.s.epoch > mostEpoch) := by rw [← hcd,hm]; simp
  refine ⟨fun q => ?_,fun q => ?_⟩
  ·have hl : leaseP p c = (p,errR 25) := by unfold leaseP; rw [if_pos (.inr (hcd'.1 q))]
   rw [hl] at hap
   have hap' : applyP p c = (p,errR 25) := by rw [hap]; split <;> rfl
   (try simp (maxSteps:=1000000) (disch:=first|exact Lb rfl|omega) only [AXS,AXB,J.dst,reduceIte,Z1,Z2,Z3,Z4,Z5]); rw [f57c6_eq]; (try simp (maxSteps:=1000000) (disch:=first|exact Lb rfl|omega) only [AXS,AXB,J.dst,reduceIte,Z1,Z2,Z3,Z4,Z5,f57r4,B6.rd,ePr])
   refine wL_stN rfl rfl rfl B4 (by decide) (ePr_one pv1) ?_
   rintro hA uA (E4 : Blk _ _ _ (ePr pv1))
   try simp (maxSteps:=1000000) (disch:=first|exact Lb rfl|omega) only [AXS,AXB,J.dst,reduceIte,Z1,Z2,Z3,Z4,Z5]
   refine wL_stN rfl rfl rfl (uA.blk B5 (by omega)) (by decide) (eRp_one ⟨(errR 25).s,none,0,0⟩) ?_
   rintro hB uB (E5 : Blk _ _ _ (eRp ⟨(errR 25).s,none,0,0⟩))
   replace E4 := uB.blk E4 (by omega)
   simp (maxSteps:=1000000) (disch:=first|exact Lb rfl|omega) only [AXS,AXB,J.dst,reduceIte,Z1,Z2,Z3,Z4,Z5,E4.rd,ePr,E5.rd,eRp]
   have := fin h7 pv1 p lo hc ⟨(errR 25).s,none,0,0⟩ (errR 25) hA hB I7 (RpO.none _ _ _) (no _) a4 a5 uA uB hap'
   exact this
  ·have hnq : ¬ (c.s.epoch ≠ p.s.epoch + 1 ∨ c.s.epoch > mostEpoch) := fun hx => by rw [hcd'.2 hx] at q; cases q
   have hl : leaseP p c = ({ p with s := { p.s with epoch := c.s.epoch,holder := c.s.node } },⟨okS,[]⟩) := by
    unfold leaseP; rw [if_neg (by omega)]
   rw [hl] at hap
   have hap' : applyP p c = ({ p with s := { p.s with epoch := c.s.epoch,holder := c.s.node } },⟨okS,[]⟩) := by rw [hap]; rfl
   try simp (maxSteps:=1000000) (disch:=first|exact Lb rfl|omega) only [AXS,AXB,J.dst,reduceIte,Z1,Z2,Z3,Z4,Z5]
   rw [f57c7_eq]
   refine ⟨fun b => b < h7.size ∧ b ≠ b6,fun b hb => hb.1,?_⟩
   have n3 : b3 ≠ b6 := by omega
   simp (maxSteps:=1000000) (disch:=first|exact Lb rfl|omega) only [AXS,AXB,J.dst,reduceIte,Z1,Z2,Z3,Z4,Z5,f57r5,B3.cel,eCm,hcs]
   refine ⟨⟨by omega,n3⟩,⟨by omega,n3⟩,?_⟩
   refine wL_stD rfl rfl (fun hb => hb.2 rfl) rfl B6 (by rw [ePr_len]; exact Nat.le_of_ble_eq_true rfl) int_one ?_
   rintro h8 u8 (B8 : Blk _ _ _ (ePr { pv1 with s := { pv1.s with epoch := c.s.epoch } }))
   try simp (maxSteps:=1000000) (disch:=first|exact Lb rfl|omega) only [AXS,AXB,J.dst,reduceIte,Z1,Z2,Z3,Z4,Z5]
   refine wL_stD rfl rfl (fun hb => hb.2 rfl) rfl B8 (by rw [ePr_len]; exact Nat.le_of_ble_eq_true rfl) int_one ?_
   rintro h9 u9 (B9 : Blk _ _ _ (ePr { pv1 with s := { pv1.s with epoch := c.s.epoch,holder := c.s.node } }))
   try simp (maxSteps:=1000000) (disch:=first|exact Lb rfl|omega) only [AXS,AXB,J.dst,reduceIte,Z1,Z2,Z3,Z4,Z5]
   have u79 : Upd b6 h7 h9 := ⟨u9.size.trans u8.size,fun b hb => (u9.ne b hb).trans (u8.ne b hb)⟩
   have I9 := I7.put { pv1.s with epoch := c.s.epoch,holder := c.s.node } u79 B9
   rw [hps] at I9 B9
   replace B4 := u79.blk B4 (by omega)
   replace B5 := u79.blk B5 (by omega)
   (try simp (maxSteps:=1000000) (disch:=first|exact Lb rfl|omega) only [AXS,AXB,J.dst,reduceIte,Z1,Z2,Z3,Z4,Z5]); rw [f57c8_eq]; (try simp (maxSteps:=1000000) (disch:=first|exact Lb rfl|omega) only [AXS,AXB,J.dst,reduceIte,Z1,Z2,Z3,Z4,Z5,f57r6,B9.rd,ePr])
   refine wL_stN rfl rfl rfl B4 (by decide) (ePr_one { pv1 with s := { p.s with epoch := c.s.epoch,holder := c.s.node } }) ?_
   rintro hA uA (E4 : Blk _ _ _ (ePr { pv1 with s := { p.s with epoch := c.s.epoch,holder := c.s.node } }))
   try simp (maxSteps:=1000000) (disch:=first|exact Lb rfl|omega) only [AXS,AXB,J.dst,reduceIte,Z1,Z2,Z3,Z4,Z5]
   refine wL_stN rfl rfl rfl (uA.blk B5 (by omega)) (by decide) (eRp_one ⟨okS,none,0,0⟩) ?_
   rintro hB uB (E5 : Blk _ _ _ (eRp ⟨okS,none,0,0⟩))
   replace E4 := uB.blk E4 (by omega)
   simp (maxSteps:=1000000) (disch:=first|exact Lb rfl|omega) only [AXS,AXB,J.dst,reduceIte,Z1,Z2,Z3,Z4,Z5,E4.rd,ePr,E5.rd,eRp]
   have := fin h9 _ _ lo hc ⟨okS,none,0,0⟩ ⟨okS,[]⟩ hA hB I9 (RpO.none _ _ _) (no _) a4 a5 uA uB hap'
   exact this
 have k1' : ¬ c.s.kind = 1 := by simpa using k1
 try simp (maxSteps:=1000000) (disch:=first|exact Lb rfl|omega) only [AXS,AXB,J.dst,reduceIte,Z1,Z2,Z3,Z4,Z5]
 rw [f57c9_eq]
 simp (maxSteps:=1000000) (disch:=first|exact Lb rfl|omega) only [AXJ,AXS,AXB,J.dst,reduceIte,Z1,Z2,Z3,Z4,Z5,f57r7,B3.cel,eCm,hcs,B6.cel,ePr,hps]
 try simp (maxSteps:=1000000) (disch:=first|exact Lb rfl|omega) only [AXS,AXB,J.dst,reduceIte,Z1,Z2,Z3,Z4,Z5]
 (try simp (maxSteps:=1000000) (disch:=first|exact Lb rfl|omega) only [AXS,AXB,J.dst,reduceIte,Z1,Z2,Z3,Z4,Z5]); rw [f57c10_eq]; (try simp (maxSteps:=1000000) (disch:=first|exact Lb rfl|omega) only [AXS,AXB,J.dst,reduceIte,Z1,Z2,Z3,Z4,Z5])
 generalize hcd : (p.s.epoch == 0 || c.s.epoch != p.s.epoch) = cd
 have hcd' : cd = true ↔ (p.s.epoch = 0 ∨ c.s.epoch ≠ p.s.epoch) := by rw [← hcd]; simp
 refine ⟨fun q => ?_,fun q => ?_⟩
 ·have hap' : applyP p c = (p,errR 25) := (other_law p c k1').1 (hcd'.1 q)
  (try simp (maxSteps:=1000000) (disch:=first|exact Lb rfl|omega) only [AXS,AXB,J.dst,reduceIte,Z1,Z2,Z3,Z4,Z5]); rw [f57c11_eq]; (try simp (maxSteps:=1000000) (disch:=first|exact Lb rfl|omega) only [AXS,AXB,J.dst,reduceIte,Z1,Z2,Z3,Z4,Z5,f57r8,B6.rd,ePr])
  refine wL_stN rfl rfl rfl B4 (by decide) (ePr_one pv1) ?_
  rintro hA uA (E4 : Blk _ _ _ (ePr pv1))
  try simp (maxSteps:=1000000) (disch:=first|exact Lb rfl|omega) only [AXS,AXB,J.dst,reduceIte,Z1,Z2,Z3,Z4,Z5]
  refine wL_stN rfl rfl rfl (uA.blk B5 (by omega)) (by decide) (eRp_one ⟨(errR 25).s,none,0,0⟩) ?_
  rintro hB uB (E5 : Blk _ _ _ (eRp ⟨(errR 25).s,none,0,0⟩))
  replace E4 := uB.blk E4 (by omega)
  simp (maxSteps:=1000000) (disch:=first|exact Lb rfl|omega) only [AXS,AXB,J.dst,reduceIte,Z1,Z2,Z3,Z4,Z5,E4.rd,ePr,E5.rd,eRp]
  have := fin h7 pv1 p lo hc ⟨(errR 25).s,none,0,0⟩ (errR 25) hA hB I7 (RpO.none _ _ _) (no _) a4 a5 uA uB hap'
  exact this
 have hnq : ¬ (p.s.epoch = 0 ∨ c.s.epoch ≠ p.s.epoch) := fun hx => by rw [hcd'.2 hx] at q; cases q
 have hap0 := applyP_own p c k1' (fun h => hnq (.inl h)) (Decidable.byContradiction fun h => hnq (.inr h))
 clear hcd hcd' q
 -- a command that is OK,one that is not
 have hapO : (doesP p c).2.s.err = 0 → applyP p c = doesP p c := fun h => by rw [hap0,if_pos h]
 have hapE : (doesP p c).2.s.err ≠ 0 → applyP p c = (p,(doesP p c).2) := fun h => by rw [hap0,if_neg h]
 have C7 := C.ext e07
 (try simp (maxSteps:=1000000) (disch:=first|exact Lb rfl|omega) only [AXS,AXB,J.dst,reduceIte,Z1,Z2,Z3,Z4,Z5]); rw [f57c12_eq]; (try simp (maxSteps:=1000000) (disch:=first|exact Lb rfl|omega) only [AXS,AXB,J.dst,reduceIte,Z1,Z2,Z3,Z4,Z5,f57r9,B3.cel,eCm,hcs])
 rw [f57c13_eq]
 (try simp (maxSteps:=1000000) (disch:=first|exact Lb rfl|omega) only [AXS,AXB,J.dst,reduceIte,Z1,Z2,Z3,Z4,Z5]); rw [f57c14_eq]; (try simp (maxSteps:=1000000) (disch:=first|exact Lb rfl|omega) only [AXS,AXB,J.dst,reduceIte,Z1,Z2,Z3,Z4,Z5,f57r10]); rw [f57c15_eq]; (try simp (maxSteps:=1000000) (disch:=first|exact Lb rfl|omega) only [AXS,AXB,J.dst,reduceIte,Z1,Z2,Z3,Z4,Z5])
 refine ⟨fun k2 => ?_,fun k2 => ?_⟩
 ·-- Read
  have k2' : c.s.kind = 2 := by simpa using k2
  (try simp (maxSteps:=1000000) (disch:=first|exact Lb rfl|omega) only [AXS,AXB,J.dst,reduceIte,Z1,Z2,Z3,Z4,Z5]); rw [f57c16_eq]; (try simp (maxSteps:=1000000) (disch:=first|exact Lb rfl|omega) only [AXS,AXB,J.dst,reduceIte,Z1,Z2,Z3,Z4,Z5,f57r11,B3.cel,eCm,hcs,B6.cel,ePr,hps])
  (try simp (maxSteps:=1000000) (disch:=first|exact Lb rfl|omega) only [AXS,AXB,J.dst,reduceIte,Z1,Z2,Z3,Z4,Z5]); rw [f57c17_eq]; (try simp (maxSteps:=1000000) (disch:=first|exact Lb rfl|omega) only [AXS,AXB,J.dst,reduceIte,Z1,Z2,Z3,Z4,Z5])
  refine ⟨fun q => ?_,fun q => ?_⟩
  ·have hl : doesP p c = (p,⟨{ okS with err := 24,wall := p.s.low },[]⟩) := by
    unfold doesP readP; rw [if_pos k2',if_pos (of_decide_eq_true q)]
   have hap' : applyP p c = (p,⟨{ okS with err := 24,wall := p.s.low },[]⟩) := by rw [hapE (by rw [hl]; show ¬ (24 : Int) = 0; decide),hl]
   try simp (maxSteps:=1000000) (disch:=first|exact Lb rfl|omega) only [AXS,AXB,J.dst,reduceIte,Z1,Z2,Z3,Z4,Z5]
   rw [f57c18_eq]
   refine ⟨fun b => b < h7.size ∧ b ≠ b4 ∧ b ≠ b5,fun b hb => hb.1,?_⟩
   have n6 : b6 ≠ b4 ∧ b6 ≠ b5 := by omega
   simp (maxSteps:=1000000) (disch:=first|exact Lb rfl|omega) only [AXS,AXB,J.dst,reduceIte,Z1,Z2,Z3,Z4,Z5,f57r12,B6.rd,B6.cel,ePr,hps]
   refine ⟨⟨by omega,n6⟩,⟨by omega,n6⟩,?_⟩
   refine wL_stD rfl rfl (fun hb => hb.2.1 rfl) rfl B4 (by decide) (ePr_one { pv1 with s := p.s }) ?_
   rintro hA uA (E4 : Blk _ _ _ (ePr { pv1 with s := p.s }))
   try simp (maxSteps:=1000000) (disch:=first|exact Lb rfl|omega) only [AXS,AXB,J.dst,reduceIte,Z1,Z2,Z3,Z4,Z5]
   refine wL_stD rfl rfl (fun hb => hb.2.2 rfl) rfl (uA.blk B5 (by omega)) (by decide) (eRp_one ⟨{ okS with err := 24,wall := p.s.low },none,0,0⟩) ?_
   rintro hB uB (E5 : Blk _ _ _ (eRp ⟨{ okS with err := 24,wall := p.s.low },none,0,0⟩))
   replace E4 := uB.blk E4 (by omega)
   simp (maxSteps:=1000000) (disch:=first|exact Lb rfl|omega) only [AXS,AXB,J.dst,reduceIte,Z1,Z2,Z3,Z4,Z5,E4.rd,ePr,E5.rd,eRp]
   have := fin h7 pv1 p lo hc ⟨{ okS with err := 24,wall := p.s.low },none,0,0⟩ ⟨{ okS with err := 24,wall := p.s.low },[]⟩ hA hB I7 (RpO.none _ _ _) (no _) a4 a5 uA uB hap'
   rw [← hps] at this ⊢
   exact this
  ·have hlow : ¬ c.s.at_.wall < p.s.low := of_decide_eq_false q
   have hd := does_pairs p c k2' hlow
   (try simp (maxSteps:=1000000) (disch:=first|exact Lb rfl|omega) only [AXS,AXB,J.dst,reduceIte,Z1,Z2,Z3,Z4,Z5]); rw [f57c19_eq]; (try simp (maxSteps:=1000000) (disch:=first|exact Lb rfl|omega) only [AXS,AXB,J.dst,reduceIte,Z1,Z2,Z3,Z4,Z5,f57r13,B6.rd,ePr,B3.rd,B3.cel,eCm,hcs,C.sn])
   refine rpairs_ok (B := fun _ => True) pv1 p c.s.at_ c.spans _ ⟨hps,hcn,by rw [hcn]; exact I7.cap,hrn,hdn,I7.cells.imp fun _ _ => trivial,I7.recs.imp fun _ _ => trivial,I7.dones.imp fun _ _ => trivial⟩ C7.spans g.sz hn' hs ?_
   intro pa pc h8 Q8 e8
   refine ⟨trivial,?_⟩
   replace B3 := B3.ext e8; replace B4 := B4.ext e8; replace B5 := B5.ext e8; replace B6 := B6.ext e8
   have I8 := I7.exts e8
   have z8 := e8.size
   try simp (maxSteps:=1000000) (disch:=first|exact Lb rfl|omega) only [AXS,AXB,J.dst,reduceIte,Z1,Z2,Z3,Z4,Z5]
   refine wL_newN ?_; rintro b8 h9 e9 s9 hb8 B8
   replace B3 := B3.ext e9; replace B4 := B4.ext e9; replace B5 := B5.ext e9; replace B6 := B6.ext e9
   have z9 := e9.size
   try simp (maxSteps:=1000000) (disch:=first|exact Lb rfl|omega) only [AXS,AXB,J.dst,reduceIte,Z1,Z2,Z3,Z4,Z5]
   refine wL_stN rfl rfl rfl B8 (by decide) (noRep_one (pairsP p c.s.at_ c.spans).2) ?_
   rintro h10 u10 (B8 : Blk _ _ _ (eRp ⟨(pairsP p c.s.at_ c.spans).2,none,0,0⟩))
   have hqo := Q8.ob
   have Q10 := (Q8.ext e9).gr u10.gr (fun j hj e => by cases e; have := hqo b8 hj; omega)
   have e710 := e8.trans (u10.ext e9 (by omega))
   have I10 := I7.exts e710
   replace B3 := u10.blk B3 (by omega)
   replace B4 := u10.blk B4 (by omega)
   replace B5 := u10.blk B5 (by omega)
   replace B6 := u10.blk B6 (by omega)
   have z10 := u10.size
   generalize pairsP p c.s.at_ c.spans = pp at *
   have l8 := B8.lt
   (try simp (maxSteps:=1000000) (disch:=first|exact Lb rfl|omega) only [AXS,AXB,J.dst,reduceIte,Z1,Z2,Z3,Z4,Z5]); rw [f57c20_eq]; (try simp (maxSteps:=1000000) (disch:=first|exact Lb rfl|omega) only [AXS,AXB,J.dst,reduceIte,Z1,Z2,Z3,Z4,Z5,f57r14,B8.cel,eRp])
   (try simp (maxSteps:=1000000) (disch:=first|exact Lb rfl|omega) only [AXS,AXB,J.dst,reduceIte,Z1,Z2,Z3,Z4,Z5]); rw [f57c21_eq]; (try simp (maxSteps:=1000000) (disch:=first|exact Lb rfl|omega) only [AXS,AXB,J.dst,reduceIte,Z1,Z2,Z3,Z4,Z5])
   refine ⟨fun q2 => ?_,fun q2 => ?_⟩
   ·have hne : pp.2.err ≠ 0 := by simpa using q2
    rw [if_neg hne] at hd
    have hap' : applyP p c = (p,⟨pp.2,[]⟩) := by rw [hapE (by rw [hd]; exact hne),hd]
    try simp (maxSteps:=1000000) (disch:=first|exact Lb rfl|omega) only [AXS,AXB,J.dst,reduceIte,Z1,Z2,Z3,Z4,Z5]
    rw [f57c22_eq]
    refine ⟨fun b => b < h10.size ∧ b ≠ b4 ∧ b ≠ b5,fun b hb => hb.1,?_⟩
    have n6 : b6 ≠ b4 ∧ b6 ≠ b5 := by omega
    have n8 : b8 ≠ b4 ∧ b8 ≠ b5 := by omega
    simp (maxSteps:=1000000) (disch:=first|exact Lb rfl|omega) only [AXS,AXB,J.dst,reduceIte,Z1,Z2,Z3,Z4,Z5,f57r15,B6.rd,ePr,B8.rd,eRp]
    refine ⟨⟨by omega,n6⟩,⟨by omega,n8⟩,?_⟩
    refine wL_stD rfl rfl (fun hb => hb.2.1 rfl) rfl B4 (by decide) (ePr_one pv1) ?_
    rintro hA uA (E4 : Blk _ _ _ (ePr pv1))
    try simp (maxSteps:=1000000) (disch:=first|exact Lb rfl|omega) only [AXS,AXB,J.dst,reduceIte,Z1,Z2,Z3,Z4,Z5]
    refine wL_stD rfl rfl (fun hb => hb.2.2 rfl) rfl (uA.blk B5 (by omega)) (by decide) (eRp_one ⟨pp.2,none,0,0⟩) ?_
    rintro hB uB (E5 : Blk _ _ _ (eRp ⟨pp.2,none,0,0⟩))
    replace E4 := uB.blk E4 (by omega)
    simp (maxSteps:=1000000) (disch:=first|exact Lb rfl|omega) only [AXS,AXB,J.dst,reduceIte,Z1,Z2,Z3,Z4,Z5,E4.rd,ePr,E5.rd,eRp]
    have := fin h10 pv1 p lo hc ⟨pp.2,none,0,0⟩ ⟨pp.2,[]⟩ hA hB I10 (RpO.none _ _ _) (no _) a4 a5 uA uB hap'
    exact this
   ·have he0 : pp.2.err = 0 := by simpa using q2
    rw [if_pos he0] at hd
    have hap' : applyP p c = ({ p with s := { p.s with floor := maxS p.s.floor c.s.at_ } },⟨okS,pp.1⟩) := by rw [hapO (by rw [hd]; rfl),hd]
    (try simp (maxSteps:=1000000) (disch:=first|exact Lb rfl|omega) only [AXS,AXB,J.dst,reduceIte,Z1,Z2,Z3,Z4,Z5]); rw [f57c23_eq]; (try simp (maxSteps:=1000000) (disch:=first|exact Lb rfl|omega) only [AXS,AXB,J.dst,reduceIte,Z1,Z2,Z3,Z4,Z5,f57r16,B6.rd,ePr,B3.rd,eCm,hcs,hps])
    refine rmax_ok p.s.floor c.s.at_ _ ?_
    intro h11 e11
    refine ⟨trivial,?_⟩
    replace B4 := B4.ext e11; replace B5 := B5.ext e11; replace B6 := B6.ext e11; replace Q10 := Q10.ext e11
    have I11 := I10.exts e11
    have z11 := e11.size
    try simp (maxSteps:=1000000) (disch:=first|exact Lb rfl|omega) only [AXS,AXB,J.dst,reduceIte,Z1,Z2,Z3,Z4,Z5]
    refine wL_stN rfl rfl rfl B6 (by rw [ePr_len]; exact Nat.le_of_ble_eq_true rfl) (eStamp_one _) ?_
    rintro h12 u12 (B12 : Blk _ _ _ (ePr { pv1 with s := { pv1.s with floor := maxS p.s.floor c.s.at_ } }))
    have I12 := I11.put _ u12 B12
    rw [hps] at I12 B12
    replace B4 := u12.blk B4 (by omega)
    replace B5 := u12.blk B5 (by omega)
    have hq6 : ∀ k,ob pa = some k → k ≠ b4 ∧ k ≠ b5 ∧ k ≠ b6 := fun k hk => by have := hqo k hk; omega
    have Q12 := Q10.gr u12.gr (fun j hj e => by cases e; exact (hq6 _ hj).2.2 rfl)
    try simp (maxSteps:=1000000) (disch:=first|exact Lb rfl|omega) only [AXS,AXB,J.dst,reduceIte,Z1,Z2,Z3,Z4,Z5]
    (try simp (maxSteps:=1000000) (disch:=first|exact Lb rfl|omega) only [AXS,AXB,J.dst,reduceIte,Z1,Z2,Z3,Z4,Z5]); rw [f57c24_eq]; (try simp (maxSteps:=1000000) (disch:=first|exact Lb rfl|omega) only [AXS,AXB,J.dst,reduceIte,Z1,Z2,Z3,Z4,Z5,f57r17,B12.rd,ePr])
    refine wL_stN rfl rfl rfl B4 (by decide) (ePr_one { pv1 with s := { p.s with floor := maxS p.s.floor c.s.at_ } }) ?_
    rintro hA uA (E4 : Blk _ _ _ (ePr { pv1 with s := { p.s with floor := maxS p.s.floor c.s.at_ } }))
    try simp (maxSteps:=1000000) (disch:=first|exact Lb rfl|omega) only [AXS,AXB,J.dst,reduceIte,Z1,Z2,Z3,Z4,Z5]
    refine wL_stN rfl rfl rfl (uA.blk B5 (by omega)) (by decide) (eRp_one ⟨okS,pa,pp.1.length,pc⟩) ?_
    rintro hB uB (E5 : Blk _ _ _ (eRp ⟨okS,pa,pp.1.length,pc⟩))
    replace E4 := uB.blk E4 (by omega)
    simp (maxSteps:=1000000) (disch:=first|exact Lb rfl|omega) only [AXS,AXB,J.dst,reduceIte,Z1,Z2,Z3,Z4,Z5,E4.rd,ePr,E5.rd,eRp]
    have := fin h12 _ _ lo hc ⟨okS,pa,pp.1.length,pc⟩ ⟨okS,pp.1⟩ hA hB I12 ⟨rfl,rfl,Q12.mono (by omega)⟩ (fun k hk => ⟨(hq6 k hk).1,(hq6 k hk).2.1⟩) a4 a5 uA uB hap'
    exact this
 have k2' : ¬ c.s.kind = 2 := by simpa using k2
 (try simp (maxSteps:=1000000) (disch:=first|exact Lb rfl|omega) only [AXS,AXB,J.dst,reduceIte,Z1,Z2,Z3,Z4,Z5]); rw [f57c25_eq]; (try simp (maxSteps:=1000000) (disch:=first|exact Lb rfl|omega) only [AXS,AXB,J.dst,reduceIte,Z1,Z2,Z3,Z4,Z5,f57r18]); rw [f57c26_eq]; (try simp (maxSteps:=1000000) (disch:=first|exact Lb rfl|omega) only [AXS,AXB,J.dst,reduceIte,Z1,Z2,Z3,Z4,Z5])
 refine ⟨fun k3 => ?_,fun k3 => ?_⟩
 ·-- Prepare
  have k3' : c.s.kind = 3 := by simpa using k3
  have hd : doesP p c = prepP p c := does_prep p c k3'
  rw [hd] at hapO hapE
  (try simp (maxSteps:=1000000) (disch:=first|exact Lb rfl|omega) only [AXS,AXB,J.dst,reduceIte,Z1,Z2,Z3,Z4,Z5]); rw [f57c27_eq]; (try simp (maxSteps:=1000000) (disch:=first|exact Lb rfl|omega) only [AXS,AXB,J.dst,reduceIte,Z1,Z2,Z3,Z4,Z5,f57r19,B6.rd,ePr,B3.rd,eCm])
  refine rprep_ok (h0 := h) pv1 p cv c e07 I7.o C g.sz hn ?_
  intro pv' h8 lo' hc' O8 e8 F8 hpairs
  refine ⟨trivial,?_⟩
  replace B4 := B4.ext e8; replace B5 := B5.ext e8; replace B6 := B6.ext e8
  have z8 := e8.size
  try simp (maxSteps:=1000000) (disch:=first|exact Lb rfl|omega) only [AXS,AXB,J.dst,reduceIte,Z1,Z2,Z3,Z4,Z5]
  refine wL_stN rfl rfl rfl B4 (by decide) (ePr_one pv') ?_
  rintro hA uA (E4 : Blk _ _ _ (ePr pv'))
  try simp (maxSteps:=1000000) (disch:=first|exact Lb rfl|omega) only [AXS,AXB,J.dst,reduceIte,Z1,Z2,Z3,Z4,Z5]
  refine wL_stN rfl rfl rfl (uA.blk B5 (by omega)) (by decide) (noRep_one (prepP p c).2.s) ?_
  rintro hB uB (E5 : Blk _ _ _ (eRp ⟨(prepP p c).2.s,none,0,0⟩))
  replace E4 := uB.blk E4 (by omega)
  simp (maxSteps:=1000000) (disch:=first|exact Lb rfl|omega) only [AXS,AXB,J.dst,reduceIte,Z1,Z2,Z3,Z4,Z5,E4.rd,ePr,E5.rd,eRp]
  have x4 := F8 b4 (by omega) a4
  have x5 := F8 b5 (by omega) a5
  have hpp : (prepP p c).2 = ⟨(prepP p c).2.s,[]⟩ := by
   cases h : (prepP p c).2 with
   | mk s pr => rw [h] at hpairs; simp only at hpairs; rw [hpairs]
  have hap' : applyP p c = ((prepP p c).1,⟨(prepP p c).2.s,[]⟩) := by
   by_cases he : (prepP p c).2.s.err = 0
   ·rw [hapO he,← hpp]
   ·rw [hapE he,← hpp]
    have hx := apply_not (p := p) (c := c) (by rw [hapE he]; exact he)
    have h2 : (prepP p c).1 = p := by
     unfold prepP at he ⊢
     split at he
     ·rfl
     ·split at he
      ·rename_i hm'; simp only [hm',if_true]
      ·rename_i hm'
       split at he
       ·rename_i hc'; simp only [hm',hc',Bool.false_eq_true,if_false,if_true]
       ·rename_i hc'
        split at he
        ·rename_i hf; simp only [hm',hc',hf,Bool.false_eq_true,if_false,if_true]
        ·rename_i hf
         simp only [hm',hc',hf,Bool.false_eq_true,if_false]
         split at he
         ·rfl
         ·exact absurd rfl he
    rw [h2]
  have := hR pv' ⟨(prepP p c).2.s,none,0,0⟩ hB (by rw [hap']; exact ((O8.upd uA x4.1 x4.2.1 x4.2.2).upd uB x5.1 x5.2.1 x5.2.2).fin) (by rw [hap']; exact RpO.none _ _ _) (uB.ext (uA.ext (e07.trans e8) (by omega)) (by omega))
  exact this
 have k3' : ¬ c.s.kind = 3 := by simpa using k3
 (try simp (maxSteps:=1000000) (disch:=first|exact Lb rfl|omega) only [AXS,AXB,J.dst,reduceIte,Z1,Z2,Z3,Z4,Z5]); rw [f57c28_eq]; (try simp (maxSteps:=1000000) (disch:=first|exact Lb rfl|omega) only [AXS,AXB,J.dst,reduceIte,Z1,Z2,Z3,Z4,Z5,f57r20]); rw [f57c29_eq]; (try simp (maxSteps:=1000000) (disch:=first|exact Lb rfl|omega) only [AXS,AXB,J.dst,reduceIte,Z1,Z2,Z3,Z4,Z5])
 refine ⟨fun k4 => ?_,fun k4 => ?_⟩
 ·-- Decide
  have k4' : c.s.kind = 4 := by simpa using k4
  have hd : doesP p c = match findO p.records c.s.by_ with
   | some o => (p,⟨{ okS with yes := o.yes,at_ := o.at_ },[]⟩)
   | none => ({ p with records := p.records ++ [outC c] },⟨{ okS with yes := c.s.yes,at_ := c.s.at_ },[]⟩) := by
   unfold doesP; rw [if_neg k2',if_neg k3',if_pos k4']; (try rfl)
  (try simp (maxSteps:=1000000) (disch:=first|exact Lb rfl|omega) only [AXS,AXB,J.dst,reduceIte,Z1,Z2,Z3,Z4,Z5]); rw [f57c30_eq]; (try simp (maxSteps:=1000000) (disch:=first|exact Lb rfl|omega) only [AXS,AXB,J.dst,reduceIte,Z1,Z2,Z3,Z4,Z5,f57r21,B6.cel,ePr,hrn,B3.rd,eCm,hcs])
  refine rfindO_ok p.records c.s.by_ _ I7.recs (by unfold maxLen; omega) ?_
  intro h8 e8
  refine ⟨trivial,?_⟩
  replace B3 := B3.ext e8; replace B4 := B4.ext e8; replace B5 := B5.ext e8; replace B6 := B6.ext e8
  have z8 := e8.size
  try simp (maxSteps:=1000000) (disch:=first|exact Lb rfl|omega) only [AXS,AXB,J.dst,reduceIte,Z1,Z2,Z3,Z4,Z5]
  refine wL_newN ?_; rintro b9 h9 e9 s9 hb9 B9
  replace B3 := B3.ext e9; replace B4 := B4.ext e9; replace B5 := B5.ext e9; replace B6 := B6.ext e9
  have z9 := e9.size
  try simp (maxSteps:=1000000) (disch:=first|exact Lb rfl|omega) only [AXS,AXB,J.dst,reduceIte,Z1,Z2,Z3,Z4,Z5]
  refine wL_stN rfl rfl rfl B9 (by decide) (eOut_one _) ?_
  rintro h10 u10 (B9 : Blk _ _ _ (eOut ((findO p.records c.s.by_).getD noOut)))
  have z10 := u10.size
  replace B3 := u10.blk B3 (by omega)
  replace B4 := u10.blk B4 (by omega)
  replace B5 := u10.blk B5 (by omega)
  replace B6 := u10.blk B6 (by omega)
  have I10 := I7.exts (e8.trans (u10.ext e9 (by omega)))
  have l9 := B9.lt
  have n6 : b6 ≠ b4 ∧ b6 ≠ b5 := by omega
  have n9 : b9 ≠ b4 ∧ b9 ≠ b5 := by omega
  (try simp (maxSteps:=1000000) (disch:=first|exact Lb rfl|omega) only [AXS,AXB,J.dst,reduceIte,Z1,Z2,Z3,Z4,Z5]); rw [f57c31_eq]; (try simp (maxSteps:=1000000) (disch:=first|exact Lb rfl|omega) only [AXS,AXB,J.dst,reduceIte,Z1,Z2,Z3,Z4,Z5,f57r22]); rw [f57c32_eq]; (try simp (maxSteps:=1000000) (disch:=first|exact Lb rfl|omega) only [AXS,AXB,J.dst,reduceIte,Z1,Z2,Z3,Z4,Z5])
  refine ⟨fun q => ?_,fun q => ?_⟩
  ·have hno : findO p.records c.s.by_ = none := by simpa using q
   rw [hno] at hd
   have hap' : applyP p c = ({ p with records := p.records ++ [outC c] },⟨{ okS with yes := c.s.yes,at_ := c.s.at_ },[]⟩) := by rw [hapO (by rw [hd]; rfl),hd]
   (try simp (maxSteps:=1000000) (disch:=first|exact Lb rfl|omega) only [AXS,AXB,J.dst,reduceIte,Z1,Z2,Z3,Z4,Z5]); rw [f57c33_eq]; (try simp (maxSteps:=1000000) (disch:=first|exact Lb rfl|omega) only [AXS,AXB,J.dst,reduceIte,Z1,Z2,Z3,Z4,Z5,f57r23,B3.rd,B3.cel,eCm,hcs])
   refine wL_stN rfl rfl rfl B9 (by rw [eOut_len]; decide) (eOut_one (outC c)) ?_
   rintro h11 u11 (B9 : Blk _ _ _ (eOut (outC c)))
   have z11 := u11.size
   replace B4 := u11.blk B4 (by omega)
   replace B5 := u11.blk B5 (by omega)
   replace B6 := u11.blk B6 (by omega)
   have I11 := I10.boxA (by omega) (by omega) ((I7.exts e8).ap (b := b9) (by omega)) u11
   (try simp (maxSteps:=1000000) (disch:=first|exact Lb rfl|omega) only [AXS,AXB,J.dst,reduceIte,Z1,Z2,Z3,Z4,Z5]); rw [f57c34_eq]; (try simp (maxSteps:=1000000) (disch:=first|exact Lb rfl|omega) only [AXS,AXB,J.dst,reduceIte,Z1,Z2,Z3,Z4,Z5,f57r24,B6.cel,ePr,hrn,B9.rd,eOut])
   refine wL_bslN rfl ?_; rintro b11 h12 e12 s12 hb11 (B11 : Blk _ _ _ (eOut (outC c)))
   replace B4 := B4.ext e12; replace B5 := B5.ext e12; replace B6 := B6.ext e12; replace B9 := B9.ext e12
   have I12 := I11.exts e12
   have z12 := e12.size
   try simp (maxSteps:=1000000) (disch:=first|exact Lb rfl|omega) only [AXS,AXB,J.dst,reduceIte,Z1,Z2,Z3,Z4,Z5]
   rw [wL_raw]
   refine raw_append slT114 rfl rfl rfl I12.o.records' (news := eOut (outC c)) (by rw [eOut_len]) (.inr ⟨b11,0,rfl,B11.row⟩) (eOut_one _) (by unfold maxLen; omega) (by omega) (by omega) ?_
   intro a13 c13 h13 O13 G13 A13
   refine ⟨trivial,?_⟩
   have z13 := G13.size
   have hra6 := I12.ra
   replace B6 := G13.blk B6 (fun e => hra6 e.symm)
   replace B4 := G13.blk B4 (fun e => a4.2.1 e.symm)
   replace B5 := G13.blk B5 (fun e => a5.2.1 e.symm)
   have hap9 := (I7.exts e8).ap (b := b9) (by omega)
   replace B9 := G13.blk B9 (fun e => hap9.2.1 e.symm)
   try simp (maxSteps:=1000000) (disch:=first|exact Lb rfl|omega) only [AXS,AXB,J.dst,reduceIte,Z1,Z2,Z3,Z4,Z5]
   refine wL_stN rfl rfl rfl B6 (by rw [ePr_len]; exact Nat.le_of_ble_eq_true rfl) slice_one ?_
   rintro h14 u14 (B14 : Blk _ _ _ (ePr { pv1 with ra := a13,rn := p.records.length + 1,rc := c13 }))
   have I14 := I11.putR e12 (x := outC c) (by rw [List.flatMap_append]; simpa using O13) (by simp) G13 A13 u14 B14
   have z14 := u14.size
   replace B4 := u14.blk B4 (by omega)
   replace B5 := u14.blk B5 (by omega)
   replace B9 := u14.blk B9 (by omega)
   have x4 := ap_app (v' := { pv1 with ra := a13,rn := p.records.length + 1,rc := c13 }) A13 a4 (by omega) rfl rfl
   have x5 := ap_app (v' := { pv1 with ra := a13,rn := p.records.length + 1,rc := c13 }) A13 a5 (by omega) rfl rfl
   try simp (maxSteps:=1000000) (disch:=first|exact Lb rfl|omega) only [AXS,AXB,J.dst,reduceIte,Z1,Z2,Z3,Z4,Z5]
   rw [f57c35_eq]
   refine ⟨fun b => b < h14.size ∧ b ≠ b4 ∧ b ≠ b5,fun b hb => hb.1,?_⟩
   simp (maxSteps:=1000000) (disch:=first|exact Lb rfl|omega) only [AXS,AXB,J.dst,reduceIte,Z1,Z2,Z3,Z4,Z5,f57r25,B14.rd,ePr,B9.rd,B9.cel,eOut,outC]
   refine ⟨⟨by omega,n6⟩,⟨by omega,n9⟩,⟨by omega,n9⟩,?_⟩
   refine wL_stD rfl rfl (fun hb => hb.2.1 rfl) rfl B4 (by decide) (ePr_one { pv1 with ra := a13,rn := p.records.length + 1,rc := c13 }) ?_
   rintro hA uA (E4 : Blk _ _ _ (ePr { pv1 with ra := a13,rn := p.records.length + 1,rc := c13 }))
   try simp (maxSteps:=1000000) (disch:=first|exact Lb rfl|omega) only [AXS,AXB,J.dst,reduceIte,Z1,Z2,Z3,Z4,Z5]
   refine wL_stD rfl rfl (fun hb => hb.2.2 rfl) rfl (uA.blk B5 (by omega)) (by decide) (eRp_one ⟨{ okS with yes := c.s.yes,at_ := c.s.at_ },none,0,0⟩) ?_
   rintro hB uB (E5 : Blk _ _ _ (eRp ⟨{ okS with yes := c.s.yes,at_ := c.s.at_ },none,0,0⟩))
   replace E4 := uB.blk E4 (by omega)
   simp (maxSteps:=1000000) (disch:=first|exact Lb rfl|omega) only [AXS,AXB,J.dst,reduceIte,Z1,Z2,Z3,Z4,Z5,E4.rd,ePr,E5.rd,eRp]
   have := fin h14 _ _ lo hc ⟨{ okS with yes := c.s.yes,at_ := c.s.at_ },none,0,0⟩ ⟨{ okS with yes := c.s.yes,at_ := c.s.at_ },[]⟩ hA hB I14 (RpO.none _ _ _) (no _) x4 x5 uA uB hap'
   exact this
  ·obtain ⟨o,ho⟩ : ∃ o,findO p.records c.s.by_ = some o := by
    cases hf : findO p.records c.s.by_ with
    | none => rw [hf] at q; cases q
    | some o => exact ⟨o,rfl⟩
   rw [ho] at hd
   rw [ho,Option.getD_some] at B9
   have hap' : applyP p c = (p,⟨{ okS with yes := o.yes,at_ := o.at_ },[]⟩) := by rw [hapO (by rw [hd]; rfl),hd]
   try simp (maxSteps:=1000000) (disch:=first|exact Lb rfl|omega) only [AXS,AXB,J.dst,reduceIte,Z1,Z2,Z3,Z4,Z5]
   rw [f57c35_eq]
   refine ⟨fun b => b < h10.size ∧ b ≠ b4 ∧ b ≠ b5,fun b hb => hb.1,?_⟩
   simp (maxSteps:=1000000) (disch:=first|exact Lb rfl|omega) only [AXS,AXB,J.dst,reduceIte,Z1,Z2,Z3,Z4,Z5,f57r25,B6.rd,ePr,B9.rd,B9.cel,eOut]
   refine ⟨⟨by omega,n6⟩,⟨by omega,n9⟩,⟨by omega,n9⟩,?_⟩
   refine wL_stD rfl rfl (fun hb => hb.2.1 rfl) rfl B4 (by decide) (ePr_one pv1) ?_
   rintro hA uA (E4 : Blk _ _ _ (ePr pv1))
   try simp (maxSteps:=1000000) (disch:=first|exact Lb rfl|omega) only [AXS,AXB,J.dst,reduceIte,Z1,Z2,Z3,Z4,Z5]
   refine wL_stD rfl rfl (fun hb => hb.2.2 rfl) rfl (uA.blk B5 (by omega)) (by decide) (eRp_one ⟨{ okS with yes := o.yes,at_ := o.at_ },none,0,0⟩) ?_
   rintro hB uB (E5 : Blk _ _ _ (eRp ⟨{ okS with yes := o.yes,at_ := o.at_ },none,0,0⟩))
   replace E4 := uB.blk E4 (by omega)
   simp (maxSteps:=1000000) (disch:=first|exact Lb rfl|omega) only [AXS,AXB,J.dst,reduceIte,Z1,Z2,Z3,Z4,Z5,E4.rd,ePr,E5.rd,eRp]
   have := fin h10 pv1 p lo hc ⟨{ okS with yes := o.yes,at_ := o.at_ },none,0,0⟩ ⟨{ okS with yes := o.yes,at_ := o.at_ },[]⟩ hA hB I10 (RpO.none _ _ _) (no _) a4 a5 uA uB hap'
   exact this
 have k4' : ¬ c.s.kind = 4 := by simpa using k4
 (try simp (maxSteps:=1000000) (disch:=first|exact Lb rfl|omega) only [AXS,AXB,J.dst,reduceIte,Z1,Z2,Z3,Z4,Z5]); rw [f57c36_eq]; (try simp (maxSteps:=1000000) (disch:=first|exact Lb rfl|omega) only [AXS,AXB,J.dst,reduceIte,Z1,Z2,Z3,Z4,Z5,f57r26]); rw [f57c37_eq]; (try simp (maxSteps:=1000000) (disch:=first|exact Lb rfl|omega) only [AXS,AXB,J.dst,reduceIte,Z1,Z2,Z3,Z4,Z5])
 refine ⟨fun k5 => ?_,fun k5 => ?_⟩
 ·-- Settle
  have k5' : c.s.kind = 5 := by simpa using k5
  have hd : doesP p c = ({ p with cells := settleL p.cells c.s.by_ c.s.yes,done := match findO p.done c.s.by_ with | some _ => p.done | none => p.done ++ [outC c] },⟨okS,[]⟩) := by
   unfold doesP; rw [if_neg k2',if_neg k3',if_neg k4',if_pos k5']; (try rfl)
  (try simp (maxSteps:=1000000) (disch:=first|exact Lb rfl|omega) only [AXS,AXB,J.dst,reduceIte,Z1,Z2,Z3,Z4,Z5]); rw [f57c38_eq]; (try simp (maxSteps:=1000000) (disch:=first|exact Lb rfl|omega) only [AXS,AXB,J.dst,reduceIte,Z1,Z2,Z3,Z4,Z5,f57r27,B6.cel,ePr,hcn,B3.rd,B3.cel,eCm,hcs])
  refine rsettleG g.sz.cells hn' I7.cells c.s.by_ c.s.yes ?_
  intro ca cc h8 O8 e8
  refine ⟨trivial,?_⟩
  replace B3 := B3.ext e8; replace B4 := B4.ext e8; replace B5 := B5.ext e8; replace B6 := B6.ext e8
  have z8 := e8.size
  try simp (maxSteps:=1000000) (disch:=first|exact Lb rfl|omega) only [AXS,AXB,J.dst,reduceIte,Z1,Z2,Z3,Z4,Z5]
  refine wL_stN rfl rfl rfl B6 (by rw [ePr_len]; exact Nat.le_of_ble_eq_true rfl) slice_one ?_
  rintro h9 u9 (B9 : Blk _ _ _ (ePr { pv1 with ca := ca,cn := (settleL p.cells c.s.by_ c.s.yes).length,cc := cc }))
  have I9 := I7.putC O8 e8 u9 B9
  have z9 := u9.size
  replace B3 := u9.blk B3 (by omega)
  replace B4 := u9.blk B4 (by omega)
  replace B5 := u9.blk B5 (by omega)
  have x4 : ApP b4 h7.size h8 { pv1 with ca := ca,cn := (settleL p.cells c.s.by_ c.s.yes).length,cc := cc } := ⟨.inl (by omega),a4.2⟩
  have x5 : ApP b5 h7.size h8 { pv1 with ca := ca,cn := (settleL p.cells c.s.by_ c.s.yes).length,cc := cc } := ⟨.inl (by omega),a5.2⟩
  try simp (maxSteps:=1000000) (disch:=first|exact Lb rfl|omega) only [AXS,AXB,J.dst,reduceIte,Z1,Z2,Z3,Z4,Z5]
  (try simp (maxSteps:=1000000) (disch:=first|exact Lb rfl|omega) only [AXS,AXB,J.dst,reduceIte,Z1,Z2,Z3,Z4,Z5]); rw [f57c39_eq]; (try simp (maxSteps:=1000000) (disch:=first|exact Lb rfl|omega) only [AXS,AXB,J.dst,reduceIte,Z1,Z2,Z3,Z4,Z5,f57r28,B9.cel,ePr,hdn,B3.rd,eCm,hcs])
  refine rfindO_ok p.done c.s.by_ _ I9.dones (by unfold maxLen; omega) ?_
  intro h10 e10
  refine ⟨trivial,?_⟩
  replace B3 := B3.ext e10; replace B4 := B4.ext e10; replace B5 := B5.ext e10
  have z10 := e10.size
  try simp (maxSteps:=1000000) (disch:=first|exact Lb rfl|omega) only [AXS,AXB,J.dst,reduceIte,Z1,Z2,Z3,Z4,Z5]
  refine wL_newN ?_; rintro b11 h11 e11 s11 hb11 B11
  replace B3 := B3.ext e11; replace B4 := B4.ext e11; replace B5 := B5.ext e11
  have z11 := e11.size
  try simp (maxSteps:=1000000) (disch:=first|exact Lb rfl|omega) only [AXS,AXB,J.dst,reduceIte,Z1,Z2,Z3,Z4,Z5]
  refine wL_stN rfl rfl rfl B11 (by decide) (eOut_one _) ?_
  rintro h12 u12 -
  have z12 := u12.size
  replace B3 := u12.blk B3 (by omega)
  replace B4 := u12.blk B4 (by omega)
  replace B5 := u12.blk B5 (by omega)
  have I12 := I9.exts (e10.trans (u12.ext e11 (by omega)))
  have B12 := I12.b
  (try simp (maxSteps:=1000000) (disch:=first|exact Lb rfl|omega) only [AXS,AXB,J.dst,reduceIte,Z1,Z2,Z3,Z4,Z5]); rw [f57c40_eq]; (try simp (maxSteps:=1000000) (disch:=first|exact Lb rfl|omega) only [AXS,AXB,J.dst,reduceIte,Z1,Z2,Z3,Z4,Z5,f57r29]); rw [f57c41_eq]; (try simp (maxSteps:=1000000) (disch:=first|exact Lb rfl|omega) only [AXS,AXB,J.dst,reduceIte,Z1,Z2,Z3,Z4,Z5])
  refine ⟨fun q => ?_,fun q => ?_⟩
  ·have hno : findO p.done c.s.by_ = none := by simpa using q
   rw [hno] at hd
   have hap' : applyP p c = ({ p with cells := settleL p.cells c.s.by_ c.s.yes,done := p.done ++ [outC c] },⟨okS,[]⟩) := by rw [hapO (by rw [hd]; rfl),hd]
   (try simp (maxSteps:=1000000) (disch:=first|exact Lb rfl|omega) only [AXS,AXB,J.dst,reduceIte,Z1,Z2,Z3,Z4,Z5]); rw [f57c42_eq]; (try simp (maxSteps:=1000000) (disch:=first|exact Lb rfl|omega) only [AXS,AXB,J.dst,reduceIte,Z1,Z2,Z3,Z4,Z5,f57r30,B12.cel,ePr,hdn,B3.rd,B3.cel,eCm,hcs])
   refine wL_bslN rfl ?_; rintro b13 h13 e13 s13 hb13 (B13 : Blk _ _ _ (eOut (outC c)))
   replace B4 := B4.ext e13; replace B5 := B5.ext e13
   have I13 := I12.exts e13
   have z13 := e13.size
   have Bp := I13.b
   try simp (maxSteps:=1000000) (disch:=first|exact Lb rfl|omega) only [AXS,AXB,J.dst,reduceIte,Z1,Z2,Z3,Z4,Z5]
   rw [wL_raw]
   refine raw_append slT114 rfl rfl rfl I13.o.done' (news := eOut (outC c)) (by rw [eOut_len]) (.inr ⟨b13,0,rfl,B13.row⟩) (eOut_one _) (by unfold maxLen; show p.done.length + 1 ≤ _; omega) (by show (p.done.length + 1) * 56 ≤ _; omega) (by omega) ?_
   intro a14 c14 h14 O14 G14 A14
   refine ⟨trivial,?_⟩
   have z14 := G14.size
   have hda6 := I13.da
   replace Bp := G14.blk Bp (fun e => hda6 e.symm)
   replace B4 := G14.blk B4 (fun e => a4.2.2 e.symm)
   replace B5 := G14.blk B5 (fun e => a5.2.2 e.symm)
   try simp (maxSteps:=1000000) (disch:=first|exact Lb rfl|omega) only [AXS,AXB,J.dst,reduceIte,Z1,Z2,Z3,Z4,Z5]
   refine wL_stN rfl rfl rfl Bp (by rw [ePr_len]; exact Nat.le_of_ble_eq_true rfl) slice_one ?_
   rintro h15 u15 (B15 : Blk _ _ _ (ePr { pv1 with ca := ca,cn := (settleL p.cells c.s.by_ c.s.yes).length,cc := cc,da := a14,dn := p.done.length + 1,dc := c14 }))
   have I15 := I12.putD e13 (x := outC c) (by rw [List.flatMap_append]; simpa using O14) (by simp) G14 A14 u15 B15
   have z15 := u15.size
   replace B4 := u15.blk B4 (by omega)
   replace B5 := u15.blk B5 (by omega)
   have y4 := ap_app' (v' := { pv1 with ca := ca,cn := (settleL p.cells c.s.by_ c.s.yes).length,cc := cc,da := a14,dn := p.done.length + 1,dc := c14 }) A14 x4 (by omega) rfl rfl
   have y5 := ap_app' (v' := { pv1 with ca := ca,cn := (settleL p.cells c.s.by_ c.s.yes).length,cc := cc,da := a14,dn := p.done.length + 1,dc := c14 }) A14 x5 (by omega) rfl rfl
   try simp (maxSteps:=1000000) (disch:=first|exact Lb rfl|omega) only [AXS,AXB,J.dst,reduceIte,Z1,Z2,Z3,Z4,Z5]
   (try simp (maxSteps:=1000000) (disch:=first|exact Lb rfl|omega) only [AXS,AXB,J.dst,reduceIte,Z1,Z2,Z3,Z4,Z5]); rw [f57c43_eq]; (try simp (maxSteps:=1000000) (disch:=first|exact Lb rfl|omega) only [AXS,AXB,J.dst,reduceIte,Z1,Z2,Z3,Z4,Z5,f57r31,B15.rd,ePr])
   refine wL_stN rfl rfl rfl B4 (by decide) (ePr_one { pv1 with ca := ca,cn := (settleL p.cells c.s.by_ c.s.yes).length,cc := cc,da := a14,dn := p.done.length + 1,dc := c14 }) ?_
   rintro hA uA (E4 : Blk _ _ _ (ePr { pv1 with ca := ca,cn := (settleL p.cells c.s.by_ c.s.yes).length,cc := cc,da := a14,dn := p.done.length + 1,dc := c14 }))
   try simp (maxSteps:=1000000) (disch:=first|exact Lb rfl|omega) only [AXS,AXB,J.dst,reduceIte,Z1,Z2,Z3,Z4,Z5]
   refine wL_stN rfl rfl rfl (uA.blk B5 (by omega)) (by decide) (eRp_one ⟨okS,none,0,0⟩) ?_
   rintro hB uB (E5 : Blk _ _ _ (eRp ⟨okS,none,0,0⟩))
   replace E4 := uB.blk E4 (by omega)
   simp (maxSteps:=1000000) (disch:=first|exact Lb rfl|omega) only [AXS,AXB,J.dst,reduceIte,Z1,Z2,Z3,Z4,Z5,E4.rd,ePr,E5.rd,eRp]
   have := fin h15 _ _ h7.size h8 ⟨okS,none,0,0⟩ ⟨okS,[]⟩ hA hB I15 (RpO.none _ _ _) (no _) y4 y5 uA uB hap'
   exact this
  ·obtain ⟨o,ho⟩ : ∃ o,findO p.done c.s.by_ = some o := by
    cases hf : findO p.done c.s.by_ with
    | none => rw [hf] at q; cases q
    | some o => exact ⟨o,rfl⟩
   rw [ho] at hd
   have hap' : applyP p c = ({ p with cells := settleL p.cells c.s.by_ c.s.yes },⟨okS,[]⟩) := by rw [hapO (by rw [hd]; rfl),hd]
   (try simp (maxSteps:=1000000) (disch:=first|exact Lb rfl|omega) only [AXS,AXB,J.dst,reduceIte,Z1,Z2,Z3,Z4,Z5]); rw [f57c43_eq]; (try simp (maxSteps:=1000000) (disch:=first|exact Lb rfl|omega) only [AXS,AXB,J.dst,reduceIte,Z1,Z2,Z3,Z4,Z5,f57r31,B12.rd,ePr])
   refine wL_stN rfl rfl rfl B4 (by decide) (ePr_one { pv1 with ca := ca,cn := (settleL p.cells c.s.by_ c.s.yes).length,cc := cc }) ?_
   rintro hA uA (E4 : Blk _ _ _ (ePr { pv1 with ca := ca,cn := (settleL p.cells c.s.by_ c.s.yes).length,cc := cc }))
   try simp (maxSteps:=1000000) (disch:=first|exact Lb rfl|omega) only [AXS,AXB,J.dst,reduceIte,Z1,Z2,Z3,Z4,Z5]
   refine wL_stN rfl rfl rfl (uA.blk B5 (by omega)) (by decide) (eRp_one ⟨okS,none,0,0⟩) ?_
   rintro hB uB (E5 : Blk _ _ _ (eRp ⟨okS,none,0,0⟩))
   replace E4 := uB.blk E4 (by omega)
   simp (maxSteps:=1000000) (disch:=first|exact Lb rfl|omega) only [AXS,AXB,J.dst,reduceIte,Z1,Z2,Z3,Z4,Z5,E4.rd,ePr,E5.rd,eRp]
   have := fin h12 _ _ h7.size h8 ⟨okS,none,0,0⟩ ⟨okS,[]⟩ hA hB I12 (RpO.none _ _ _) (no _) x4 x5 uA uB hap'
   exact this
 have k5' : ¬ c.s.kind = 5 := by simpa using k5
 (try simp (maxSteps:=1000000) (disch:=first|exact Lb rfl|omega) only [AXS,AXB,J.dst,reduceIte,Z1,Z2,Z3,Z4,Z5]); rw [f57c44_eq]; (try simp (maxSteps:=1000000) (disch:=first|exact Lb rfl|omega) only [AXS,AXB,J.dst,reduceIte,Z1,Z2,Z3,Z4,Z5,f57r32]); rw [f57c45_eq]; (try simp (maxSteps:=1000000) (disch:=first|exact Lb rfl|omega) only [AXS,AXB,J.dst,reduceIte,Z1,Z2,Z3,Z4,Z5])
 refine ⟨fun k6 => ?_,fun k6 => ?_⟩
 ·-- Close
  have k6' : c.s.kind = 6 := by simpa using k6
  have hd : doesP p c = ({ p with s := { p.s with closed := maxI p.s.closed (minI c.s.wall mostWall) } },⟨{ okS with wall := maxI p.s.closed (minI c.s.wall mostWall) },[]⟩) := by
   unfold doesP; rw [if_neg k2',if_neg k3',if_neg k4',if_neg k5',if_pos k6']
  have hap' := hapO (by rw [hd]; rfl)
  rw [hd] at hap'
  (try simp (maxSteps:=1000000) (disch:=first|exact Lb rfl|omega) only [AXS,AXB,J.dst,reduceIte,Z1,Z2,Z3,Z4,Z5]); rw [f57c46_eq]; (try simp (maxSteps:=1000000) (disch:=first|exact Lb rfl|omega) only [AXS,AXB,J.dst,reduceIte,Z1,Z2,Z3,Z4,Z5,f57r33,B6.cel,ePr,hps,B3.cel,eCm,hcs,Bool.false_eq_true])
  refine wL_stN rfl rfl rfl B6 (by rw [ePr_len]; exact Nat.le_of_ble_eq_true rfl) int_one ?_
  rintro h8 u8 (B8 : Blk _ _ _ (ePr { pv1 with s := { pv1.s with closed := maxI p.s.closed (minI c.s.wall mostWall) } }))
  have I8 := I7.put _ u8 B8
  rw [hps] at I8 B8
  have z8 := u8.size
  replace B4 := u8.blk B4 (by omega)
  replace B5 := u8.blk B5 (by omega)
  try simp (maxSteps:=1000000) (disch:=first|exact Lb rfl|omega) only [AXS,AXB,J.dst,reduceIte,Z1,Z2,Z3,Z4,Z5]
  rw [f57c47_eq]
  refine ⟨fun b => b < h8.size ∧ b ≠ b4 ∧ b ≠ b5,fun b hb => hb.1,?_⟩
  have n6 : b6 ≠ b4 ∧ b6 ≠ b5 := by omega
  simp (maxSteps:=1000000) (disch:=first|exact Lb rfl|omega) only [AXS,AXB,J.dst,reduceIte,Z1,Z2,Z3,Z4,Z5,f57r34,B8.rd,B8.cel,ePr]
  refine ⟨⟨by omega,n6⟩,⟨by omega,n6⟩,?_⟩
  refine wL_stD rfl rfl (fun hb => hb.2.1 rfl) rfl B4 (by decide) (ePr_one { pv1 with s := { p.s with closed := maxI p.s.closed (minI c.s.wall mostWall) } }) ?_
  rintro hA uA (E4 : Blk _ _ _ (ePr { pv1 with s := { p.s with closed := maxI p.s.closed (minI c.s.wall mostWall) } }))
  try simp (maxSteps:=1000000) (disch:=first|exact Lb rfl|omega) only [AXS,AXB,J.dst,reduceIte,Z1,Z2,Z3,Z4,Z5]
  refine wL_stD rfl rfl (fun hb => hb.2.2 rfl) rfl (uA.blk B5 (by omega)) (by decide) (eRp_one ⟨{ okS with wall := maxI p.s.closed (minI c.s.wall mostWall) },none,0,0⟩) ?_
  rintro hB uB (E5 : Blk _ _ _ (eRp ⟨{ okS with wall := maxI p.s.closed (minI c.s.wall mostWall) },none,0,0⟩))
  replace E4 := uB.blk E4 (by omega)
  simp (maxSteps:=1000000) (disch:=first|exact Lb rfl|omega) only [AXS,AXB,J.dst,reduceIte,Z1,Z2,Z3,Z4,Z5,E4.rd,ePr,E5.rd,eRp]
  have := fin h8 _ _ lo hc ⟨{ okS with wall := maxI p.s.closed (minI c.s.wall mostWall) },none,0,0⟩ ⟨{ okS with wall := maxI p.s.closed (minI c.s.wall mostWall) },[]⟩ hA hB I8 (RpO.none _ _ _) (no _) a4 a5 uA uB hap'
  exact this
 have k6' : ¬ c.s.kind = 6 := by simpa using k6
 (try simp (maxSteps:=1000000) (disch:=first|exact Lb rfl|omega) only [AXS,AXB,J.dst,reduceIte,Z1,Z2,Z3,Z4,Z5]); rw [f57c48_eq]; (try simp (maxSteps:=1000000) (disch:=first|exact Lb rfl|omega) only [AXS,AXB,J.dst,reduceIte,Z1,Z2,Z3,Z4,Z5,f57r35]); rw [f57c49_eq]; (try simp (maxSteps:=1000000) (disch:=first|exact Lb rfl|omega) only [AXS,AXB,J.dst,reduceIte,Z1,Z2,Z3,Z4,Z5])
 refine ⟨fun k7 => ?_,fun k7 => ?_⟩
 ·-- Trim
  have k7' : c.s.kind = 7 := by simpa using k7
  have hd : doesP p c = ({ p with s := { p.s with low := maxI p.s.low (minI c.s.wall p.s.closed) },cells := trimL p.cells ⟨maxI p.s.low (minI c.s.wall p.s.closed),0⟩ },⟨{ okS with wall := maxI p.s.low (minI c.s.wall p.s.closed) },[]⟩) := by
   unfold doesP; rw [if_neg k2',if_neg k3',if_neg k4',if_neg k5',if_neg k6',if_pos k7']
  have hap' := hapO (by rw [hd]; rfl)
  rw [hd] at hap'
  (try simp (maxSteps:=1000000) (disch:=first|exact Lb rfl|omega) only [AXS,AXB,J.dst,reduceIte,Z1,Z2,Z3,Z4,Z5]); rw [f57c50_eq]; (try simp (maxSteps:=1000000) (disch:=first|exact Lb rfl|omega) only [AXS,AXB,J.dst,reduceIte,Z1,Z2,Z3,Z4,Z5,f57r36,B6.cel,ePr,hps,B3.cel,eCm,hcs,Bool.false_eq_true])
  refine wL_stN rfl rfl rfl B6 (by rw [ePr_len]; exact Nat.le_of_ble_eq_true rfl) int_one ?_
  rintro h8 u8 (B8 : Blk _ _ _ (ePr { pv1 with s := { pv1.s with low := maxI p.s.low (minI c.s.wall p.s.closed) } }))
  have I8 := I7.put _ u8 B8
  rw [hps] at I8 B8
  have z8 := u8.size
  replace B4 := u8.blk B4 (by omega)
  replace B5 := u8.blk B5 (by omega)
  try simp (maxSteps:=1000000) (disch:=first|exact Lb rfl|omega) only [AXS,AXB,J.dst,reduceIte,Z1,Z2,Z3,Z4,Z5]
  (try simp (maxSteps:=1000000) (disch:=first|exact Lb rfl|omega) only [AXS,AXB,J.dst,reduceIte,Z1,Z2,Z3,Z4,Z5]); rw [f57c51_eq]; (try simp (maxSteps:=1000000) (disch:=first|exact Lb rfl|omega) only [AXS,AXB,J.dst,reduceIte,Z1,Z2,Z3,Z4,Z5,f57r37,B8.cel,ePr,hcn])
  refine rtrimG g.sz.cells hn' I8.cells ⟨maxI p.s.low (minI c.s.wall p.s.closed),0⟩ ?_
  intro ca cc h9 O9 e9
  refine ⟨trivial,?_⟩
  replace B8 := B8.ext e9; replace B4 := B4.ext e9; replace B5 := B5.ext e9
  have z9 := e9.size
  try simp (maxSteps:=1000000) (disch:=first|exact Lb rfl|omega) only [AXS,AXB,J.dst,reduceIte,Z1,Z2,Z3,Z4,Z5]
  refine wL_stN rfl rfl rfl B8 (by rw [ePr_len]; exact Nat.le_of_ble_eq_true rfl) slice_one ?_
  rintro h10 u10 (B10 : Blk _ _ _ (ePr { pv1 with s := { p.s with low := maxI p.s.low (minI c.s.wall p.s.closed) },ca := ca,cn := (trimL p.cells ⟨maxI p.s.low (minI c.s.wall p.s.closed),0⟩).length,cc := cc }))
  have I10 := I8.putC O9 e9 u10 B10
  have z10 := u10.size
  replace B4 := u10.blk B4 (by omega)
  replace B5 := u10.blk B5 (by omega)
  try simp (maxSteps:=1000000) (disch:=first|exact Lb rfl|omega) only [AXS,AXB,J.dst,reduceIte,Z1,Z2,Z3,Z4,Z5]
  rw [f57c52_eq]
  refine ⟨fun b => b < h10.size ∧ b ≠ b4 ∧ b ≠ b5,fun b hb => hb.1,?_⟩
  have n6 : b6 ≠ b4 ∧ b6 ≠ b5 := by omega
  simp (maxSteps:=1000000) (disch:=first|exact Lb rfl|omega) only [AXS,AXB,J.dst,reduceIte,Z1,Z2,Z3,Z4,Z5,f57r38,B10.rd,B10.cel,ePr]
  refine ⟨⟨by omega,n6⟩,⟨by omega,n6⟩,?_⟩
  refine wL_stD rfl rfl (fun hb => hb.2.1 rfl) rfl B4 (by decide) (ePr_one { pv1 with s := { p.s with low := maxI p.s.low (minI c.s.wall p.s.closed) },ca := ca,cn := (trimL p.cells ⟨maxI p.s.low (minI c.s.wall p.s.closed),0⟩).length,cc := cc }) ?_
  rintro hA uA (E4 : Blk _ _ _ (ePr { pv1 with s := { p.s with low := maxI p.s.low (minI c.s.wall p.s.closed) },ca := ca,cn := (trimL p.cells ⟨maxI p.s.low (minI c.s.wall p.s.closed),0⟩).length,cc := cc }))
  try simp (maxSteps:=1000000) (disch:=first|exact Lb rfl|omega) only [AXS,AXB,J.dst,reduceIte,Z1,Z2,Z3,Z4,Z5]
  refine wL_stD rfl rfl (fun hb => hb.2.2 rfl) rfl (uA.blk B5 (by omega)) (by decide) (eRp_one ⟨{ okS with wall := maxI p.s.low (minI c.s.wall p.s.closed) },none,0,0⟩) ?_
  rintro hB uB (E5 : Blk _ _ _ (eRp ⟨{ okS with wall := maxI p.s.low (minI c.s.wall p.s.closed) },none,0,0⟩))
  replace E4 := uB.blk E4 (by omega)
  simp (maxSteps:=1000000) (disch:=first|exact Lb rfl|omega) only [AXS,AXB,J.dst,reduceIte,Z1,Z2,Z3,Z4,Z5,E4.rd,ePr,E5.rd,eRp]
  have := fin h10 _ _ h8.size h9 ⟨{ okS with wall := maxI p.s.low (minI c.s.wall p.s.closed) },none,0,0⟩ ⟨{ okS with wall := maxI p.s.low (minI c.s.wall p.s.closed) },[]⟩ hA hB I10 (RpO.none _ _ _) (no _) ⟨.inl (by omega),a4.2⟩ ⟨.inl (by omega),a5.2⟩ uA uB hap'
  exact this
 have k7' : ¬ c.s.kind = 7 := by simpa using k7
 have hd : doesP p c = (p,errR 9) := by
  unfold doesP; rw [if_neg k2',if_neg k3',if_neg k4',if_neg k5',if_neg k6',if_neg k7']
 have hap' : applyP p c = (p,errR 9) := by rw [hapE (by rw [hd]; show ¬ (9 : Int) = 0; decide),hd]
 (try simp (maxSteps:=1000000) (disch:=first|exact Lb rfl|omega) only [AXS,AXB,J.dst,reduceIte,Z1,Z2,Z3,Z4,Z5]); rw [f57c53_eq]; (try simp (maxSteps:=1000000) (disch:=first|exact Lb rfl|omega) only [AXS,AXB,J.dst,reduceIte,Z1,Z2,Z3,Z4,Z5,f57r39,B6.rd,ePr])
 refine wL_stN rfl rfl rfl B4 (by decide) (ePr_one pv1) ?_
 rintro hA uA (E4 : Blk _ _ _ (ePr pv1))
 try simp (maxSteps:=1000000) (disch:=first|exact Lb rfl|omega) only [AXS,AXB,J.dst,reduceIte,Z1,Z2,Z3,Z4,Z5]
 refine wL_stN rfl rfl rfl (uA.blk B5 (by omega)) (by decide) (eRp_one ⟨(errR 9).s,none,0,0⟩) ?_
 rintro hB uB (E5 : Blk _ _ _ (eRp ⟨(errR 9).s,none,0,0⟩))
 replace E4 := uB.blk E4 (by omega)
 simp (maxSteps:=1000000) (disch:=first|exact Lb rfl|omega) only [AXS,AXB,J.dst,reduceIte,Z1,Z2,Z3,Z4,Z5,E4.rd,ePr,E5.rd,eRp]
 have := fin h7 pv1 p lo hc ⟨(errR 9).s,none,0,0⟩ (errR 9) hA hB I7 (RpO.none _ _ _) (no _) a4 a5 uA uB hap'
 exact this
end Go.Proofs.Ytefghfgmkndikaa
namespace Go.Proofs.Ytefghfgmkndikaa
open Go Go.AX Go.ChangeShapes Go.WideShapes Go.RowKit Go.Deep
section
variable {H : Type} {enc : TypeId × Value → H} {w : World} {base : Nat}
theorem kdOut {cs : List Value} (h0 : All2 kdV [.i .i64,.i .i64,.i .i64,.i .i64,.i .i64,.i .i64,.b] cs) : ∃ x : Out,cs = eOut x := by
 obtain ⟨_,_,rfl,⟨a0,rfl,_⟩,h1⟩ := all2_cons h0
 obtain ⟨_,_,rfl,⟨a1,rfl,_⟩,h2⟩ := all2_cons h1
 obtain ⟨_,_,rfl,⟨a2,rfl,_⟩,h3⟩ := all2_cons h2
 obtain ⟨_,_,rfl,⟨a3,rfl,_⟩,h4⟩ := all2_cons h3
 obtain ⟨_,_,rfl,⟨a4,rfl,_⟩,h5⟩ := all2_cons h4
 obtain ⟨_,_,rfl,⟨a5,rfl,_⟩,h6⟩ := all2_cons h5
 obtain ⟨_,_,rfl,⟨a6,rfl⟩,h7⟩ := all2_cons h6
 have := all2_nil h7; subst this
 exact ⟨⟨⟨a0,a1,a2,a3⟩,⟨a4,a5⟩,a6⟩,rfl⟩
theorem sz116 : Try.prog.cellsOf 116 = 9 := by kernel_rfl
theorem sz126 : Try.prog.cellsOf 126 = 7 := by kernel_rfl
theorem sz74 : Try.prog.cellsOf 74 = 1 := by kernel_rfl
theorem sz114 : Try.prog.cellsOf 114 = 1 := by kernel_rfl
theorem und114 : Try.prog.underlying 114 = some (.slice 126) := by kernel_rfl
theorem flat126 : flatT Try.prog 20 126 = some [.i .i64,.i .i64,.i .i64,.i .i64,.i .i64,.i .i64,.b] := by kernel_rfl
theorem fld116 : isStrF Try.prog 116 [(3,0),(3,1),(39,2),(2,4),(2,5),(74,6),(114,7),(114,8)] = true := by kernel_rfl
theorem str116 : isStr Try.prog 116 = true := by kernel_rfl
set_option maxRecDepth 100000 in
theorem trod_part {n : Nat} {cs : List Value} {y : DataW H × List MemPlace} (h : DataW.trod enc Try.prog w 0 (fun _ => true) true n 116 cs = some y) :
  ∃ v,cs = ePr v ∧ ∃ p,PrR (fun b => b < w.heap.size) w.heap v p ∧ p.cells.length ≤ maxLen ∧ Fit p.cells ∧ p.records.length ≤ v.rc ∧ p.done.length ≤ v.dc := by
 obtain ⟨hlen,hf⟩ := trod_fields fld116 h
 obtain ⟨n0,y0,h0⟩ := hf (3,0) (by simp)
 obtain ⟨n1,y1,h1⟩ := hf (3,1) (by simp)
 obtain ⟨n2,y2,h2⟩ := hf (39,2) (by simp)
 obtain ⟨n3,y3,h3⟩ := hf (2,4) (by simp)
 obtain ⟨n4,y4,h4⟩ := hf (2,5) (by simp)
 obtain ⟨n5,y5,h5⟩ := hf (74,6) (by simp)
 obtain ⟨n6,y6,h6⟩ := hf (114,7) (by simp)
 obtain ⟨n7,y7,h7⟩ := hf (114,8) (by simp)
 simp only [sz3,sz39,sz2,sz74,sz114] at h0 h1 h2 h3 h4 h5 h6 h7
 rw [sz116] at hlen
 obtain ⟨epoch,e0⟩ := kdI (flatT_trod _ _ _ _ _ _ flat3 h0)
 obtain ⟨holder,e1⟩ := kdI (flatT_trod _ _ _ _ _ _ flat3 h1)
 obtain ⟨floor,e2⟩ := kdStamp (flatT_trod _ _ _ _ _ _ flat39 h2)
 obtain ⟨closed,e3⟩ := kdI (flatT_trod _ _ _ _ _ _ flat2 h3)
 obtain ⟨low,e4⟩ := kdI (flatT_trod _ _ _ _ _ _ flat2 h4)
 obtain ⟨ca,cn,cc,cl,e5,hc1,hc2,hc3,SC,FC⟩ := open_cells h5
 obtain ⟨ra,rn,rc,rl,e6,hr1,hr2,hr3,SR⟩ := open_flat und114 flat126 sz126 (by decide) (fun _ => kdOut) eOut_len h6
 obtain ⟨da,dn,dc,dl,e7,hd1,hd2,hd3,SD⟩ := open_flat und114 flat126 sz126 (by decide) (fun _ => kdOut) eOut_len h7
 have hcs : cs = (cs.drop 0).take 1 ++ ((cs.drop 1).take 1 ++ ((cs.drop 2).take 2 ++ ((cs.drop 4).take 1 ++ ((cs.drop 5).take 1 ++ ((cs.drop 6).take 1 ++ ((cs.drop 7).take 1 ++ (cs.drop 8).take 1)))))) := by
  have e : (cs.drop 8).take 1 = cs.drop 8 := by rw [List.take_of_length_le]; rw [List.length_drop]; omega
  rw [e,← drop_split cs 7 1 8 rfl,← drop_split cs 6 1 7 rfl,← drop_split cs 5 1 6 rfl,← drop_split cs 4 1 5 rfl,← drop_split cs 2 2 4 rfl,← drop_split cs 1 1 2 rfl,← drop_split cs 0 1 1 rfl,List.drop_zero]
 rw [e0,e1,e2,e3,e4,e5,e6,e7] at hcs
 refine ⟨⟨⟨epoch,holder,floor,closed,low⟩,ca,cn,cc,ra,rn,rc,da,dn,dc⟩,hcs,⟨⟨epoch,holder,floor,closed,low⟩,cl,rl,dl⟩,⟨rfl,hc1.symm,hc2,hr1.symm,hd1.symm,SC,SR,SD⟩,?_,FC,?_,?_⟩
 ·show cl.length ≤ maxLen; omega
 ·show rl.length ≤ rc; omega
 ·show dl.length ≤ dc; omega
set_option maxRecDepth 100000 in
theorem argPart {v : Value} {d : DataW H} {p : List MemPlace} (hv : Value.okWide Try.prog w .any base 116 v) (h : DataW.Trod enc Try.prog w 0 (fun _ => true) true 116 v d p) :
  ∃ pv p,v = .agg (ePr pv).toArray ∧ PrR (fun b => b < w.heap.size) w.heap pv p ∧ p.cells.length ≤ maxLen ∧ Fit p.cells ∧ p.records.length ≤ pv.rc ∧ p.done.length ≤ pv.dc := by
 obtain ⟨fs,ht⟩ := isStr_spec str116
 obtain ⟨cs,rfl,_⟩ := okWide_struct ht hv
 obtain ⟨fuel,hf⟩ := h
 obtain ⟨pv,e,p,r1,r2,r3,r4,r5⟩ := trod_part hf
 refine ⟨pv,p,?_,r1,r2,r3,r4,r5⟩
 congr 1
 apply Array.ext'
 simpa [cells_agg] using e
end
end Go.Proofs.Ytefghfgmkndikaa
namespace Go.Proofs.Ytefghfgmkndikaa
open Go.AX
set_option maxRecDepth 100000
def f15r0 : List I := [.op (.box 4 116 (.tmp 0)),
 .op (.box 5 43 (.tmp 1)),
 .op (.box 7 37 (.tmp 3)),
 .op (.mov 8 (.const (.bool false))),
 .kp [2,4,5,7]]
def f15r1 : List I := [.op (.call (some 17) 52 []),
 .op (.un 18 .not (.tmp 17)),
 .kp [2,4,5,7,18]]
def f15r2 : List I := [.op (.mov 8 (.const (.bool false))),
 .kp [8]]
def f15r3 : List I := [.op (.ld 19 (some 9) (.tmp 4)),
 .op (.call (some 20) 62 [(.tmp 19)]),
 .op (.un 21 .not (.tmp 20)),
 .op (.mov 22 (.tmp 21)),
 .sc 22 false 4,
 .g 22 false (.ld 23 (some 14) (.tmp 5)),
 .g 22 false (.bsl 24 43 1 [.int .i64 0,.int .i64 0,.int .i64 0,.int .i64 0,.int .i64 0,.int .i64 0,.int .i64 0,.int .i64 0,.int .i64 0,.int .i64 0,.int .i64 0,.bool false,.slice none 0 0,.slice none 0 0] [(0,14,(.tmp 23))]),
 .g 22 false (.call (some 25) 53 [(.tmp 24),(.const (.int .i64 1))]),
 .g 22 false (.un 26 .not (.tmp 25)),
 .op (.pick 27 (.tmp 22) (.const (.bool true)) (.tmp 26)),
 .kp [27,2,4,5,7]]
def f15r4 : List I := [.op (.mov 8 (.const (.bool true))),
 .kp [8]]
def f15r5 : List I := [.op (.ld 28 (some 9) (.tmp 4)),
 .op (.ld 30 (some 9) (.tmp 4)),
 .op (.call (some 29) 60 [(.tmp 28)]),
 .op (.call (some 31) 61 [(.tmp 30)]),
 .op (.eqb 32 true (.tmp 29) (.tmp 31)),
 .kp [2,4,5,7,32]]
def f15r6 : List I := [.op (.mov 8 (.const (.bool false))),
 .kp [8]]
def f15r7 : List I := [.op (.ld 33 (some 9) (.tmp 4)),
 .op (.call (some 34) 61 [(.tmp 33)]),
 .op (.un 35 .not (.tmp 34)),
 .kp [2,4,5,7,35]]
def f15r8 : List I := [.op (.mov 8 (.const (.bool true))),
 .kp [8]]
def f15r9 : List I := [.op (.ld 36 (some 9) (.tmp 4)),
 .op (.ld 37 (some 14) (.tmp 5)),
 .op (.mov 38 (.tmp 2)),
 .op (.call (some 39) 54 [(.tmp 36),(.tmp 37),(.tmp 38)]),
 .op (.st 14 (.tmp 5) (.tmp 39)),
 .kp [4,5,7]]
def f15r10 : List I := [.op (.ld 41 (some 9) (.tmp 4)),
 .op (.ld 42 (some 14) (.tmp 5)),
 .op (.call (some 43) 56 [(.tmp 41),(.tmp 42)]),
 .op (.mov 40 (.tmp 43)),
 .op (.ext 44 (.tmp 40) 0),
 .op (.ext 45 (.tmp 40) 1),
 .op (.new 9 116 [.int .i64 0,.int .i64 0,.int .i64 0,.int .i64 0,.int .i64 0,.int .i64 0,.slice none 0 0,.slice none 0 0,.slice none 0 0]),
 .op (.new 10 47 [.int .i64 0,.slice none 0 0,.int .i64 0,.int .i64 0,.int .i64 0,.int .i64 0,.int .i64 0,.int .i64 0,.int .i64 0,.int .i64 0,.bool false]),
 .op (.st 9 (.tmp 9) (.tmp 44)),
 .op (.st 11 (.tmp 10) (.tmp 45)),
 .kp [4,5,7,9,10]]
def f15r11 : List I := [.op (.ld 47 (some 9) (.tmp 4)),
 .op (.ld 48 (some 14) (.tmp 5)),
 .op (.call (some 49) 57 [(.tmp 47),(.tmp 48)]),
 .op (.mov 46 (.tmp 49)),
 .op (.ext 50 (.tmp 46) 0),
 .op (.ext 51 (.tmp 46) 1),
 .op (.new 11 116 [.int .i64 0,.int .i64 0,.int .i64 0,.int .i64 0,.int .i64 0,.int .i64 0,.slice none 0 0,.slice none 0 0,.slice none 0 0]),
 .op (.new 12 47 [.int .i64 0,.slice none 0 0,.int .i64 0,.int .i64 0,.int .i64 0,.int .i64 0,.int .i64 0,.int .i64 0,.int .i64 0,.int .i64 0,.bool false]),
 .op (.st 9 (.tmp 11) (.tmp 50)),
 .op (.st 11 (.tmp 12) (.tmp 51)),
 .kp [4,7,9,10,11,12]]
def f15r12 : List I := [.op (.fad 53 7 (.tmp 4)),
 .op (.ld 54 none (.tmp 53)),
 .op (.ld 55 (some 4) (.tmp 7)),
 .op (.call (some 56) 63 [(.tmp 54),(.tmp 55)]),
 .op (.mov 52 (.tmp 56)),
 .op (.ext 57 (.tmp 52) 0),
 .op (.ext 58 (.tmp 52) 1),
 .op (.new 13 126 [.int .i64 0,.int .i64 0,.int .i64 0,.int .i64 0,.int .i64 0,.int .i64 0,.bool false]),
 .op (.st 7 (.tmp 13) (.tmp 57)),
 .op (.mov 14 (.tmp 58)),
 .kp [4,7,9,10,11,12,13,14]]
def f15r13 : List I := [.op (.fad 60 7 (.tmp 4)),
 .op (.ld 61 none (.tmp 60)),
 .op (.ld 62 (some 4) (.tmp 7)),
 .op (.call (some 63) 64 [(.tmp 61),(.tmp 62)]),
 .op (.mov 59 (.tmp 63)),
 .op (.ext 64 (.tmp 59) 0),
 .op (.ext 65 (.tmp 59) 1),
 .op (.new 15 126 [.int .i64 0,.int .i64 0,.int .i64 0,.int .i64 0,.int .i64 0,.int .i64 0,.bool false]),
 .op (.st 7 (.tmp 15) (.tmp 64)),
 .op (.mov 16 (.tmp 65)),
 .kp [9,10,11,12,13,14,15,16]]
def f15r14c : List I := [.op (.mov 8 (.tmp 83)),
 .kp [8]]
def f15r14b : List I := .op (.mov 79 (.tmp 78)) ::
 .sc 79 true 3 ::
 .g 79 true (.mov 80 (.tmp 14)) ::
 .g 79 true (.mov 81 (.tmp 16)) ::
 .g 79 true (.eqb 82 false (.tmp 80) (.tmp 81)) ::
 .op (.pick 83 (.tmp 79) (.tmp 82) (.const (.bool false))) ::
 .kp [83] ::
 f15r14c
def f15r14a : List I := .op (.mov 74 (.tmp 73)) ::
 .sc 74 true 3 ::
 .g 74 true (.ld 75 (some 7) (.tmp 13)) ::
 .g 74 true (.ld 76 (some 7) (.tmp 15)) ::
 .g 74 true (.eqa 77 false [.i .i64,.i .i64,.i .i64,.i .i64,.i .i64,.i .i64,.b] (.tmp 75) (.tmp 76)) ::
 .op (.pick 78 (.tmp 74) (.tmp 77) (.const (.bool false))) ::
 .kp [78,14,16] ::
 f15r14b
def f15r14 : List I := .op (.ld 66 (some 9) (.tmp 9)) ::
 .op (.ld 67 (some 9) (.tmp 11)) ::
 .op (.call (some 68) 58 [(.tmp 66),(.tmp 67)]) ::
 .op (.mov 69 (.tmp 68)) ::
 .sc 69 true 3 ::
 .g 69 true (.ld 70 (some 11) (.tmp 10)) ::
 .g 69 true (.ld 71 (some 11) (.tmp 12)) ::
 .g 69 true (.call (some 72) 59 [(.tmp 70),(.tmp 71)]) ::
 .op (.pick 73 (.tmp 69) (.tmp 72) (.const (.bool false))) ::
 .kp [73,13,14,15,16] ::
 f15r14a
def f15c3 : C := (.seq (.reg f15r2) .ret)
def f15c6 : C := (.seq (.reg f15r4) .ret)
def f15c9 : C := (.seq (.reg f15r6) .ret)
def f15c12 : C := (.seq (.reg f15r8) .ret)
def f15c18 : C := (.seq (.reg f15r14) .ret)
def f15c17 : C := (.seq (.reg f15r13) f15c18)
def f15c16 : C := (.seq (.reg f15r12) f15c17)
def f15c15 : C := (.seq (.reg f15r11) f15c16)
def f15c14 : C := (.seq (.reg f15r10) f15c15)
def f15c13 : C := (.seq (.reg f15r9) f15c14)
def f15c11 : C := (.seq (.cond (.tmp 35) f15c12 .skip) f15c13)
def f15c10 : C := (.seq (.reg f15r7) f15c11)
def f15c8 : C := (.seq (.cond (.tmp 32) f15c9 .skip) f15c10)
def f15c7 : C := (.seq (.drw f15r5) f15c8)
def f15c5 : C := (.seq (.cond (.tmp 27) f15c6 .skip) f15c7)
def f15c4 : C := (.seq (.reg f15r3) f15c5)
def f15c2 : C := (.seq (.cond (.tmp 18) f15c3 .skip) f15c4)
def f15c1 : C := (.seq (.reg f15r1) f15c2)
def f15c0 : C := (.seq (.reg f15r0) f15c1)
theorem f15cmp : cmpF Try.prog Try.f15 [.l [.o 0,.o 1,.o 2,.o 3,.kp [2,4,5,7]],
 .l [.o 0,.o 1,.kp [2,4,5,7,18]],
 .l [.o 0,.kp [8]],
 .l [.o 0,.o 1,.o 2,.o 3,.sc 22 false 4,.o 4,.o 5,.o 6,.o 7,.o 8,.kp [27,2,4,5,7]],
 .l [.o 0,.kp [8]],
 .l [.o 0,.o 2,.o 1,.o 3,.o 4,.kp [2,4,5,7,32]],
 .l [.o 0,.kp [8]],
 .l [.o 0,.o 1,.o 2,.kp [2,4,5,7,35]],
 .l [.o 0,.kp [8]],
 .l [.o 0,.o 1,.o 2,.o 3,.o 4,.kp [4,5,7]],
 .l [.o 0,.o 1,.o 2,.o 3,.o 4,.o 5,.o 6,.o 7,.o 8,.o 9,.kp [4,5,7,9,10]],
 .l [.o 0,.o 1,.o 2,.o 3,.o 4,.o 5,.o 6,.o 7,.o 8,.o 9,.kp [4,7,9,10,11,12]],
 .l [.o 0,.o 1,.o 2,.o 3,.o 4,.o 5,.o 6,.o 7,.o 8,.o 9,.kp [4,7,9,10,11,12,13,14]],
 .l [.o 0,.o 1,.o 2,.o 3,.o 4,.o 5,.o 6,.o 7,.o 8,.o 9,.kp [9,10,11,12,13,14,15,16]],
 .l [.o 0,.o 1,.o 2,.o 3,.sc 69 true 3,.o 4,.o 5,.o 6,.o 7,.kp [73,13,14,15,16],.o 8,.sc 74 true 3,.o 9,.o 10,.o 11,.o 12,.kp [78,14,16],.o 13,.sc 79 true 3,.o 14,.o 15,.o 16,.o 17,.kp [83],.o 18,.kp [8]]] = some (f15c0,[.tmp 8]) := by kernel_rfl
theorem f15ok {args : List Value} {h : Heap} {R : Value → Heap → Prop} (hn : args.length ≤ 84) (H : wC Try.prog f15c0 (endW [.tmp 8] R) (envOf 0 args) h) : CallsH Try.prog 15 args h R :=
 fn_ok2 Try.func15 f15cmp hn H
section
variable {P : Program} {Q : X → Env → Heap → Prop} {σ : Env} {h : Heap}
theorem f15c6_eq : wC P f15c6 Q σ h = (wL P none f15r4 0 (fun σ h => Q .ret σ h) σ h) := rfl
theorem f15c12_eq : wC P f15c12 Q σ h = (wL P none f15r8 0 (fun σ h => Q .ret σ h) σ h) := rfl
theorem f15c18_eq : wC P f15c18 Q σ h = (wL P none f15r14 0 (fun σ h => Q .ret σ h) σ h) := rfl
theorem f15c17_eq : wC P f15c17 Q σ h = (wL P none f15r13 0 (fun σ h => wC P f15c18 Q σ h) σ h) := rfl
theorem f15c16_eq : wC P f15c16 Q σ h = (wL P none f15r12 0 (fun σ h => wC P f15c17 Q σ h) σ h) := rfl
theorem f15c15_eq : wC P f15c15 Q σ h = (wL P none f15r11 0 (fun σ h => wC P f15c16 Q σ h) σ h) := rfl
theorem f15c14_eq : wC P f15c14 Q σ h = (wL P none f15r10 0 (fun σ h => wC P f15c15 Q σ h) σ h) := rfl
theorem f15c13_eq : wC P f15c13 Q σ h = (wL P none f15r9 0 (fun σ h => wC P f15c14 Q σ h) σ h) := rfl
theorem f15c11_eq : wC P f15c11 Q σ h = (bd (evO σ (.tmp 35)) fun v => bd (asB v) fun t => br t (wC P f15c12 (X.then (fun σ h => wC P f15c13 Q σ h) Q) σ h) (wC P f15c13 Q σ h)) := rfl
theorem f15c10_eq : wC P f15c10 Q σ h = (wL P none f15r7 0 (fun σ h => wC P f15c11 Q σ h) σ h) := rfl
theorem f15c8_eq : wC P f15c8 Q σ h = (bd (evO σ (.tmp 32)) fun v => bd (asB v) fun t => br t (wC P f15c9 (X.then (fun σ h => wC P f15c10 Q σ h) Q) σ h) (wC P f15c10 Q σ h)) := rfl
theorem f15c7_eq : wC P f15c7 Q σ h = (drwW P f15r5 (fun σ h => wC P f15c8 Q σ h) σ h) := rfl
theorem f15c5_eq : wC P f15c5 Q σ h = (bd (evO σ (.tmp 27)) fun v => bd (asB v) fun t => br t (wC P f15c6 (X.then (fun σ h => wC P f15c7 Q σ h) Q) σ h) (wC P f15c7 Q σ h)) := rfl
theorem f15c4_eq : wC P f15c4 Q σ h = (wL P none f15r3 0 (fun σ h => wC P f15c5 Q σ h) σ h) := rfl
theorem f15c2_eq : wC P f15c2 Q σ h = (bd (evO σ (.tmp 18)) fun v => bd (asB v) fun t => br t (wC P f15c3 (X.then (fun σ h => wC P f15c4 Q σ h) Q) σ h) (wC P f15c4 Q σ h)) := rfl
theorem f15c1_eq : wC P f15c1 Q σ h = (wL P none f15r1 0 (fun σ h => wC P f15c2 Q σ h) σ h) := rfl
theorem f15c0_eq : wC P f15c0 Q σ h = (wL P none f15r0 0 (fun σ h => wC P f15c1 Q σ h) σ h) := rfl
end
end Go.Proofs.Ytefghfgmkndikaa
namespace Go.Proofs.Ytefghfgmkndikaa
open Go Go.AX
theorem eqA_outE2 (x : Out) : eqA false [.i .i64,.i .i64,.i .i64,.i .i64,.i .i64,.i .i64,.b] (.agg (eOut x).toArray) (.agg (eOut x).toArray) = some (.bool true) := by
 simp only [eqA,eOut,eqKds,eqKd,and_self,if_true,Option.bind_some,Option.map_some,beq_self_eq_true,Bool.and_true]
 rfl
set_option maxHeartbeats 4000000 in
theorem anyP_ok (pv : PrV) (p : Prt) (cv : CmV) (c0 : Cmd) (other : Bool) (by_ : Try4) (h : Heap) (S : PrR (fun b => b < h.size) h pv p) (hn : p.cells.length ≤ maxLen) (F : Fit p.cells) (hrc : p.records.length ≤ pv.rc) (hdc : p.done.length ≤ pv.dc)
  (C : CmR (fun b => b < h.size) h cv c0) (F1 : c0.spans.length ≤ maxLen) (F2 : c0.writes.length ≤ maxLen) {R : Value → Heap → Prop}
  (hR : ∀ h',Ext h h' → R (.bool true) h') : CallsH Try.prog 15 [.agg (ePr pv).toArray,.agg (eCm cv).toArray,.bool other,.agg (eTry by_).toArray] h R := by
 have hbig : big = 1000000 := rfl
 refine f15ok (by simp) ?_
 (try simp (maxSteps:=1000000) (disch:=first|exact Lb rfl|omega) only [AXS,AXB,J.dst,reduceIte,Z1,Z2,Z3,Z4,Z5]); rw [f15c0_eq]; (try simp (maxSteps:=1000000) (disch:=first|exact Lb rfl|omega) only [AXS,AXB,J.dst,reduceIte,Z1,Z2,Z3,Z4,Z5,f15r0])
 refine wL_boxN rfl ?_; rintro b4 h1 x1 s1 hb4 (B4 : Blk _ _ _ (ePr pv))
 refine wL_boxN rfl ?_; rintro b5 h2 x2 s2 hb5 (B5 : Blk _ _ _ (eCm cv))
 refine wL_boxN rfl ?_; rintro b7 h3 x3 s3 hb7 (B7 : Blk _ _ _ (eTry by_))
 replace B4 := B4.ext x2; replace B4 := B4.ext x3; replace B5 := B5.ext x3
 have x03 := (x1.trans x2).trans x3
 (try simp (maxSteps:=1000000) (disch:=first|exact Lb rfl|omega) only [AXS,AXB,J.dst,reduceIte,Z1,Z2,Z3,Z4,Z5]); rw [f15c1_eq]; (try simp (maxSteps:=1000000) (disch:=first|exact Lb rfl|omega) only [AXS,AXB,J.dst,reduceIte,Z1,Z2,Z3,Z4,Z5,f15r1])
 refine begunP_ok _ ?_
 intro h4 x4
 refine ⟨trivial,?_⟩
 replace B4 := B4.ext x4; replace B5 := B5.ext x4; replace B7 := B7.ext x4
 have x04 := x03.trans x4
 (try simp (maxSteps:=1000000) (disch:=first|exact Lb rfl|omega) only [AXS,AXB,J.dst,reduceIte,Z1,Z2,Z3,Z4,Z5]); rw [f15c2_eq]; (try simp (maxSteps:=1000000) (disch:=first|exact Lb rfl|omega) only [AXS,AXB,J.dst,reduceIte,Z1,Z2,Z3,Z4,Z5])
 rw [f15c4_eq]
 simp (maxSteps:=1000000) (disch:=first|exact Lb rfl|omega) only [AXJ,AXS,AXB,J.dst,reduceIte,Z1,Z2,Z3,Z4,Z5,f15r3,B4.rd,ePr]
 refine lightPart_ok pv p _ (S.ext x04) hn F ?_
 intro bl h5 hbl x5
 refine ⟨trivial,?_⟩
 replace B4 := B4.ext x5; replace B5 := B5.ext x5; replace B7 := B7.ext x5
 have x05 := x04.trans x5
 cases bl with
 | false =>
  simp (maxSteps:=1000000) (disch:=first|exact Lb rfl|omega) only [AXJ,AXS,AXB,J.dst,reduceIte,Z1,Z2,Z3,Z4,Z5,Bool.false_eq_true]
  (try simp (maxSteps:=1000000) (disch:=first|exact Lb rfl|omega) only [AXS,AXB,J.dst,reduceIte,Z1,Z2,Z3,Z4,Z5]); rw [f15c5_eq]; (try simp (maxSteps:=1000000) (disch:=first|exact Lb rfl|omega) only [AXS,AXB,J.dst,reduceIte,Z1,Z2,Z3,Z4,Z5]); rw [f15c6_eq]; (try simp (maxSteps:=1000000) (disch:=first|exact Lb rfl|omega) only [AXS,AXB,J.dst,reduceIte,Z1,Z2,Z3,Z4,Z5,f15r4])
  exact hR _ x05
 | true =>
 obtain ⟨hz,hrl,hdl⟩ := hbl rfl
 simp (maxSteps:=1000000) (disch:=first|exact Lb rfl|omega) only [AXJ,AXS,AXB,J.dst,reduceIte,Z1,Z2,Z3,Z4,Z5,B5.rd,eCm]
 refine wL_bslN rfl ?_; rintro b6 h6 x6 s6 hb6 (B6 : Blk _ _ _ (eCm cv))
 have x06 := x05.trans x6
 replace B4 := B4.ext x6; replace B5 := B5.ext x6; replace B7 := B7.ext x6
 try simp (maxSteps:=1000000) (disch:=first|exact Lb rfl|omega) only [AXJ,AXS,AXB,J.dst,reduceIte,Z1,Z2,Z3,Z4,Z5]
 refine lightP_ok (B := fun _ => True) (a := some ⟨b6,0,none⟩) (n := 1) [c0] 1 _ ⟨[cv],.cons ((C.ext x06).imp fun _ _ => trivial) .nil,fun _ => ⟨b6,0,rfl,trivial,by simpa using B6.row⟩⟩ ⟨by unfold maxLen; simp,fun x hx => by simp at hx; subst hx; exact ⟨F1,F2⟩⟩ ?_
 intro bl2 h7 hb2 x7
 refine ⟨trivial,?_⟩
 replace B4 := B4.ext x7; replace B5 := B5.ext x7; replace B7 := B7.ext x7
 have x07 := x06.trans x7
 cases bl2 with
 | false =>
  simp (maxSteps:=1000000) (disch:=first|exact Lb rfl|omega) only [AXJ,AXS,AXB,J.dst,reduceIte,Z1,Z2,Z3,Z4,Z5,Bool.false_eq_true]
  (try simp (maxSteps:=1000000) (disch:=first|exact Lb rfl|omega) only [AXS,AXB,J.dst,reduceIte,Z1,Z2,Z3,Z4,Z5]); rw [f15c5_eq]; (try simp (maxSteps:=1000000) (disch:=first|exact Lb rfl|omega) only [AXS,AXB,J.dst,reduceIte,Z1,Z2,Z3,Z4,Z5]); rw [f15c6_eq]; (try simp (maxSteps:=1000000) (disch:=first|exact Lb rfl|omega) only [AXS,AXB,J.dst,reduceIte,Z1,Z2,Z3,Z4,Z5,f15r4])
  exact hR _ x07
 | true =>
 have hc0 := (hb2 rfl).2 c0 (by simp)
 obtain ⟨z1,z2,z3,z4,z5,z6⟩ := szAll hz (by omega)
 simp (maxSteps:=1000000) (disch:=first|exact Lb rfl|omega) only [AXJ,AXS,AXB,J.dst,reduceIte,Z1,Z2,Z3,Z4,Z5]
 have l4 := B4.lt
 (try simp (maxSteps:=1000000) (disch:=first|exact Lb rfl|omega) only [AXS,AXB,J.dst,reduceIte,Z1,Z2,Z3,Z4,Z5]); rw [f15c5_eq]; (try simp (maxSteps:=1000000) (disch:=first|exact Lb rfl|omega) only [AXS,AXB,J.dst,reduceIte,Z1,Z2,Z3,Z4,Z5])
 rw [f15c7_eq]
 refine drw_lt ?_
 simp (maxSteps:=1000000) (disch:=first|exact Lb rfl|omega) only [AXS,AXB,J.dst,reduceIte,Z1,Z2,Z3,Z4,Z5,f15r5,B4.rd,ePr]
 refine ⟨l4,l4,?_⟩
 refine mayM_ok pv p _ (S.ext x07) z5 z6 (by omega) (by omega) ?_
 intro b1 h8 hb1 x8
 refine ⟨kp_ext (Nat.le_refl _) x8,?_⟩
 try simp (maxSteps:=1000000) (disch:=first|exact Lb rfl|omega) only [AXS,AXB,J.dst,reduceIte,Z1,Z2,Z3,Z4,Z5]
 refine rmayM_ok pv p _ ((S.ext x07).ext x8) z5 z6 (by omega) (by omega) hrc hdc ?_
 intro b2 h9 hb2' x9
 refine ⟨kp_ext x8.size x9,?_⟩
 have hbb : b1 = b2 := by
  cases b1 <;> cases b2 <;> first | rfl | (have := hb1.1 rfl; have := hb2'.2 this; cases this) | (have := hb2'.1 rfl; have := hb1.2 this; cases this)
 subst hbb
 replace B4 := B4.ext (x8.trans x9); replace B5 := B5.ext (x8.trans x9); replace B7 := B7.ext (x8.trans x9)
 have x09 := (x07.trans x8).trans x9
 try simp (maxSteps:=1000000) (disch:=first|exact Lb rfl|omega) only [AXS,AXB,J.dst,reduceIte,Z1,Z2,Z3,Z4,Z5]
 (try simp (maxSteps:=1000000) (disch:=first|exact Lb rfl|omega) only [AXS,AXB,J.dst,reduceIte,Z1,Z2,Z3,Z4,Z5]); rw [f15c8_eq]; (try simp (maxSteps:=1000000) (disch:=first|exact Lb rfl|omega) only [AXS,AXB,J.dst,reduceIte,Z1,Z2,Z3,Z4,Z5])
 (try simp (maxSteps:=1000000) (disch:=first|exact Lb rfl|omega) only [AXS,AXB,J.dst,reduceIte,Z1,Z2,Z3,Z4,Z5]); rw [f15c10_eq]; (try simp (maxSteps:=1000000) (disch:=first|exact Lb rfl|omega) only [AXS,AXB,J.dst,reduceIte,Z1,Z2,Z3,Z4,Z5,f15r7,B4.rd,ePr])
 refine rmayM_ok pv p _ (S.ext x09) z5 z6 (by omega) (by omega) hrc hdc ?_
 intro b3 h10 hb3 x10
 refine ⟨trivial,?_⟩
 replace B4 := B4.ext x10; replace B5 := B5.ext x10; replace B7 := B7.ext x10
 have x010 := x09.trans x10
 (try simp (maxSteps:=1000000) (disch:=first|exact Lb rfl|omega) only [AXS,AXB,J.dst,reduceIte,Z1,Z2,Z3,Z4,Z5]); rw [f15c11_eq]; (try simp (maxSteps:=1000000) (disch:=first|exact Lb rfl|omega) only [AXS,AXB,J.dst,reduceIte,Z1,Z2,Z3,Z4,Z5])
 refine ⟨fun q => ?_,fun q => ?_⟩
 ·(try simp (maxSteps:=1000000) (disch:=first|exact Lb rfl|omega) only [AXS,AXB,J.dst,reduceIte,Z1,Z2,Z3,Z4,Z5]); rw [f15c12_eq]; (try simp (maxSteps:=1000000) (disch:=first|exact Lb rfl|omega) only [AXS,AXB,J.dst,reduceIte,Z1,Z2,Z3,Z4,Z5,f15r8])
  exact hR _ x010
 have M := hb3.1 (by simpa using q)
 have g : GdP 100 p := ⟨⟨⟨(mayP_iff p.cells).1 M.cells,hz.mono (by omega)⟩,by omega,by omega⟩,M.e0,M.e1⟩
 have hps := S.s
 (try simp (maxSteps:=1000000) (disch:=first|exact Lb rfl|omega) only [AXS,AXB,J.dst,reduceIte,Z1,Z2,Z3,Z4,Z5]); rw [f15c13_eq]; (try simp (maxSteps:=1000000) (disch:=first|exact Lb rfl|omega) only [AXS,AXB,J.dst,reduceIte,Z1,Z2,Z3,Z4,Z5,f15r9,B4.rd,ePr,B5.rd,eCm])
 refine own_okP pv p cv c0 other _ hps (C.ext x010) g.e0 g.e1 ?_
 intro cv' h11 C11 x11
 refine ⟨trivial,?_⟩
 replace B4 := B4.ext x11; replace B5 := B5.ext x11; replace B7 := B7.ext x11
 have x011 := x010.trans x11
 generalize hcc : (if other = true then c0 else ownM p c0) = c at *
 have hcl : c.spans.length < 100 ∧ c.writes.length < 100 := by
  subst hcc
  split
  ·exact hc0
  ·exact hc0
 try simp (maxSteps:=1000000) (disch:=first|exact Lb rfl|omega) only [AXS,AXB,J.dst,reduceIte,Z1,Z2,Z3,Z4,Z5]
 refine wL_stN rfl rfl rfl B5 (by rw [eCm_len]; decide) (eCm_one cv') ?_
 rintro h12 u12 (B5 : Blk _ _ _ (eCm cv'))
 replace B4 := u12.blk B4 (by omega)
 replace B7 := u12.blk B7 (by omega)
 have y1 := x1.size
 have y11 := x011.size
 have y12 := u12.size
 have x012 := u12.ext x011 (by omega)
 have C12 := C11.at_ (h' := h12) fun b hb => u12.ne b (by have hb' : b < h.size := hb; omega)
 have S12 := S.ext x012
 have w4 := B4.lt
 have w5 := B5.lt
 have w7 := B7.lt
 (try simp (maxSteps:=1000000) (disch:=first|exact Lb rfl|omega) only [AXS,AXB,J.dst,reduceIte,Z1,Z2,Z3,Z4,Z5]); rw [f15c14_eq]; (try simp (maxSteps:=1000000) (disch:=first|exact Lb rfl|omega) only [AXS,AXB,J.dst,reduceIte,Z1,Z2,Z3,Z4,Z5,f15r10,B4.rd,ePr,B5.rd,eCm])
 refine apply_ok (n := 100) pv p cv' c _ S12 C12 g.sz (by omega) (by omega) g.e0 ?_
 intro pa ra h13 P13 K13 x13
 refine ⟨trivial,?_⟩
 replace B4 := B4.ext x13; replace B5 := B5.ext x13; replace B7 := B7.ext x13
 try simp (maxSteps:=1000000) (disch:=first|exact Lb rfl|omega) only [AXS,AXB,J.dst,reduceIte,Z1,Z2,Z3,Z4,Z5]
 refine wL_newN ?_; rintro b9 h14 x14 s14 hb9 B9
 replace B4 := B4.ext x14; replace B5 := B5.ext x14; replace B7 := B7.ext x14
 try simp (maxSteps:=1000000) (disch:=first|exact Lb rfl|omega) only [AXS,AXB,J.dst,reduceIte,Z1,Z2,Z3,Z4,Z5]
 refine wL_newN ?_; rintro b10 h15 x15 s15 hb10 B10
 replace B4 := B4.ext x15; replace B5 := B5.ext x15; replace B7 := B7.ext x15; replace B9 := B9.ext x15
 try simp (maxSteps:=1000000) (disch:=first|exact Lb rfl|omega) only [AXS,AXB,J.dst,reduceIte,Z1,Z2,Z3,Z4,Z5]
 refine wL_stN rfl rfl rfl B9 (by decide) (ePr_one pa) ?_
 rintro h16 u16 (B9 : Blk _ _ _ (ePr pa))
 try simp (maxSteps:=1000000) (disch:=first|exact Lb rfl|omega) only [AXS,AXB,J.dst,reduceIte,Z1,Z2,Z3,Z4,Z5]
 refine wL_stN rfl rfl rfl (u16.blk B10 (by omega)) (by decide) (eRp_one ra) ?_
 rintro h17 u17 (B10 : Blk _ _ _ (eRp ra))
 have y13 := x13.size
 have y16 := u16.size
 have y17 := u17.size
 have x1317 := u17.ext (u16.ext (x14.trans x15) (by omega)) (by omega)
 replace B9 := u17.blk B9 (by omega)
 replace B4 := u17.blk (u16.blk B4 (by omega)) (by omega)
 replace B5 := u17.blk (u16.blk B5 (by omega)) (by omega)
 replace B7 := u17.blk (u16.blk B7 (by omega)) (by omega)
 have x1217 := x13.trans x1317
 have x017 := x012.trans x1217
 have PA := P13.prr.ext x1317
 have KA := (SlF.of_own K13.pairs K13.pn).ext x1317
 (try simp (maxSteps:=1000000) (disch:=first|exact Lb rfl|omega) only [AXS,AXB,J.dst,reduceIte,Z1,Z2,Z3,Z4,Z5]); rw [f15c15_eq]; (try simp (maxSteps:=1000000) (disch:=first|exact Lb rfl|omega) only [AXS,AXB,J.dst,reduceIte,Z1,Z2,Z3,Z4,Z5,f15r11,B4.rd,ePr,B5.rd,eCm])
 refine rapply_ok (n := 100) pv p cv' c _ (S12.ext x1217) (C12.ext x1217) g (by omega) (by omega) ?_
 intro pb rb h18 P18 K18 x18
 refine ⟨trivial,?_⟩
 replace B4 := B4.ext x18; replace B7 := B7.ext x18; replace B9 := B9.ext x18; replace B10 := B10.ext x18
 try simp (maxSteps:=1000000) (disch:=first|exact Lb rfl|omega) only [AXS,AXB,J.dst,reduceIte,Z1,Z2,Z3,Z4,Z5]
 refine wL_newN ?_; rintro b11 h19 x19 s19 hb11 B11
 replace B4 := B4.ext x19; replace B7 := B7.ext x19; replace B9 := B9.ext x19; replace B10 := B10.ext x19
 try simp (maxSteps:=1000000) (disch:=first|exact Lb rfl|omega) only [AXS,AXB,J.dst,reduceIte,Z1,Z2,Z3,Z4,Z5]
 refine wL_newN ?_; rintro b12 h20 x20 s20 hb12 B12
 replace B4 := B4.ext x20; replace B7 := B7.ext x20; replace B9 := B9.ext x20; replace B10 := B10.ext x20; replace B11 := B11.ext x20
 try simp (maxSteps:=1000000) (disch:=first|exact Lb rfl|omega) only [AXS,AXB,J.dst,reduceIte,Z1,Z2,Z3,Z4,Z5]
 refine wL_stN rfl rfl rfl B11 (by decide) (ePr_one pb) ?_
 rintro h21 u21 (B11 : Blk _ _ _ (ePr pb))
 try simp (maxSteps:=1000000) (disch:=first|exact Lb rfl|omega) only [AXS,AXB,J.dst,reduceIte,Z1,Z2,Z3,Z4,Z5]
 refine wL_stN rfl rfl rfl (u21.blk B12 (by omega)) (by decide) (eRp_one rb) ?_
 rintro h22 u22 (B12 : Blk _ _ _ (eRp rb))
 have y18 := x18.size
 have y21 := u21.size
 have y22 := u22.size
 have v9 := B9.lt
 have v10 := B10.lt
 have x1822 := u22.ext (u21.ext (x19.trans x20) (by omega)) (by omega)
 replace B11 := u22.blk B11 (by omega)
 replace B4 := u22.blk (u21.blk B4 (by omega)) (by omega)
 replace B7 := u22.blk (u21.blk B7 (by omega)) (by omega)
 replace B9 := u22.blk (u21.blk B9 (by omega)) (by omega)
 replace B10 := u22.blk (u21.blk B10 (by omega)) (by omega)
 have x1722 := x18.trans x1822
 have x022 := x017.trans x1722
 have PB := P18.prr.ext x1822
 have KB := (SlF.of_own K18.pairs K18.pn).ext x1822
 have gq := applyG (c := c) g hcl
 have hrp : (applyP p c).2.pairs.length ≤ maxLen := by
  have h1 := K13.pairs.room
  have h2 := K13.pn
  omega
 generalize hq : (applyP p c).1 = q at *
 generalize hr : (applyP p c).2 = r at *
 (try simp (maxSteps:=1000000) (disch:=first|exact Lb rfl|omega) only [AXS,AXB,J.dst,reduceIte,Z1,Z2,Z3,Z4,Z5]); rw [f15c16_eq]; (try simp (maxSteps:=1000000) (disch:=first|exact Lb rfl|omega) only [AXS,AXB,J.dst,reduceIte,Z1,Z2,Z3,Z4,Z5,f15r12,B4.cel,ePr,S.rn,B7.rd,eTry])
 refine findO_ok p.records by_ _ (S.ext x022).records (by unfold maxLen; omega) ?_
 intro h23 x23
 refine ⟨trivial,?_⟩
 replace B4 := B4.ext x23; replace B7 := B7.ext x23; replace B9 := B9.ext x23; replace B10 := B10.ext x23; replace B11 := B11.ext x23; replace B12 := B12.ext x23
 try simp (maxSteps:=1000000) (disch:=first|exact Lb rfl|omega) only [AXS,AXB,J.dst,reduceIte,Z1,Z2,Z3,Z4,Z5]
 refine wL_newN ?_; rintro b13 h24 x24 s24 hb13 B13
 replace B4 := B4.ext x24; replace B7 := B7.ext x24; replace B9 := B9.ext x24; replace B10 := B10.ext x24; replace B11 := B11.ext x24; replace B12 := B12.ext x24
 try simp (maxSteps:=1000000) (disch:=first|exact Lb rfl|omega) only [AXS,AXB,J.dst,reduceIte,Z1,Z2,Z3,Z4,Z5]
 refine wL_stN rfl rfl rfl B13 (by decide) (eOut_one _) ?_
 rintro h25 u25 (B13 : Blk _ _ _ (eOut ((findO p.records by_).getD noOut)))
 have y23 := x23.size
 have y24 := x24.size
 have y25 := u25.size
 have t11 := B11.lt
 have t12 := B12.lt
 have x2225 := x23.trans (u25.ext x24 (by omega))
 replace B4 := u25.blk B4 (by omega)
 replace B7 := u25.blk B7 (by omega)
 replace B9 := u25.blk B9 (by omega)
 replace B10 := u25.blk B10 (by omega)
 replace B11 := u25.blk B11 (by omega)
 replace B12 := u25.blk B12 (by omega)
 have x025 := x022.trans x2225
 try simp (maxSteps:=1000000) (disch:=first|exact Lb rfl|omega) only [AXS,AXB,J.dst,reduceIte,Z1,Z2,Z3,Z4,Z5]
 (try simp (maxSteps:=1000000) (disch:=first|exact Lb rfl|omega) only [AXS,AXB,J.dst,reduceIte,Z1,Z2,Z3,Z4,Z5]); rw [f15c17_eq]; (try simp (maxSteps:=1000000) (disch:=first|exact Lb rfl|omega) only [AXS,AXB,J.dst,reduceIte,Z1,Z2,Z3,Z4,Z5,f15r13,B4.cel,ePr,S.rn,B7.rd,eTry])
 refine rfindO_ok p.records by_ _ (S.ext x025).records (by unfold maxLen; omega) ?_
 intro h26 x26
 refine ⟨trivial,?_⟩
 replace B9 := B9.ext x26; replace B10 := B10.ext x26; replace B11 := B11.ext x26; replace B12 := B12.ext x26; replace B13 := B13.ext x26
 try simp (maxSteps:=1000000) (disch:=first|exact Lb rfl|omega) only [AXS,AXB,J.dst,reduceIte,Z1,Z2,Z3,Z4,Z5]
 refine wL_newN ?_; rintro b15 h27 x27 s27 hb15 B15
 replace B9 := B9.ext x27; replace B10 := B10.ext x27; replace B11 := B11.ext x27; replace B12 := B12.ext x27; replace B13 := B13.ext x27
 try simp (maxSteps:=1000000) (disch:=first|exact Lb rfl|omega) only [AXS,AXB,J.dst,reduceIte,Z1,Z2,Z3,Z4,Z5]
 refine wL_stN rfl rfl rfl B15 (by decide) (eOut_one _) ?_
 rintro h28 u28 (B15 : Blk _ _ _ (eOut ((findO p.records by_).getD noOut)))
 have y26 := x26.size
 have y27 := x27.size
 have y28 := u28.size
 have t13 := B13.lt
 have x2528 := x26.trans (u28.ext x27 (by omega))
 replace B9 := u28.blk B9 (by omega)
 replace B10 := u28.blk B10 (by omega)
 replace B11 := u28.blk B11 (by omega)
 replace B12 := u28.blk B12 (by omega)
 replace B13 := u28.blk B13 (by omega)
 have x028 := x025.trans x2528
 have x2228 := x2225.trans x2528
 try simp (maxSteps:=1000000) (disch:=first|exact Lb rfl|omega) only [AXS,AXB,J.dst,reduceIte,Z1,Z2,Z3,Z4,Z5]
 rw [f15c18_eq]
 simp (maxSteps:=1000000) (disch:=first|exact Lb rfl|omega) only [AXJ,AXS,AXB,J.dst,reduceIte,Z1,Z2,Z3,Z4,Z5,f15r14,B9.rd,B11.rd,ePr]
 refine samePrt_ok pa pb q _ ((PA.ext x1722).ext x2228) (PB.ext x2228) gq.sz (by omega) ?_
 intro h29 x29
 refine ⟨trivial,?_⟩
 replace B10 := B10.ext x29; replace B12 := B12.ext x29; replace B13 := B13.ext x29; replace B15 := B15.ext x29
 simp (maxSteps:=1000000) (disch:=first|exact Lb rfl|omega) only [AXJ,AXS,AXB,J.dst,reduceIte,Z1,Z2,Z3,Z4,Z5,↓br_TT,↓br_TF,↓br_FT,↓br_FF,B10.rd,B12.rd,eRp]
 refine sameRep_ok ra rb r _ K13.s K13.pn (((KA.ext x1722).ext x2228).ext x29) K18.s K18.pn ((KB.ext x2228).ext x29) hrp ?_
 intro h30 x30
 refine ⟨trivial,?_⟩
 replace B13 := B13.ext x30; replace B15 := B15.ext x30
 try simp (maxSteps:=1000000) (disch:=first|exact Lb rfl|omega) only [AXJ,AXS,AXB,J.dst,reduceIte,Z1,Z2,Z3,Z4,Z5,↓br_TT,↓br_TF,↓br_FT,↓br_FF]
 have t15 : rd h30 b13 (0 + 0) 7 = some (eOut ((findO p.records by_).getD noOut)) := B13.rd 0 7 (by rw [eOut_len]; omega)
 have t13' : rd h30 b13 0 7 = some (eOut ((findO p.records by_).getD noOut)) := B13.rd 0 7 (by rw [eOut_len]; omega)
 have t15' : rd h30 b15 0 7 = some (eOut ((findO p.records by_).getD noOut)) := B15.rd 0 7 (by rw [eOut_len]; omega)
 simp (maxSteps:=1000000) (disch:=first|exact Lb rfl|omega) only [AXJ,AXS,AXB,J.dst,reduceIte,Z1,Z2,Z3,Z4,Z5,↓br_TT,↓br_TF,↓br_FT,↓br_FF,f15r14a,t13',t15',eqA_outE2]
 simp (maxSteps:=1000000) (disch:=first|exact Lb rfl|omega) only [AXJ,AXS,AXB,J.dst,reduceIte,Z1,Z2,Z3,Z4,Z5,↓br_TT,↓br_TF,↓br_FT,↓br_FF,f15r14b]
 try simp (maxSteps:=1000000) (disch:=first|exact Lb rfl|omega) only [AXJ,AXS,AXB,J.dst,reduceIte,Z1,Z2,Z3,Z4,Z5,f15r14c]
 exact hR _ ((x028.trans x29).trans x30)
end Go.Proofs.Ytefghfgmkndikaa
