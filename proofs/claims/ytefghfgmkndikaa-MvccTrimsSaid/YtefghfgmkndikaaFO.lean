/-
  Arguments opened to data, and a law's row out of what its function returns.
-/
import Derived.Test.YtefghfgmkndikaaFK
import Derived.Test.YtefghfgmkndikaaRows
import Derived.ProofKit
import Derived.Deep.Slices
import Derived.ChangeArms
import Derived.DataReads
set_option linter.unusedSimpArgs false
set_option linter.unusedVariables false
namespace Go.AX
open Go Go.ChangeShapes Go.WideShapes Go.RowKit Go.Deep

/-- A value of a kind, as a datum reads. -/
def kdV : Kd → Value → Prop
  | .i k, v => ∃ n, v = .int k n ∧ (Lit.int k n).wf = true
  | .b, v => ∃ b, v = .bool b
  | .s, v => ∃ s : ByteArray, v = .string s ∧ s.size ≤ maxLen

theorem all2_nil {α β : Type} {R : α → β → Prop} {m : List β} (h : All2 R [] m) : m = [] := by cases h; rfl
theorem all2_cons {α β : Type} {R : α → β → Prop} {a : α} {l : List α} {m : List β} (h : All2 R (a :: l) m) : ∃ b m', m = b :: m' ∧ R a b ∧ All2 R l m' := by
  cases h with
  | cons r t => exact ⟨_, _, rfl, r, t⟩

section
variable {H : Type} {enc : TypeId × Value → H} {P : Program} {w : World} {base : Nat} {spare : Nat → Bool} {held : Bool}

theorem flatFs_trod {ft : TypeId → Option (List Kd)} {n : Nat} {cs : List Value} (ih : ∀ t ks cs, ft t = some ks → ∀ x, DataW.trod enc P w base spare held n t cs = some x → All2 kdV ks cs) :
    ∀ (fs : List Field) (o : Nat) (ks : List Kd), flatFs ft o fs = some ks → (∀ f ∈ fs, ∃ y, DataW.trod enc P w base spare held n f.type ((cs.drop f.offset).take (P.cellsOf f.type)) = some y) →
      All2 kdV ks ((cs.drop o).take ks.length)
  | [], o, ks, h, _ => by
    simp only [flatFs, Option.some.injEq] at h; subst h
    simp only [List.length_nil, List.take_zero]; exact .nil
  | f :: fs, o, ks, h, hf => by
    unfold flatFs at h
    split at h
    · cases h
    · rename_i hno
      simp only [not_or, Decidable.not_not] at hno
      simp only [Option.bind_eq_some_iff] at h
      obtain ⟨a, ha, h⟩ := h
      split at h
      · cases h
      · simp only [Option.map_eq_some_iff] at h
        obtain ⟨r, hr, rfl⟩ := h
        obtain ⟨y, hy⟩ := hf f (by simp)
        rw [hno.2] at hy
        have h1 := ih f.type a _ ha y hy
        have hl := h1.length
        have h2 := flatFs_trod ih fs (o + a.length) r hr (fun g hg => hf g (by simp [hg]))
        have e1 : (cs.drop o).take (P.cellsOf f.type) = (cs.drop o).take a.length := by
          rw [hl, List.take_eq_take_iff]; simp
        rw [e1] at h1
        have : (cs.drop o).take (a ++ r).length = (cs.drop o).take a.length ++ (cs.drop (o + a.length)).take r.length := by
          rw [List.length_append, List.take_add, List.drop_drop]
        rw [this]
        exact h1.append h2

theorem flatT_trod : ∀ (d : Nat) (t : TypeId) (ks : List Kd) (cs : List Value) (fuel : Nat) (x : DataW H × List MemPlace), flatT P d t = some ks → DataW.trod enc P w base spare held fuel t cs = some x → All2 kdV ks cs
  | 0, _, _, _, _, _, h, _ => by cases h
  | d + 1, t, ks, cs, fuel, x, h, ht => by
    unfold flatT at h
    split at h
    · rename_i k hu
      cases h
      obtain ⟨n, rfl, _, hw⟩ := DataW.trod_int hu ht
      exact .cons ⟨n, rfl, hw⟩ .nil
    · rename_i hu
      cases h
      obtain ⟨b, rfl, _⟩ := DataW.trod_bool hu ht
      exact .cons ⟨b, rfl⟩ .nil
    · rename_i hu
      cases h
      obtain ⟨s, rfl, _, hs⟩ := DataW.trod_string hu ht
      exact .cons ⟨s, rfl, hs⟩ .nil
    · rename_i fs hu
      split at h
      · cases h
      · simp only [Option.bind_eq_some_iff] at h
        obtain ⟨ks', hks, h⟩ := h
        split at h
        · rename_i hsz
          cases h
          obtain ⟨xs, n, rfl, _, hl, hlen, hf⟩ := DataW.trod_struct hu ht
          have h2 := flatFs_trod (enc := enc) (P := P) (w := w) (base := base) (spare := spare) (held := held) (n := n) (cs := cs) (fun t ks cs ht x hx => flatT_trod d t ks cs n x ht hx) fs.toList 0 ks hks (by
            intro f hf'
            obtain ⟨i, hi, rfl⟩ := List.mem_iff_getElem.1 hf'
            have hi' : i < fs.size := by simpa using hi
            have := hf i fs[i] (Array.getElem?_eq_getElem hi')
            rw [List.getElem?_eq_getElem (by omega)] at this
            exact ⟨_, by simpa using this⟩)
          have hc : P.cellsOf t = ks.length := by
            unfold sizeT at hsz
            simp [Program.cellsOf, hsz]
          rw [List.drop_zero, ← hc, ← hl, List.take_length] at h2
          exact h2
        · cases h
    · cases h

/-- A slice of data without memory behind it. -/
theorem open_flat {α : Type} {e : α → List Value} {d s : Nat} {t te : TypeId} {ks : List Kd} {fuel : Nat} {cs : List Value} {x : DataW H × List MemPlace} (ht : P.underlying t = some (.slice te)) (hk : flatT P d te = some ks) (hs : P.cellsOf te = s) (hpos : 0 < s)
    (he : ∀ cs, All2 kdV ks cs → ∃ a, cs = e a) (hel : ∀ a, (e a).length = s) (h : DataW.trod enc P w 0 (fun _ => true) true fuel t cs = some x) :
    ∃ a n c ds, cs = [.slice a n c] ∧ ds.length = n ∧ n ≤ c ∧ c ≤ maxLen ∧ SlF (fun b => b < w.heap.size) w.heap e a ds := by
  rcases open_slice ht h with ⟨rfl, _⟩ | ⟨a, len, cap, m, n, D, Pl, rfl, hb, hl, hm, hmm, hx, hi⟩
  · exact ⟨none, 0, 0, [], rfl, rfl, Nat.le_refl _, Nat.zero_le _, SlF.nil⟩
  · have hm' : m = cap := by rw [hmm]; rfl
    have hget : ∀ i, i < len → ∃ d, w.cells? 0 (a.add (i * s)) s = some (e d) := by
      intro i hil
      obtain ⟨cs', hc, htr⟩ := hi i (by omega)
      obtain ⟨d', hd'⟩ := he cs' (flatT_trod _ _ _ _ _ _ hk htr)
      rw [hs, hd'] at hc
      exact ⟨d', hc⟩
    have hds : ∀ k, k ≤ len → ∃ ds : List α, ds.length = k ∧ ∀ i d, ds[i]? = some d → w.cells? 0 (a.add (i * s)) s = some (e d) := by
      intro k
      induction k with
      | zero => intro _; exact ⟨[], rfl, fun i d h => by simp at h⟩
      | succ k ih =>
        intro hk
        obtain ⟨ds, h1, h2⟩ := ih (by omega)
        obtain ⟨d', hd'⟩ := hget k (by omega)
        refine ⟨ds ++ [d'], by simp [h1], fun i d hid => ?_⟩
        rcases Nat.lt_or_ge i ds.length with hlt | hge
        · rw [List.getElem?_append_left hlt] at hid
          exact h2 i d hid
        · rw [List.getElem?_append_right hge] at hid
          have : i - ds.length = 0 := by
            have := (List.getElem?_eq_some_iff.1 hid).1
            simp at this; omega
          rw [this] at hid
          simp at hid; subst hid
          rw [show i = k by omega]; exact hd'
    obtain ⟨ds, h1, h2⟩ := hds len (Nat.le_refl _)
    refine ⟨some a, len, cap, ds, rfl, h1, hl, hm, ?_⟩
    intro hne
    -- the address
    have hcell : ∀ i d j, ds[i]? = some d → j < s → w.cell? ((a.add (i * s)).add j) = (e d)[j]? := fun i d j hid hj => (World.cells?_some (h2 i d hid)).2.2 j hj
    obtain ⟨d0, hd0⟩ : ∃ d0, ds[0]? = some d0 := by
      cases ds with
      | nil => exact absurd rfl hne
      | cons d ds => exact ⟨d, rfl⟩
    have h00 := hcell 0 d0 0 hd0 hpos
    rw [Nat.zero_mul] at h00
    have ea : (a.add 0).add 0 = a := rfl
    rw [ea, List.getElem?_eq_getElem (by rw [hel]; exact hpos)] at h00
    obtain ⟨b, o, spot⟩ := a
    have hsp : spot = none := by
      cases spot with
      | none => rfl
      | some k =>
        unfold World.cell? at h00
        split at h00
        · simp at h00
        · cases h00
    subst hsp
    have hbl : b < w.heap.size := by
      rw [cel_cell] at h00
      exact cel_lt h00
    refine ⟨b, o, rfl, hbl, ?_⟩
    have key : ∀ k, k ≤ ds.length → Row w.heap b o ((ds.take k).flatMap e) := by
      intro k
      induction k with
      | zero => intro _; simp only [List.take_zero, List.flatMap_nil]; exact Row.nil _ _ _
      | succ k ih =>
        intro hk
        obtain ⟨d', hd'⟩ := List.getElem?_eq_some_iff.2 ⟨show k < ds.length by omega, rfl⟩ |> fun h => (⟨_, h⟩ : ∃ d, ds[k]? = some d)
        rw [List.take_add_one, hd', Option.toList_some, List.flatMap_append, List.flatMap_singleton]
        refine (ih (by omega)).append ?_
        rw [flatMap_length hel, List.length_take, Nat.min_eq_left (by omega)]
        intro j hj
        rw [hel] at hj
        have := hcell k d' j hd' hj
        rw [add_mk, add_mk, cel_cell] at this
        exact this
    have := key ds.length (Nat.le_refl _)
    rwa [List.take_length] at this

def isStr (P : Program) (t : TypeId) : Bool := match P.underlying t with | some (.struct _) => true | _ => false
theorem isStr_spec {P : Program} {t : TypeId} (h : isStr P t = true) : ∃ fs, P.underlying t = some (.struct fs) := by
  unfold isStr at h
  split at h
  · exact ⟨_, by assumption⟩
  · cases h
/-- A struct by value without memory behind it. -/
theorem open_agg {α : Type} {e : α → List Value} {d base0 : Nat} {t : TypeId} {ks : List Kd} {v : Value} {dd : DataW H} {p : List MemPlace} {r : Reach} (ht0 : isStr P t = true) (hk : flatT P d t = some ks)
    (he : ∀ cs, All2 kdV ks cs → ∃ a, cs = e a) (hv : Value.okWide P w r base0 t v) (h : DataW.Trod enc P w base spare held t v dd p) : ∃ a, v = .agg (e a).toArray := by
  obtain ⟨fs, ht⟩ := isStr_spec ht0
  obtain ⟨cs, rfl, _⟩ := okWide_struct ht hv
  obtain ⟨fuel, hf⟩ := h
  obtain ⟨a, ha⟩ := he _ (flatT_trod _ _ _ _ _ _ hk hf)
  refine ⟨a, ?_⟩
  congr 1
  apply Array.ext'
  simpa [cells_agg] using ha
end

/-! ### The row -/
theorem TrodAll.below {H : Type} {enc : TypeId × Value → H} {P : Program} (hl : laidOutB P = true) {W W' : World} (hb : Below W.heap.size W W') : ∀ {ts : List TypeId} {vs : List Value} {ds : List (DataW H)} {ps : List MemPlace},
    (ts.all fun t => P.readableRec t && decide (t < P.types.size)) = true → DataW.TrodAll enc P W 0 (fun _ => true) true ts vs ds ps → (∀ x ∈ ps, x.block < W.heap.size) → DataW.TrodAll enc P W' 0 (fun b => decide (b < W.heap.size)) true ts vs ds ps
  | [], vs, ds, ps, _, h, _ => by
    obtain ⟨rfl, rfl, rfl⟩ := trodAll_nil h
    exact trodAll_mk0
  | t :: ts, vs, ds, ps, hr, h, hlt => by
    obtain ⟨v, vs', d, ds', p, q, rfl, rfl, rfl, h1, h2⟩ := trodAll_cons h
    simp only [List.all_cons, Bool.and_eq_true, decide_eq_true_eq] at hr
    exact ⟨p, q, Below.trod hl hr.1.1 hr.1.2 h1 hb (fun x hx => hlt x (by simp [hx])), TrodAll.below hl hb hr.2 h2 (fun x hx => hlt x (by simp [hx])), rfl⟩
theorem below_of {W W' : World} (s : Same W W') (e : Ext W.heap W'.heap) : Below W.heap.size W W' := ⟨s.os, s.tape, s.output, e.size, fun k hk => e.at_ k hk⟩
end Go.AX
namespace Go.Proofs.Ytefghfgmkndikaa
open Go Go.AX Go.ChangeShapes Go.WideShapes Go.ChangeAt Go.RowKit

theorem tryOwn : ownKnob Try.prog.godebug = none := by kernel_rfl
theorem tryLaid : laidOutB Try.prog = true := by kernel_rfl

theorem trodLen {H : Type} {enc : TypeId × Value → H} {P : Program} {w : World} {base : Nat} {spare : Nat → Bool} {held : Bool} : ∀ {ts : List TypeId} {vs : List Value} {ds : List (DataW H)} {ps : List MemPlace}, DataW.TrodAll enc P w base spare held ts vs ds ps → vs.length = ts.length ∧ ds.length = ts.length
  | [], _, _, _, h => by
    obtain ⟨rfl, rfl, _⟩ := trodAll_nil h
    exact ⟨rfl, rfl⟩
  | _ :: _, _, _, _, h => by
    obtain ⟨v, vs', d, ds', p, q, rfl, rfl, rfl, _, h2⟩ := trodAll_cons h
    have := trodLen h2
    simp [this.1, this.2]
set_option maxRecDepth 100000 in
/-- What a law's function must do, for its row. -/
theorem law_lift {f : FuncId} {fn : Func} {s : ChangeSpec} {ts : List TypeId} {tb : TypeId} (hfn : Try.prog.funcs[f]? = some fn) (hts : fn.params.toList = ts) (hres : fn.resultTypes = #[tb]) (htb : Try.prog.underlying tb = some .bool) (hvars : s.vars = [])
    (hspec : ∀ (H : Type) (ds : List (DataW H)), ds.length = ts.length → s.fn H ds = { results := [.lit (.bool true)], args := ds, vars := [] }) (hread : (ts.all fun t => Try.prog.readableRec t && decide (t < Try.prog.types.size)) = true) (noInit : Try.prog.inits.idxOf? f = none)
    (os : Os) (started : os.Started) (H : Type) (enc : TypeId × Value → H)
    (witness : ∃ (w : World) (tape : Tape) (i : Input), w.os = os ∧ (w.forCall tape i).Shaped Try.checked.prog ∧ i.vars = [] ∧ Input.okWide Try.checked.prog (w.forCall tape i) .any w.heap.size f i ∧
      s.pre6 enc Try.checked.prog fn [] false (w.forCall tape i).memory i.args ∧ ({} : Assume).holds Try.checked.prog (lone (Frame.enter Try.checked.prog f i.args .normal) [] (w.forCall tape i)))
    (walk : ∀ (W : World) (base : Nat) (vs : List Value) (ds : List (DataW H)) (p : List MemPlace), (∀ (j : Nat) t v, ts[j]? = some t → vs[j]? = some v → Value.okWide Try.prog W .any base t v) → DataW.TrodAll enc Try.prog W 0 (fun _ => true) true ts vs ds p →
      CallsH Try.prog f vs W.heap fun v h' => v = .bool true ∧ Ext W.heap h') :
    ReturnsInHanded {} Try.checked os f .any (s.pre6 enc Try.prog fn [] false) (s.post enc Try.prog fn false true false false) := by
  refine returnsInHanded_of_change (C := Try.checked) tryOwn started noInit hfn witness ?_
  intro W base args ds gs before hval0 hW hcnd _
  have hW' := hW
  obtain ⟨p, q, hA0, hV, rfl, hfz, hnd⟩ := hW
  have hA : DataW.TrodAll enc Try.prog W 0 (fun _ => true) true fn.params.toList args.toList ds p := hA0
  rw [hts] at hA
  have hV' : DataW.TrodVars enc Try.prog W (fun _ => true) s.vars gs q := hV
  rw [hvars] at hV'
  obtain ⟨rfl, rfl⟩ := trodVars_none hV'
  have hval : ∀ (j : Nat) t v, ts[j]? = some t → args.toList[j]? = some v → Value.okWide Try.prog W .any base t v := fun j t v h1 h2 => by
    refine hval0 j t v ?_ (by simpa using h2)
    rw [← hts] at h1; simpa using h1
  have hlen : ds.length = ts.length := (trodLen hA).2
  have hcall := walk W base args.toList ds p hval hA W rfl
  rw [Array.toArray_toList] at hcall
  refine hcall.mono fun e W' ⟨v, he, ⟨hv, hx⟩, hsame⟩ => ?_
  subst he; subst hv
  have hb := below_of hsame hx
  refine ⟨_, rfl, ds, [], p ++ [], [], p, [], hW', ?_, ?_, ?_, hb.frame _, fun h => by cases h⟩
  · rw [List.append_nil, hspec H ds hlen, hres]
    exact trodAll_mk1 (shut_bool htb true)
  · rw [List.append_nil, hspec H ds hlen, hts]
    exact TrodAll.below tryLaid hb hread hA (fun x hx => by simpa using hW'.lt x (by simpa using hx))
  · rw [hvars, List.append_nil, hspec H ds hlen]
    rfl
end Go.Proofs.Ytefghfgmkndikaa
