/-
  Arguments opened to data, and a law's row out of what its function returns.
-/
import Derived.Test.YtefghfgmkndikaaM2
import Derived.Test.YtefghfgmkndikaaRows
import Derived.ProofKit
import Derived.Deep.Slices
import Derived.ChangeArms
import Derived.DataReads
import Derived.Test.YtefghfgmkndikaaM7
set_option linter.unusedSimpArgs false
set_option linter.unusedVariables false
namespace Go.AX
open Go Go.ChangeShapes Go.WideShapes Go.RowKit Go.Deep

/-- A value of a kind, as a datum reads. -/
def kdV : Kd → Value → Prop
  | .i k, v => ∃ n, v = .int k n ∧ (Lit.int k n).wf = true
  | .b, v => ∃ b, v = .bool b
  | .s, v => ∃ s : ByteArray, v = .string s ∧ s.size ≤ maxLen

theorem all2_nil {α β : Type} {R : α → β → Prop} {m : List β} (h : All2 R [] m) : m = [] := by cases h; rfl
theorem all2_cons {α β : Type} {R : α → β → Prop} {a : α} {l : List α} {m : List β} (h : All2 R (a :: l) m) : ∃ b m', m = b :: m' ∧ R a b ∧ All2 R l m' := by
  cases h with
  | cons r t => exact ⟨_, _, rfl, r, t⟩

section
variable {H : Type} {enc : TypeId × Value → H} {P : Program} {w : World} {base : Nat} {spare : Nat → Bool} {held : Bool}

theorem flatFs_trod {ft : TypeId → Option (List Kd)} {n : Nat} {cs : List Value} (ih : ∀ t ks cs, ft t = some ks → ∀ x, DataW.trod enc P w base spare held n t cs = some x → All2 kdV ks cs) :
    ∀ (fs : List Field) (o : Nat) (ks : List Kd), flatFs ft o fs = some ks → (∀ f ∈ fs, ∃ y, DataW.trod enc P w base spare held n f.type ((cs.drop f.offset).take (P.cellsOf f.type)) = some y) →
      All2 kdV ks ((cs.drop o).take ks.length)
  | [], o, ks, h, _ => by
    simp only [flatFs, Option.some.injEq] at h; subst h
    simp only [List.length_nil, List.take_zero]; exact .nil
  | f :: fs, o, ks, h, hf => by
    unfold flatFs at h
    split at h
    · cases h
    · rename_i hno
      simp only [not_or, Decidable.not_not] at hno
      simp only [Option.bind_eq_some_iff] at h
      obtain ⟨a, ha, h⟩ := h
      split at h
      · cases h
      · simp only [Option.map_eq_some_iff] at h
        obtain ⟨r, hr, rfl⟩ := h
        obtain ⟨y, hy⟩ := hf f (by simp)
        rw [hno.2] at hy
        have h1 := ih f.type a _ ha y hy
        have hl := h1.length
        have h2 := flatFs_trod ih fs (o + a.length) r hr (fun g hg => hf g (by simp [hg]))
        have e1 : (cs.drop o).take (P.cellsOf f.type) = (cs.drop o).take a.length := by
          rw [hl, List.take_eq_take_iff]; simp
        rw [e1] at h1
        have : (cs.drop o).take (a ++ r).length = (cs.drop o).take a.length ++ (cs.drop (o + a.length)).take r.length := by
          rw [List.length_append, List.take_add, List.drop_drop]
        rw [this]
        exact h1.append h2

theorem flatT_trod : ∀ (d : Nat) (t : TypeId) (ks : List Kd) (cs : List Value) (fuel : Nat) (x : DataW H × List MemPlace), flatT P d t = some ks → DataW.trod enc P w base spare held fuel t cs = some x → All2 kdV ks cs
  | 0, _, _, _, _, _, h, _ => by cases h
  | d + 1, t, ks, cs, fuel, x, h, ht => by
    unfold flatT at h
    split at h
    · rename_i k hu
      cases h
      obtain ⟨n, rfl, _, hw⟩ := DataW.trod_int hu ht
      exact .cons ⟨n, rfl, hw⟩ .nil
    · rename_i hu
      cases h
      obtain ⟨b, rfl, _⟩ := DataW.trod_bool hu ht
      exact .cons ⟨b, rfl⟩ .nil
    · rename_i hu
      cases h
      obtain ⟨s, rfl, _, hs⟩ := DataW.trod_string hu ht
      exact .cons ⟨s, rfl, hs⟩ .nil
    · rename_i fs hu
      split at h
      · cases h
      · simp only [Option.bind_eq_some_iff] at h
        obtain ⟨ks', hks, h⟩ := h
        split at h
        · rename_i hsz
          cases h
          obtain ⟨xs, n, rfl, _, hl, hlen, hf⟩ := DataW.trod_struct hu ht
          have h2 := flatFs_trod (enc := enc) (P := P) (w := w) (base := base) (spare := spare) (held := held) (n := n) (cs := cs) (fun t ks cs ht x hx => flatT_trod d t ks cs n x ht hx) fs.toList 0 ks hks (by
            intro f hf'
            obtain ⟨i, hi, rfl⟩ := List.mem_iff_getElem.1 hf'
            have hi' : i < fs.size := by simpa using hi
            have := hf i fs[i] (Array.getElem?_eq_getElem hi')
            rw [List.getElem?_eq_getElem (by omega)] at this
            exact ⟨_, by simpa using this⟩)
          have hc : P.cellsOf t = ks.length := by
            unfold sizeT at hsz
            simp [Program.cellsOf, hsz]
          rw [List.drop_zero, ← hc, ← hl, List.take_length] at h2
          exact h2
        · cases h
    · cases h

/-- A slice of data without memory behind it. -/
theorem open_flat {α : Type} {e : α → List Value} {d s : Nat} {t te : TypeId} {ks : List Kd} {fuel : Nat} {cs : List Value} {x : DataW H × List MemPlace} (ht : P.underlying t = some (.slice te)) (hk : flatT P d te = some ks) (hs : P.cellsOf te = s) (hpos : 0 < s)
    (he : ∀ cs, All2 kdV ks cs → ∃ a, cs = e a) (hel : ∀ a, (e a).length = s) (h : DataW.trod enc P w 0 (fun _ => true) true fuel t cs = some x) :
    ∃ a n c ds, cs = [.slice a n c] ∧ ds.length = n ∧ n ≤ c ∧ c ≤ maxLen ∧ SlF (fun b => b < w.heap.size) w.heap e a ds := by
  rcases open_slice ht h with ⟨rfl, _⟩ | ⟨a, len, cap, m, n, D, Pl, rfl, hb, hl, hm, hmm, hx, hi⟩
  · exact ⟨none, 0, 0, [], rfl, rfl, Nat.le_refl _, Nat.zero_le _, SlF.nil⟩
  · have hm' : m = cap := by rw [hmm]; rfl
    have hget : ∀ i, i < len → ∃ d, w.cells? 0 (a.add (i * s)) s = some (e d) := by
      intro i hil
      obtain ⟨cs', hc, htr⟩ := hi i (by omega)
      obtain ⟨d', hd'⟩ := he cs' (flatT_trod _ _ _ _ _ _ hk htr)
      rw [hs, hd'] at hc
      exact ⟨d', hc⟩
    have hds : ∀ k, k ≤ len → ∃ ds : List α, ds.length = k ∧ ∀ i d, ds[i]? = some d → w.cells? 0 (a.add (i * s)) s = some (e d) := by
      intro k
      induction k with
      | zero => intro _; exact ⟨[], rfl, fun i d h => by simp at h⟩
      | succ k ih =>
        intro hk
        obtain ⟨ds, h1, h2⟩ := ih (by omega)
        obtain ⟨d', hd'⟩ := hget k (by omega)
        refine ⟨ds ++ [d'], by simp [h1], fun i d hid => ?_⟩
        rcases Nat.lt_or_ge i ds.length with hlt | hge
        · rw [List.getElem?_append_left hlt] at hid
          exact h2 i d hid
        · rw [List.getElem?_append_right hge] at hid
          have : i - ds.length = 0 := by
            have := (List.getElem?_eq_some_iff.1 hid).1
            simp at this; omega
          rw [this] at hid
          simp at hid; subst hid
          rw [show i = k by omega]; exact hd'
    obtain ⟨ds, h1, h2⟩ := hds len (Nat.le_refl _)
    refine ⟨some a, len, cap, ds, rfl, h1, hl, hm, ?_⟩
    intro hne
    -- the address
    have hcell : ∀ i d j, ds[i]? = some d → j < s → w.cell? ((a.add (i * s)).add j) = (e d)[j]? := fun i d j hid hj => (World.cells?_some (h2 i d hid)).2.2 j hj
    obtain ⟨d0, hd0⟩ : ∃ d0, ds[0]? = some d0 := by
      cases ds with
      | nil => exact absurd rfl hne
      | cons d ds => exact ⟨d, rfl⟩
    have h00 := hcell 0 d0 0 hd0 hpos
    rw [Nat.zero_mul] at h00
    have ea : (a.add 0).add 0 = a := rfl
    rw [ea, List.getElem?_eq_getElem (by rw [hel]; exact hpos)] at h00
    obtain ⟨b, o, spot⟩ := a
    have hsp : spot = none := by
      cases spot with
      | none => rfl
      | some k =>
        unfold World.cell? at h00
        split at h00
        · simp at h00
        · cases h00
    subst hsp
    have hbl : b < w.heap.size := by
      rw [cel_cell] at h00
      exact cel_lt h00
    refine ⟨b, o, rfl, hbl, ?_⟩
    have key : ∀ k, k ≤ ds.length → Row w.heap b o ((ds.take k).flatMap e) := by
      intro k
      induction k with
      | zero => intro _; simp only [List.take_zero, List.flatMap_nil]; exact Row.nil _ _ _
      | succ k ih =>
        intro hk
        obtain ⟨d', hd'⟩ := List.getElem?_eq_some_iff.2 ⟨show k < ds.length by omega, rfl⟩ |> fun h => (⟨_, h⟩ : ∃ d, ds[k]? = some d)
        rw [List.take_add_one, hd', Option.toList_some, List.flatMap_append, List.flatMap_singleton]
        refine (ih (by omega)).append ?_
        rw [flatMap_length hel, List.length_take, Nat.min_eq_left (by omega)]
        intro j hj
        rw [hel] at hj
        have := hcell k d' j hd' hj
        rw [add_mk, add_mk, cel_cell] at this
        exact this
    have := key ds.length (Nat.le_refl _)
    rwa [List.take_length] at this

def isStr (P : Program) (t : TypeId) : Bool := match P.underlying t with | some (.struct _) => true | _ => false
theorem isStr_spec {P : Program} {t : TypeId} (h : isStr P t = true) : ∃ fs, P.underlying t = some (.struct fs) := by
  unfold isStr at h
  split at h
  · exact ⟨_, by assumption⟩
  · cases h
/-- A struct by value without memory behind it. -/
theorem open_agg {α : Type} {e : α → List Value} {d base0 : Nat} {t : TypeId} {ks : List Kd} {v : Value} {dd : DataW H} {p : List MemPlace} {r : Reach} (ht0 : isStr P t = true) (hk : flatT P d t = some ks)
    (he : ∀ cs, All2 kdV ks cs → ∃ a, cs = e a) (hv : Value.okWide P w r base0 t v) (h : DataW.Trod enc P w base spare held t v dd p) : ∃ a, v = .agg (e a).toArray := by
  obtain ⟨fs, ht⟩ := isStr_spec ht0
  obtain ⟨cs, rfl, _⟩ := okWide_struct ht hv
  obtain ⟨fuel, hf⟩ := h
  obtain ⟨a, ha⟩ := he _ (flatT_trod _ _ _ _ _ _ hk hf)
  refine ⟨a, ?_⟩
  congr 1
  apply Array.ext'
  simpa [cells_agg] using ha
end

/-! ### The row -/
theorem TrodAll.below {H : Type} {enc : TypeId × Value → H} {P : Program} (hl : laidOutB P = true) {W W' : World} (hb : Below W.heap.size W W') : ∀ {ts : List TypeId} {vs : List Value} {ds : List (DataW H)} {ps : List MemPlace},
    (ts.all fun t => P.readableRec t && decide (t < P.types.size)) = true → DataW.TrodAll enc P W 0 (fun _ => true) true ts vs ds ps → (∀ x ∈ ps, x.block < W.heap.size) → DataW.TrodAll enc P W' 0 (fun b => decide (b < W.heap.size)) true ts vs ds ps
  | [], vs, ds, ps, _, h, _ => by
    obtain ⟨rfl, rfl, rfl⟩ := trodAll_nil h
    exact trodAll_mk0
  | t :: ts, vs, ds, ps, hr, h, hlt => by
    obtain ⟨v, vs', d, ds', p, q, rfl, rfl, rfl, h1, h2⟩ := trodAll_cons h
    simp only [List.all_cons, Bool.and_eq_true, decide_eq_true_eq] at hr
    exact ⟨p, q, Below.trod hl hr.1.1 hr.1.2 h1 hb (fun x hx => hlt x (by simp [hx])), TrodAll.below hl hb hr.2 h2 (fun x hx => hlt x (by simp [hx])), rfl⟩
theorem below_of {W W' : World} (s : Same W W') (e : Ext W.heap W'.heap) : Below W.heap.size W W' := ⟨s.os, s.tape, s.output, e.size, fun k hk => e.at_ k hk⟩
end Go.AX
namespace Go.Proofs.Ytefghfgmkndikaa
open Go Go.AX Go.ChangeShapes Go.WideShapes Go.ChangeAt Go.RowKit

theorem tryOwn : ownKnob Try.prog.godebug = none := by kernel_rfl
theorem tryLaid : laidOutB Try.prog = true := by kernel_rfl

theorem trodLen {H : Type} {enc : TypeId × Value → H} {P : Program} {w : World} {base : Nat} {spare : Nat → Bool} {held : Bool} : ∀ {ts : List TypeId} {vs : List Value} {ds : List (DataW H)} {ps : List MemPlace}, DataW.TrodAll enc P w base spare held ts vs ds ps → vs.length = ts.length ∧ ds.length = ts.length
  | [], _, _, _, h => by
    obtain ⟨rfl, rfl, _⟩ := trodAll_nil h
    exact ⟨rfl, rfl⟩
  | _ :: _, _, _, _, h => by
    obtain ⟨v, vs', d, ds', p, q, rfl, rfl, rfl, _, h2⟩ := trodAll_cons h
    have := trodLen h2
    simp [this.1, this.2]
set_option maxRecDepth 100000 in
/-- What a law's function must do, for its row. -/
theorem law_lift {f : FuncId} {fn : Func} {s : ChangeSpec} {ts : List TypeId} {tb : TypeId} (hfn : Try.prog.funcs[f]? = some fn) (hts : fn.params.toList = ts) (hres : fn.resultTypes = #[tb]) (htb : Try.prog.underlying tb = some .bool) (hvars : s.vars = [])
    (hspec : ∀ (H : Type) (ds : List (DataW H)), ds.length = ts.length → s.fn H ds = { results := [.lit (.bool true)], args := ds, vars := [] }) (hread : (ts.all fun t => Try.prog.readableRec t && decide (t < Try.prog.types.size)) = true) (noInit : Try.prog.inits.idxOf? f = none)
    (os : Os) (started : os.Started) (H : Type) (enc : TypeId × Value → H)
    (witness : ∃ (w : World) (tape : Tape) (i : Input), w.os = os ∧ (w.forCall tape i).Shaped Try.checked.prog ∧ i.vars = [] ∧ Input.okWide Try.checked.prog (w.forCall tape i) .any w.heap.size f i ∧
      s.pre6 enc Try.checked.prog fn [] false (w.forCall tape i).memory i.args ∧ ({} : Assume).holds Try.checked.prog (lone (Frame.enter Try.checked.prog f i.args .normal) [] (w.forCall tape i)))
    (walk : ∀ (W : World) (base : Nat) (vs : List Value) (ds : List (DataW H)) (p : List MemPlace), (∀ (j : Nat) t v, ts[j]? = some t → vs[j]? = some v → Value.okWide Try.prog W .any base t v) → DataW.TrodAll enc Try.prog W 0 (fun _ => true) true ts vs ds p →
      CallsH Try.prog f vs W.heap fun v h' => v = .bool true ∧ Ext W.heap h') :
    ReturnsInHanded {} Try.checked os f .any (s.pre6 enc Try.prog fn [] false) (s.post enc Try.prog fn false true false false) := by
  refine returnsInHanded_of_change (C := Try.checked) tryOwn started noInit hfn witness ?_
  intro W base args ds gs before hval0 hW hcnd _
  have hW' := hW
  obtain ⟨p, q, hA0, hV, rfl, hfz, hnd⟩ := hW
  have hA : DataW.TrodAll enc Try.prog W 0 (fun _ => true) true fn.params.toList args.toList ds p := hA0
  rw [hts] at hA
  have hV' : DataW.TrodVars enc Try.prog W (fun _ => true) s.vars gs q := hV
  rw [hvars] at hV'
  obtain ⟨rfl, rfl⟩ := trodVars_none hV'
  have hval : ∀ (j : Nat) t v, ts[j]? = some t → args.toList[j]? = some v → Value.okWide Try.prog W .any base t v := fun j t v h1 h2 => by
    refine hval0 j t v ?_ (by simpa using h2)
    rw [← hts] at h1; simpa using h1
  have hlen : ds.length = ts.length := (trodLen hA).2
  have hcall := walk W base args.toList ds p hval hA W rfl
  rw [Array.toArray_toList] at hcall
  refine hcall.mono fun e W' ⟨v, he, ⟨hv, hx⟩, hsame⟩ => ?_
  subst he; subst hv
  have hb := below_of hsame hx
  refine ⟨_, rfl, ds, [], p ++ [], [], p, [], hW', ?_, ?_, ?_, hb.frame _, fun h => by cases h⟩
  · rw [List.append_nil, hspec H ds hlen, hres]
    exact trodAll_mk1 (shut_bool htb true)
  · rw [List.append_nil, hspec H ds hlen, hts]
    exact TrodAll.below tryLaid hb hread hA (fun x hx => by simpa using hW'.lt x (by simpa using hx))
  · rw [hvars, List.append_nil, hspec H ds hlen]
    rfl
end Go.Proofs.Ytefghfgmkndikaa
/-
  Openings of structs without memory behind them. By a small program of mine (wip/tools/kds.py).
-/
namespace Go.Proofs.Ytefghfgmkndikaa
open Go Go.AX Go.ChangeShapes Go.WideShapes Go.RowKit Go.Deep
theorem kdStamp {cs : List Value} (h0 : All2 kdV [.i .i64, .i .i64] cs) : ∃ x : Stamp, cs = eStamp x := by
  obtain ⟨_, _, rfl, ⟨a0, rfl, _⟩, h1⟩ := all2_cons h0
  obtain ⟨_, _, rfl, ⟨a1, rfl, _⟩, h2⟩ := all2_cons h1
  have := all2_nil h2; subst this
  exact ⟨⟨a0, a1⟩, rfl⟩
theorem str39 : isStr Try.prog 39 = true := by kernel_rfl
theorem flat39 : flatT Try.prog 20 39 = some [.i .i64, .i .i64] := by kernel_rfl
theorem kdTry {cs : List Value} (h0 : All2 kdV [.i .i64, .i .i64, .i .i64, .i .i64] cs) : ∃ x : Try4, cs = eTry x := by
  obtain ⟨_, _, rfl, ⟨a0, rfl, _⟩, h1⟩ := all2_cons h0
  obtain ⟨_, _, rfl, ⟨a1, rfl, _⟩, h2⟩ := all2_cons h1
  obtain ⟨_, _, rfl, ⟨a2, rfl, _⟩, h3⟩ := all2_cons h2
  obtain ⟨_, _, rfl, ⟨a3, rfl, _⟩, h4⟩ := all2_cons h3
  have := all2_nil h4; subst this
  exact ⟨⟨a0, a1, a2, a3⟩, rfl⟩
theorem str37 : isStr Try.prog 37 = true := by kernel_rfl
theorem flat37 : flatT Try.prog 20 37 = some [.i .i64, .i .i64, .i .i64, .i .i64] := by kernel_rfl
theorem kdWri {cs : List Value} (h0 : All2 kdV [.s, .b, .s] cs) : ∃ x : Wri, cs = eWri x := by
  obtain ⟨_, _, rfl, ⟨a0, rfl, _⟩, h1⟩ := all2_cons h0
  obtain ⟨_, _, rfl, ⟨a1, rfl⟩, h2⟩ := all2_cons h1
  obtain ⟨_, _, rfl, ⟨a2, rfl, _⟩, h3⟩ := all2_cons h2
  have := all2_nil h3; subst this
  exact ⟨⟨a0, a1, a2⟩, rfl⟩
theorem str70 : isStr Try.prog 70 = true := by kernel_rfl
theorem flat70 : flatT Try.prog 20 70 = some [.s, .b, .s] := by kernel_rfl
theorem kdSpn {cs : List Value} (h0 : All2 kdV [.s, .s] cs) : ∃ x : Spn, cs = eSpn x := by
  obtain ⟨_, _, rfl, ⟨a0, rfl, _⟩, h1⟩ := all2_cons h0
  obtain ⟨_, _, rfl, ⟨a1, rfl, _⟩, h2⟩ := all2_cons h1
  have := all2_nil h2; subst this
  exact ⟨⟨a0, a1⟩, rfl⟩
theorem str94 : isStr Try.prog 94 = true := by kernel_rfl
theorem flat94 : flatT Try.prog 20 94 = some [.s, .s] := by kernel_rfl
theorem kdVer {cs : List Value} (h0 : All2 kdV [.i .i64, .i .i64, .b, .s] cs) : ∃ x : Ver, cs = eVer x := by
  obtain ⟨_, _, rfl, ⟨a0, rfl, _⟩, h1⟩ := all2_cons h0
  obtain ⟨_, _, rfl, ⟨a1, rfl, _⟩, h2⟩ := all2_cons h1
  obtain ⟨_, _, rfl, ⟨a2, rfl⟩, h3⟩ := all2_cons h2
  obtain ⟨_, _, rfl, ⟨a3, rfl, _⟩, h4⟩ := all2_cons h3
  have := all2_nil h4; subst this
  exact ⟨⟨⟨a0, a1⟩, a2, a3⟩, rfl⟩
theorem str108 : isStr Try.prog 108 = true := by kernel_rfl
theorem flat108 : flatT Try.prog 20 108 = some [.i .i64, .i .i64, .b, .s] := by kernel_rfl
theorem kdLck {cs : List Value} (h0 : All2 kdV [.i .i64, .i .i64, .i .i64, .i .i64, .i .i64, .i .i64, .i .i64, .b, .s] cs) : ∃ x : Lck, cs = eLck x := by
  obtain ⟨_, _, rfl, ⟨a0, rfl, _⟩, h1⟩ := all2_cons h0
  obtain ⟨_, _, rfl, ⟨a1, rfl, _⟩, h2⟩ := all2_cons h1
  obtain ⟨_, _, rfl, ⟨a2, rfl, _⟩, h3⟩ := all2_cons h2
  obtain ⟨_, _, rfl, ⟨a3, rfl, _⟩, h4⟩ := all2_cons h3
  obtain ⟨_, _, rfl, ⟨a4, rfl, _⟩, h5⟩ := all2_cons h4
  obtain ⟨_, _, rfl, ⟨a5, rfl, _⟩, h6⟩ := all2_cons h5
  obtain ⟨_, _, rfl, ⟨a6, rfl, _⟩, h7⟩ := all2_cons h6
  obtain ⟨_, _, rfl, ⟨a7, rfl⟩, h8⟩ := all2_cons h7
  obtain ⟨_, _, rfl, ⟨a8, rfl, _⟩, h9⟩ := all2_cons h8
  have := all2_nil h9; subst this
  exact ⟨⟨⟨a0, a1, a2, a3⟩, a4, ⟨a5, a6⟩, a7, a8⟩, rfl⟩
theorem str72 : isStr Try.prog 72 = true := by kernel_rfl
theorem flat72 : flatT Try.prog 20 72 = some [.i .i64, .i .i64, .i .i64, .i .i64, .i .i64, .i .i64, .i .i64, .b, .s] := by kernel_rfl
theorem kdOp8 {cs : List Value} (h0 : All2 kdV [.i .i64, .s, .b, .s, .i .i64, .i .i64, .i .i64, .i .i64, .i .i64, .i .i64, .i .i64, .b, .s, .b] cs) : ∃ x : Op8, cs = eOp8 x := by
  obtain ⟨_, _, rfl, ⟨a0, rfl, _⟩, h1⟩ := all2_cons h0
  obtain ⟨_, _, rfl, ⟨a1, rfl, _⟩, h2⟩ := all2_cons h1
  obtain ⟨_, _, rfl, ⟨a2, rfl⟩, h3⟩ := all2_cons h2
  obtain ⟨_, _, rfl, ⟨a3, rfl, _⟩, h4⟩ := all2_cons h3
  obtain ⟨_, _, rfl, ⟨a4, rfl, _⟩, h5⟩ := all2_cons h4
  obtain ⟨_, _, rfl, ⟨a5, rfl, _⟩, h6⟩ := all2_cons h5
  obtain ⟨_, _, rfl, ⟨a6, rfl, _⟩, h7⟩ := all2_cons h6
  obtain ⟨_, _, rfl, ⟨a7, rfl, _⟩, h8⟩ := all2_cons h7
  obtain ⟨_, _, rfl, ⟨a8, rfl, _⟩, h9⟩ := all2_cons h8
  obtain ⟨_, _, rfl, ⟨a9, rfl, _⟩, h10⟩ := all2_cons h9
  obtain ⟨_, _, rfl, ⟨a10, rfl, _⟩, h11⟩ := all2_cons h10
  obtain ⟨_, _, rfl, ⟨a11, rfl⟩, h12⟩ := all2_cons h11
  obtain ⟨_, _, rfl, ⟨a12, rfl, _⟩, h13⟩ := all2_cons h12
  obtain ⟨_, _, rfl, ⟨a13, rfl⟩, h14⟩ := all2_cons h13
  have := all2_nil h14; subst this
  exact ⟨⟨a0, ⟨a1, a2, a3⟩, ⟨⟨a4, a5, a6, a7⟩, a8, ⟨a9, a10⟩, a11, a12⟩, a13⟩, rfl⟩
theorem str78 : isStr Try.prog 78 = true := by kernel_rfl
theorem flat78 : flatT Try.prog 20 78 = some [.i .i64, .s, .b, .s, .i .i64, .i .i64, .i .i64, .i .i64, .i .i64, .i .i64, .i .i64, .b, .s, .b] := by kernel_rfl
section
variable {H : Type} {enc : TypeId × Value → H} {w : World} {base : Nat} {t : TypeId} {v : Value} {d : DataW H} {p : List MemPlace}
set_option maxRecDepth 100000 in
/-- A slice of flat structs as an argument. -/
theorem argFlat {α : Type} {e : α → List Value} {s te : TypeId} {ks : List Kd} (ht : Try.prog.underlying t = some (.slice te)) (hk : flatT Try.prog 20 te = some ks) (hs : Try.prog.cellsOf te = s) (hpos : 0 < s)
    (he : ∀ cs, All2 kdV ks cs → ∃ a, cs = e a) (hel : ∀ a, (e a).length = s) (hv : Value.okWide Try.prog w .any base t v) (h : DataW.Trod enc Try.prog w 0 (fun _ => true) true t v d p) :
    ∃ a c ds, v = .slice a ds.length c ∧ ds.length ≤ maxLen ∧ ds.length ≤ c ∧ SlF (fun b => b < w.heap.size) w.heap e a ds := by
  obtain ⟨a0, n0, c0, rfl⟩ := okWide_slice ht hv
  obtain ⟨fuel, hf⟩ := h
  obtain ⟨a, n, c, ds, hcs, hl, hnc, hc, S⟩ := open_flat ht hk hs hpos he hel hf
  have : a0 = a ∧ n0 = n ∧ c0 = c := by simpa [Value.cells] using hcs
  obtain ⟨rfl, rfl, rfl⟩ := this
  subst hl
  exact ⟨_, _, ds, rfl, Nat.le_trans hnc hc, hnc, S⟩
end
theorem und4 : Try.prog.underlying 4 = some .bool := by kernel_rfl
theorem und9 : Try.prog.underlying 9 = some .string := by kernel_rfl
theorem und3 : Try.prog.underlying 3 = some (.int .i64) := by kernel_rfl
theorem und2 : Try.prog.underlying 2 = some (.int .i64) := by kernel_rfl
theorem und68 : Try.prog.underlying 68 = some (.slice 78) := by kernel_rfl


end Go.Proofs.Ytefghfgmkndikaa
/-
  Openings of structs with slices in them, and of slices of such.
-/
namespace Go.AX
open Go Go.ChangeShapes Go.WideShapes Go.RowKit Go.Deep

/-- A struct's fields: their types and places. -/
def isStrF (P : Program) (t : TypeId) (l : List (TypeId × Nat)) : Bool := match P.underlying t with | some (.struct fs) => (fs.toList.map fun f => (f.type, f.offset)) == l | _ => false

section
variable {H : Type} {enc : TypeId × Value → H} {P : Program} {w : World} {base : Nat} {spare : Nat → Bool} {held : Bool}
theorem trod_fields {t : TypeId} {l : List (TypeId × Nat)} {fuel : Nat} {cs : List Value} {x : DataW H × List MemPlace} (hl : isStrF P t l = true) (h : DataW.trod enc P w base spare held fuel t cs = some x) :
    cs.length = P.cellsOf t ∧ ∀ p ∈ l, ∃ n y, DataW.trod enc P w base spare held n p.1 ((cs.drop p.2).take (P.cellsOf p.1)) = some y := by
  unfold isStrF at hl
  split at hl
  · rename_i fs hu
    have hl : (fs.toList.map fun f => (f.type, f.offset)) = l := eq_of_beq hl
    obtain ⟨xs, n, rfl, _, hlen, hxl, hf⟩ := DataW.trod_struct hu h
    refine ⟨hlen, ?_⟩
    rw [← hl]
    intro p hp
    obtain ⟨f, hfm, rfl⟩ := List.mem_map.1 hp
    obtain ⟨i, hi, rfl⟩ := List.mem_iff_getElem.1 hfm
    have hi' : i < fs.size := by simpa using hi
    have := hf i fs[i] (Array.getElem?_eq_getElem hi')
    rw [List.getElem?_eq_getElem (by omega)] at this
    exact ⟨n, _, by simpa using this⟩
  · cases hl

/-- A slice whose elements read as data with a property. -/
theorem open_rows {α : Type} {e : α → List Value} {Q : α → Prop} {s : Nat} {t te : TypeId} {fuel : Nat} {cs : List Value} {x : DataW H × List MemPlace} (ht : P.underlying t = some (.slice te)) (hs : P.cellsOf te = s) (hpos : 0 < s)
    (he : ∀ n cs y, DataW.trod enc P w 0 (fun _ => true) true n te cs = some y → ∃ a, cs = e a ∧ Q a) (hel : ∀ a, (e a).length = s) (h : DataW.trod enc P w 0 (fun _ => true) true fuel t cs = some x) :
    ∃ a n c ds, cs = [.slice a n c] ∧ ds.length = n ∧ n ≤ c ∧ c ≤ maxLen ∧ SlF (fun b => b < w.heap.size) w.heap e a ds ∧ ∀ d ∈ ds, Q d := by
  rcases open_slice ht h with ⟨rfl, _⟩ | ⟨a, len, cap, m, n, D, Pl, rfl, hb, hl, hm, hmm, hx, hi⟩
  · exact ⟨none, 0, 0, [], rfl, rfl, Nat.le_refl _, Nat.zero_le _, SlF.nil, by simp⟩
  · have hm' : m = cap := by rw [hmm]; rfl
    have hget : ∀ i, i < len → ∃ d, w.cells? 0 (a.add (i * s)) s = some (e d) ∧ Q d := by
      intro i hil
      obtain ⟨cs', hc, htr⟩ := hi i (by omega)
      obtain ⟨d', hd', hq⟩ := he _ _ _ htr
      rw [hs, hd'] at hc
      exact ⟨d', hc, hq⟩
    have hds : ∀ k, k ≤ len → ∃ ds : List α, ds.length = k ∧ ∀ i d, ds[i]? = some d → w.cells? 0 (a.add (i * s)) s = some (e d) ∧ Q d := by
      intro k
      induction k with
      | zero => intro _; exact ⟨[], rfl, fun i d h => by simp at h⟩
      | succ k ih =>
        intro hk
        obtain ⟨ds, h1, h2⟩ := ih (by omega)
        obtain ⟨d', hd'⟩ := hget k (by omega)
        refine ⟨ds ++ [d'], by simp [h1], fun i d hid => ?_⟩
        rcases Nat.lt_or_ge i ds.length with hlt | hge
        · rw [List.getElem?_append_left hlt] at hid
          exact h2 i d hid
        · rw [List.getElem?_append_right hge] at hid
          have : i - ds.length = 0 := by
            have := (List.getElem?_eq_some_iff.1 hid).1
            simp at this; omega
          rw [this] at hid
          simp at hid; subst hid
          rw [show i = k by omega]; exact hd'
    obtain ⟨ds, h1, h2⟩ := hds len (Nat.le_refl _)
    have hQ : ∀ d ∈ ds, Q d := by
      intro d hd
      obtain ⟨i, hi, rfl⟩ := List.mem_iff_getElem.1 hd
      exact (h2 i _ (List.getElem?_eq_getElem hi)).2
    refine ⟨some a, len, cap, ds, rfl, h1, hl, hm, ?_, hQ⟩
    intro hne
    have hcell : ∀ i d j, ds[i]? = some d → j < s → w.cell? ((a.add (i * s)).add j) = (e d)[j]? := fun i d j hid hj => (World.cells?_some (h2 i d hid).1).2.2 j hj
    obtain ⟨d0, hd0⟩ : ∃ d0, ds[0]? = some d0 := by
      cases ds with
      | nil => exact absurd rfl hne
      | cons d ds => exact ⟨d, rfl⟩
    have h00 := hcell 0 d0 0 hd0 hpos
    rw [Nat.zero_mul] at h00
    have ea : (a.add 0).add 0 = a := rfl
    rw [ea, List.getElem?_eq_getElem (by rw [hel]; exact hpos)] at h00
    obtain ⟨b, o, spot⟩ := a
    have hsp : spot = none := by
      cases spot with
      | none => rfl
      | some k =>
        unfold World.cell? at h00
        split at h00
        · simp at h00
        · cases h00
    subst hsp
    have hbl : b < w.heap.size := by
      rw [cel_cell] at h00
      exact cel_lt h00
    refine ⟨b, o, rfl, hbl, ?_⟩
    have key : ∀ k, k ≤ ds.length → Row w.heap b o ((ds.take k).flatMap e) := by
      intro k
      induction k with
      | zero => intro _; simp only [List.take_zero, List.flatMap_nil]; exact Row.nil _ _ _
      | succ k ih =>
        intro hk
        obtain ⟨d', hd'⟩ := List.getElem?_eq_some_iff.2 ⟨show k < ds.length by omega, rfl⟩ |> fun h => (⟨_, h⟩ : ∃ d, ds[k]? = some d)
        rw [List.take_add_one, hd', Option.toList_some, List.flatMap_append, List.flatMap_singleton]
        refine (ih (by omega)).append ?_
        rw [flatMap_length hel, List.length_take, Nat.min_eq_left (by omega)]
        intro j hj
        rw [hel] at hj
        have := hcell k d' j hd' hj
        rw [add_mk, add_mk, cel_cell] at this
        exact this
    have := key ds.length (Nat.le_refl _)
    rwa [List.take_length] at this
theorem all2_ex {α β : Type} {R : α → β → Prop} : ∀ {l : List α}, (∀ a ∈ l, ∃ b, R a b) → ∃ m, All2 R l m
  | [], _ => ⟨[], .nil⟩
  | a :: l, h => by
    obtain ⟨b, hb⟩ := h a (by simp)
    obtain ⟨m, hm⟩ := all2_ex (l := l) fun x hx => h x (by simp [hx])
    exact ⟨b :: m, .cons hb hm⟩
end
end Go.AX
namespace Go.Proofs.Ytefghfgmkndikaa
open Go Go.AX Go.ChangeShapes Go.WideShapes Go.RowKit Go.Deep
section
variable {H : Type} {enc : TypeId × Value → H} {w : World} {base : Nat}
theorem und101 : Try.prog.underlying 101 = some (.slice 108) := by kernel_rfl
theorem und74 : Try.prog.underlying 74 = some (.slice 103) := by kernel_rfl
theorem sz108 : Try.prog.cellsOf 108 = 4 := by kernel_rfl
theorem sz103 : Try.prog.cellsOf 103 = 12 := by kernel_rfl
theorem sz9 : Try.prog.cellsOf 9 = 1 := by kernel_rfl
theorem sz4 : Try.prog.cellsOf 4 = 1 := by kernel_rfl
theorem sz72 : Try.prog.cellsOf 72 = 9 := by kernel_rfl
theorem sz101 : Try.prog.cellsOf 101 = 1 := by kernel_rfl
theorem fld103 : isStrF Try.prog 103 [(9, 0), (101, 1), (4, 2), (72, 3)] = true := by kernel_rfl
set_option maxRecDepth 100000 in
theorem trod_cell {n : Nat} {cs : List Value} {y : DataW H × List MemPlace} (h : DataW.trod enc Try.prog w 0 (fun _ => true) true n 103 cs = some y) :
    ∃ v, cs = eCV v ∧ ∃ c, CR (fun b => b < w.heap.size) w.heap v c ∧ c.vers.length ≤ maxLen := by
  obtain ⟨hlen, hf⟩ := trod_fields fld103 h
  obtain ⟨n0, y0, h0⟩ := hf (9, 0) (by simp)
  obtain ⟨n1, y1, h1⟩ := hf (101, 1) (by simp)
  obtain ⟨n2, y2, h2⟩ := hf (4, 2) (by simp)
  obtain ⟨n3, y3, h3⟩ := hf (72, 3) (by simp)
  simp only [sz9, sz101, sz4, sz72] at h0 h1 h2 h3
  rw [sz103] at hlen
  obtain ⟨s, hs, _, hsz⟩ := DataW.trod_string und9 h0
  obtain ⟨b, hb, _⟩ := DataW.trod_bool und4 h2
  obtain ⟨l, hl⟩ := kdLck (flatT_trod _ _ _ _ _ _ flat72 h3)
  obtain ⟨a, n, c, ds, hcs, hd, hnc, hcm, S⟩ := open_flat und101 flat108 sz108 (by decide) (fun _ => kdVer) eVer_len h1
  have hcs' : cs = cs.take 1 ++ ((cs.drop 1).take 1 ++ ((cs.drop 2).take 1 ++ (cs.drop 3).take 9)) := by
    have e3 : (cs.drop 3).take 9 = cs.drop 3 := by rw [List.take_of_length_le]; rw [List.length_drop]; omega
    rw [e3]
    have q2 : (cs.drop 2).take 1 ++ cs.drop 3 = cs.drop 2 := by
      have := List.take_append_drop 1 (cs.drop 2)
      rwa [List.drop_drop] at this
    rw [q2]
    have q1 : (cs.drop 1).take 1 ++ cs.drop 2 = cs.drop 1 := by
      have := List.take_append_drop 1 (cs.drop 1)
      rwa [List.drop_drop] at this
    rw [q1, List.take_append_drop]
  rw [List.drop_zero] at hs
  rw [hs, hcs, hb, hl] at hcs'
  refine ⟨⟨s, a, n, c, b, l⟩, hcs', ⟨s, ds, b, l⟩, ⟨rfl, rfl, rfl, hd.symm, hnc, S⟩, ?_⟩
  show ds.length ≤ maxLen
  omega
set_option maxRecDepth 100000 in
theorem open_cells {fuel : Nat} {vs : List Value} {x : DataW H × List MemPlace} (h : DataW.trod enc Try.prog w 0 (fun _ => true) true fuel 74 vs = some x) :
    ∃ a n c cs, vs = [.slice a n c] ∧ cs.length = n ∧ n ≤ c ∧ c ≤ maxLen ∧ SlC (fun b => b < w.heap.size) w.heap a cs ∧ Fit cs := by
  obtain ⟨a, n, c, ds, h1, h2, h3, h4, S, hQ⟩ := open_rows (e := eCV) (Q := fun v => ∃ c, CR (fun b => b < w.heap.size) w.heap v c ∧ c.vers.length ≤ maxLen) und74 sz103 (by decide) (fun n cs y h => trod_cell h) eCV_len h
  obtain ⟨cs, hcs⟩ := all2_ex hQ
  refine ⟨a, n, c, cs, h1, ?_, h3, h4, ⟨ds, hcs.imp fun _ _ r => r.1, S⟩, ?_⟩
  · rw [← h2, hcs.length]
  · clear h2 S hQ
    intro c hc
    obtain ⟨i, hi, rfl⟩ := List.mem_iff_getElem.1 hc
    obtain ⟨v, _, hr⟩ := hcs.get (List.getElem?_eq_getElem hi)
    exact hr.2
set_option maxRecDepth 100000 in
theorem argCells {v : Value} {d : DataW H} {p : List MemPlace} (hv : Value.okWide Try.prog w .any base 74 v) (h : DataW.Trod enc Try.prog w 0 (fun _ => true) true 74 v d p) :
    ∃ a c cs, v = .slice a cs.length c ∧ cs.length ≤ maxLen ∧ cs.length ≤ c ∧ Fit cs ∧ SlC (fun b => b < w.heap.size) w.heap a cs := by
  obtain ⟨a0, n0, c0, rfl⟩ := okWide_slice und74 hv
  obtain ⟨fuel, hf⟩ := h
  obtain ⟨a, n, c, cs, hcs, hl, hnc, hc, S, F⟩ := open_cells hf
  have : a0 = a ∧ n0 = n ∧ c0 = c := by simpa [Value.cells] using hcs
  obtain ⟨rfl, rfl, rfl⟩ := this
  subst hl
  exact ⟨_, _, cs, rfl, Nat.le_trans hnc hc, hnc, F, S⟩
end
end Go.Proofs.Ytefghfgmkndikaa
/-
  The facts of the head of the program's form that every row asks for. By a small program of mine (wip/tools/mk.py): the head's signs are written out by their numbers.
-/
namespace Go.AX
open Go
theorem make_of {P : Program} {l : List Char} {rest : List (List Char)} (h : P.initOrder.toList = l) (h2 : behindMainWord (wordsSigns l) = "cut".toList :: rest) : P.make = some Make.cut := by
  unfold Program.make; rw [h, h2]; rfl
theorem lifts_of {P : Program} {l : List Char} {rest : List (List Char)} (h : P.initOrder.toList = l) (h2 : behindMainWord (wordsSigns l) = "cut".toList :: rest) : P.liftsFinal = false := by
  unfold Program.liftsFinal Program.headLifts; rw [h, h2]; rfl
theorem enter_of {P : Program} {l : List Char} {rest : List (List Char)} (h : P.initOrder.toList = l) (h2 : behindMainWord (wordsSigns l) = "cut".toList :: rest) (h3 : P.laysLater = false) (h4 : P.bearsReflect = false) (h5 : P.doorFits [] = true) : P.mayEnter = true := by
  have e : stripLifts liftWords ("cut".toList :: rest) = ([], "cut".toList :: rest) := rfl
  unfold Program.mayEnter; rw [h, h2]; simp only [e, h3, h4, h5]; rfl
end Go.AX
namespace Go.Proofs.Ytefghfgmkndikaa
open Go Go.AX Go.ChangeShapes Go.WideShapes Go.ChangeAt Go.RowKit
set_option maxRecDepth 100000
def headSigns : List Char := [104, 97, 114, 110, 101, 115, 115, 32, 49, 52, 53, 50, 100, 54, 52, 101, 48, 100, 97, 54, 53, 102, 102, 102, 102, 55, 50, 97, 56, 51, 56, 100, 53, 51, 49, 99, 57, 57, 100, 101, 51, 54, 100, 100, 49, 99, 53, 53, 56, 100, 49, 102, 57, 51, 98, 53, 99, 97, 97, 53, 57, 98, 50, 101, 50, 98, 51, 101, 48, 55, 97, 99, 32, 99, 117, 116, 32, 97, 116, 32, 97, 110, 116, 105, 112, 111, 100, 101, 47, 97, 110, 116, 105, 112, 111, 100, 101, 108, 97, 119, 50, 54, 46, 78, 101, 116, 65, 108, 108, 32, 97, 110, 116, 105, 112, 111, 100, 101, 47, 97, 110, 116, 105, 112, 111, 100, 101, 108, 97, 119, 50, 54, 46, 78, 101, 116, 70, 117, 108, 108, 32, 97, 110, 116, 105, 112, 111, 100, 101, 47, 97, 110, 116, 105, 112, 111, 100, 101, 108, 97, 119, 50, 54, 46, 78, 101, 116, 79, 114, 100, 101, 114, 32, 97, 110, 116, 105, 112, 111, 100, 101, 47, 97, 110, 116, 105, 112, 111, 100, 101, 108, 97, 119, 56, 46, 77, 118, 99, 99, 80, 97, 115, 116, 32, 97, 110, 116, 105, 112, 111, 100, 101, 47, 97, 110, 116, 105, 112, 111, 100, 101, 108, 97, 119, 56, 46, 77, 118, 99, 99, 84, 117, 114, 110, 115, 32, 97, 110, 116, 105, 112, 111, 100, 101, 47, 97, 110, 116, 105, 112, 111, 100, 101, 108, 97, 119, 56, 46, 77, 118, 99, 99, 65, 112, 97, 114, 116, 32, 97, 110, 116, 105, 112, 111, 100, 101, 47, 97, 110, 116, 105, 112, 111, 100, 101, 108, 97, 119, 56, 46, 77, 118, 99, 99, 70, 114, 101, 101, 32, 97, 110, 116, 105, 112, 111, 100, 101, 47, 97, 110, 116, 105, 112, 111, 100, 101, 108, 97, 119, 56, 46, 77, 118, 99, 99, 84, 114, 105, 109, 115, 32, 97, 110, 116, 105, 112, 111, 100, 101, 47, 97, 110, 116, 105, 112, 111, 100, 101, 108, 97, 119, 56, 46, 77, 118, 99, 99, 83, 99, 97, 110, 115, 32, 97, 110, 116, 105, 112, 111, 100, 101, 47, 97, 110, 116, 105, 112, 111, 100, 101, 108, 97, 119, 56, 46, 77, 118, 99, 99, 65, 108, 108, 32, 97, 110, 116, 105, 112, 111, 100, 101, 47, 97, 110, 116, 105, 112, 111, 100, 101, 108, 97, 119, 56, 46, 77, 118, 99, 99, 65, 110, 121, 32, 97, 110, 116, 105, 112, 111, 100, 101, 47, 97, 110, 116, 105, 112, 111, 100, 101, 108, 97, 119, 50, 51, 46, 80, 97, 114, 116, 65, 108, 108, 32, 97, 110, 116, 105, 112, 111, 100, 101, 47, 97, 110, 116, 105, 112, 111, 100, 101, 108, 97, 119, 50, 51, 46, 80, 97, 114, 116, 65, 110, 121, 32, 97, 110, 116, 105, 112, 111, 100, 101, 47, 97, 110, 116, 105, 112, 111, 100, 101, 108, 97, 119, 50, 51, 46, 80, 97, 114, 116, 82, 101, 97, 100, 115, 32, 97, 110, 116, 105, 112, 111, 100, 101, 47, 97, 110, 116, 105, 112, 111, 100, 101, 108, 97, 119, 50, 51, 46, 80, 97, 114, 116, 67, 108, 111, 115, 101, 115, 32, 97, 110, 116, 105, 112, 111, 100, 101, 47, 97, 110, 116, 105, 112, 111, 100, 101, 108, 97, 119, 50, 51, 46, 80, 97, 114, 116, 68, 101, 99, 105, 100, 101, 115, 32, 97, 110, 116, 105, 112, 111, 100, 101, 47, 97, 110, 116, 105, 112, 111, 100, 101, 108, 97, 119, 50, 51, 46, 80, 97, 114, 116, 79, 110, 99, 101, 32, 97, 110, 116, 105, 112, 111, 100, 101, 47, 97, 110, 116, 105, 112, 111, 100, 101, 108, 97, 119, 50, 51, 46, 80, 97, 114, 116, 76, 111, 99, 107, 115, 32, 97, 110, 116, 105, 112, 111, 100, 101, 47, 97, 110, 116, 105, 112, 111, 100, 101, 108, 97, 119, 50, 51, 46, 80, 97, 114, 116, 69, 112, 111, 99, 104, 115, 32, 97, 110, 116, 105, 112, 111, 100, 101, 47, 97, 110, 116, 105, 112, 111, 100, 101, 108, 97, 119, 50, 51, 46, 80, 97, 114, 116, 83, 116, 111, 112, 115, 32, 97, 110, 116, 105, 112, 111, 100, 101, 47, 97, 110, 116, 105, 112, 111, 100, 101, 108, 97, 119, 50, 51, 46, 80, 97, 114, 116, 83, 101, 116, 116, 108, 101, 100].map Char.ofNat
theorem head1 : Try.prog.initOrder = String.ofList headSigns := by kernel_rfl
theorem head2 : Try.prog.initOrder.toList = headSigns := by rw [head1, String.toList_ofList]
theorem head0 : (behindMainWord (wordsSigns headSigns)).head? = some "cut".toList := by kernel_rfl
theorem headR : ∃ rest, behindMainWord (wordsSigns headSigns) = "cut".toList :: rest := by
  have := head0
  generalize behindMainWord (wordsSigns headSigns) = l at this
  cases l with
  | nil => cases this
  | cons a l => cases this; exact ⟨l, rfl⟩
theorem head3 : Try.prog.mayEnter = true := by
  obtain ⟨r, hr⟩ := headR
  exact enter_of head2 hr (by kernel_rfl) (by kernel_rfl) (by kernel_rfl)
theorem head4 : Try.prog.liftsFinal = false := by
  obtain ⟨r, hr⟩ := headR
  exact lifts_of head2 hr
theorem head5 : Try.prog.make = some Make.cut := by
  obtain ⟨r, hr⟩ := headR
  exact make_of head2 hr
end Go.Proofs.Ytefghfgmkndikaa
