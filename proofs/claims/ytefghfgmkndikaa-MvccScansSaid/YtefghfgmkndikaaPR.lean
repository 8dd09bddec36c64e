/-
  Plain laws of runs: what any run of operations leaves may be, and is not too great.
-/
import Derived.Test.YtefghfgmkndikaaWK
set_option linter.unusedSimpArgs false
set_option linter.unusedVariables false
namespace Go.Proofs.Ytefghfgmkndikaa
open Go Go.AX

structure CellOk (c : Cell) : Prop where
  nolock : c.locked = false → c.lock = noLock
  some_ : c.locked = false → c.vers ≠ []
  ldata : c.lock.drop = true → c.lock.data = noB
  vs : VS c.vers
  vdata : ∀ v ∈ c.vers, v.drop = true → v.data = noB
structure Good (cs : List Cell) : Prop where
  sorted : Sorted cs
  ok : ∀ c ∈ cs, CellOk c
def Sz (n : Nat) (cs : List Cell) : Prop := cs.length ≤ n ∧ ∀ c ∈ cs, c.vers.length ≤ n

/-- Steps that hold between neighbours hold between all. -/
theorem pw_of_next {α : Type} {R : α → α → Prop} (tr : ∀ a b c, R a b → R b c → R a c) : ∀ l : List α, (∀ i x y, l[i]? = some x → l[i + 1]? = some y → R x y) → l.Pairwise R
  | [], _ => .nil
  | [a], _ => List.pairwise_singleton _ _
  | a :: b :: l, h => by
    have ih := pw_of_next tr (b :: l) (fun i x y hx hy => h (i + 1) x y (by simpa using hx) (by simpa using hy))
    have hab := h 0 a b rfl rfl
    refine List.pairwise_cons.2 ⟨?_, ih⟩
    intro x hx
    rcases List.mem_cons.1 hx with rfl | hx
    · exact hab
    · exact tr _ _ _ hab ((List.pairwise_cons.1 ih).1 x hx)
theorem next_of_pw {α : Type} {R : α → α → Prop} {l : List α} (h : l.Pairwise R) {i : Nat} {x y : α} (hx : l[i]? = some x) (hy : l[i + 1]? = some y) : R x y := by
  obtain ⟨h1, rfl⟩ := List.getElem?_eq_some_iff.1 hx
  obtain ⟨h2, rfl⟩ := List.getElem?_eq_some_iff.1 hy
  exact List.pairwise_iff_getElem.1 h i (i + 1) h1 h2 (by omega)
theorem mayP_iff (cs : List Cell) : MayP cs ↔ Good cs := by
  constructor
  · intro h
    refine ⟨pw_of_next (R := fun a b : Cell => klt a.key b.key = true) (fun _ _ _ => klt_trans) cs ?_, ?_⟩
    · intro i x y hx hy
      exact (h (i + 1) y hy).1.1 x (by omega) (by simpa using hx)
    · intro c hc
      obtain ⟨i, hi, rfl⟩ := List.mem_iff_getElem.1 hc
      obtain ⟨h1, h2⟩ := h i _ (List.getElem?_eq_getElem hi)
      refine ⟨h1.2.1, h1.2.2.1, h1.2.2.2, pw_of_next (R := fun a b : Ver => Stamp.lt a.at_ b.at_ = true) (fun _ _ _ => Stamp.lt_trans) _ ?_, ?_⟩
      · intro k x y hx hy
        exact (h2 (k + 1) y hy).1 x (by omega) (by simpa using hx)
      · intro v hv
        obtain ⟨k, hk, rfl⟩ := List.mem_iff_getElem.1 hv
        exact (h2 k _ (List.getElem?_eq_getElem hk)).2
  · intro h i x hx
    have ho := h.ok x (List.mem_of_getElem? hx)
    refine ⟨⟨?_, ho.nolock, ho.some_, ho.ldata⟩, ?_⟩
    · intro y hp hy
      exact next_of_pw h.sorted hy (by rw [show i - 1 + 1 = i by omega]; exact hx)
    · intro k v hv
      refine ⟨?_, ho.vdata v (List.mem_of_getElem? hv)⟩
      intro u hp hu
      exact next_of_pw ho.vs hu (by rw [show k - 1 + 1 = k by omega]; exact hv)

theorem Good.nil : Good [] := ⟨.nil, by simp⟩
theorem Sz.nil (n : Nat) : Sz n [] := ⟨by simp, by simp⟩
theorem Sz.mono {n m : Nat} {cs : List Cell} (h : Sz n cs) (hm : n ≤ m) : Sz m cs := ⟨Nat.le_trans h.1 hm, fun c hc => Nat.le_trans (h.2 c hc) hm⟩

/-! ### Lock -/
theorem lkW_data (w : Wri) (l : Lck) : (lkW w l).drop = true → (lkW w l).data = noB := by
  intro h
  have : w.drop = true := h
  simp [lkW, this]
theorem lock_good {cs : List Cell} (w : Wri) (l : Lck) (h : Good cs) : Good (lockL cs w l) := by
  rw [lockL_eq]
  refine ⟨lockR_sorted w l h.sorted, ?_⟩
  intro d hd
  rcases mem_lockR hd with ⟨h1, h2, h3, h4⟩ | hd
  · have hv : VS d.vers ∧ ∀ v ∈ d.vers, v.drop = true → v.data = noB := by
      rcases h4 with h4 | ⟨c, hc, _, h4⟩
      · rw [h4]; exact ⟨.nil, by simp⟩
      · rw [h4]; exact ⟨(h.ok c hc).vs, (h.ok c hc).vdata⟩
    exact ⟨fun e => (by rw [h2] at e; cases e), fun e => (by rw [h2] at e; cases e), (by rw [h3]; exact lkW_data w l), hv.1, hv.2⟩
  · exact h.ok d hd
theorem lock_sz {n : Nat} {cs : List Cell} (w : Wri) (l : Lck) (h : Sz n cs) : Sz (n + 1) (lockL cs w l) := by
  rw [lockL_eq]
  refine ⟨Nat.le_trans (lockR_len w l cs) (by have := h.1; omega), ?_⟩
  intro d hd
  rcases mem_lockR hd with ⟨h1, h2, h3, h4⟩ | hd
  · rcases h4 with h4 | ⟨c, hc, _, h4⟩
    · rw [h4]; simp
    · rw [h4]; have := h.2 c hc; omega
  · have := h.2 d hd; omega

/-! ### Settle -/
theorem settleC_ok {by_ : Try4} {yes : Bool} {c d : Cell} (h : CellOk c) (hd : leftC (settleC by_ yes c) = some d) : CellOk d := by
  obtain ⟨rfl, hl⟩ := leftC_some hd
  unfold settleC at hl ⊢
  split
  · rename_i hm
    rw [if_pos hm] at hl
    simp only at hl
    refine ⟨fun _ => rfl, fun _ => ?_, fun e => (by cases e), ?_, ?_⟩
    · rcases hl with hl | hl
      · cases hl
      · exact hl
    · show VS (if yes = true then putV c.vers (verL c.lock) else c.vers)
      split
      · rw [putV_eq _ h.vs]; exact insR_vs _ h.vs
      · exact h.vs
    · show ∀ v ∈ (if yes = true then putV c.vers (verL c.lock) else c.vers), _
      split
      · rw [putV_eq _ h.vs]
        intro v hv
        rcases mem_insR hv with rfl | hv
        · exact h.ldata
        · exact h.vdata v hv
      · exact h.vdata
  · exact h
theorem filterMap_ok {f : Cell → Option Cell} {cs : List Cell} (hf : ∀ c ∈ cs, ∀ d, f c = some d → CellOk d) : ∀ d ∈ cs.filterMap f, CellOk d := by
  intro d hd
  obtain ⟨c, hc, hcd⟩ := List.mem_filterMap.1 hd
  exact hf c hc d hcd
theorem settle_good {cs : List Cell} (by_ : Try4) (yes : Bool) (h : Good cs) : Good (settleL cs by_ yes) :=
  ⟨(settle_KP by_ yes).sorted h.sorted, filterMap_ok fun c hc d hd => settleC_ok (h.ok c hc) hd⟩
theorem settle_sz {n : Nat} {cs : List Cell} (by_ : Try4) (yes : Bool) (g : Good cs) (h : Sz n cs) : Sz (n + 1) (settleL cs by_ yes) := by
  refine ⟨Nat.le_trans (List.length_filterMap_le _ _) (by have := h.1; omega), ?_⟩
  intro d hd
  obtain ⟨c, hc, hcd⟩ := List.mem_filterMap.1 hd
  obtain ⟨rfl, _⟩ := leftC_some hcd
  have hn := h.2 c hc
  unfold settleC
  split
  · show (if yes = true then putV c.vers (verL c.lock) else c.vers).length ≤ n + 1
    split
    · rw [putV_eq _ (g.ok c hc).vs]
      have := insR_len (verL c.lock) c.vers
      omega
    · omega
  · omega

/-! ### Trim -/
theorem trimC_ok {t : Stamp} {c d : Cell} (h : CellOk c) (hd : leftC (trimC t c) = some d) : CellOk d := by
  obtain ⟨rfl, hl⟩ := leftC_some hd
  refine ⟨h.nolock, ?_, h.ldata, vs_drop h.vs _, fun v hv => h.vdata v (List.mem_of_mem_drop hv)⟩
  intro e
  rcases hl with hl | hl
  · rw [e] at hl; cases hl
  · exact hl
theorem trim_good {cs : List Cell} (t : Stamp) (h : Good cs) : Good (trimL cs t) :=
  ⟨(trim_KP t).sorted h.sorted, filterMap_ok fun c hc d hd => trimC_ok (h.ok c hc) hd⟩
theorem trim_sz {n : Nat} {cs : List Cell} (t : Stamp) (h : Sz n cs) : Sz n (trimL cs t) := by
  refine ⟨Nat.le_trans (List.length_filterMap_le _ _) h.1, ?_⟩
  intro d hd
  obtain ⟨c, hc, hcd⟩ := List.mem_filterMap.1 hd
  obtain ⟨rfl, _⟩ := leftC_some hcd
  have hn := h.2 c hc
  show (c.vers.drop _).length ≤ n
  rw [List.length_drop]; omega

/-! ### Runs -/
theorem do_good {cs : List Cell} (o : Op8) (h : Good cs) : Good (doL cs o) := by
  unfold doL
  split
  · exact lock_good _ _ h
  · split
    · exact settle_good _ _ h
    · exact trim_good _ h
theorem do_sz {n : Nat} {cs : List Cell} (o : Op8) (g : Good cs) (h : Sz n cs) : Sz (n + 1) (doL cs o) := by
  unfold doL
  split
  · exact lock_sz _ _ h
  · split
    · exact settle_sz _ _ g h
    · exact (trim_sz _ h).mono (by omega)
def runL (ops : List Op8) : List Cell := ops.foldl doL []
theorem runL_snoc (ops : List Op8) (o : Op8) : runL (ops ++ [o]) = doL (runL ops) o := by unfold runL; rw [List.foldl_append]; rfl
theorem runL_take {ops : List Op8} {k : Nat} {o : Op8} (h : ops[k]? = some o) : runL (ops.take (k + 1)) = doL (runL (ops.take k)) o := by
  rw [List.take_add_one, h, Option.toList_some, runL_snoc]
theorem fold_good (ops : List Op8) : ∀ (n : Nat) (cs : List Cell), Good cs → Sz n cs → Good (ops.foldl doL cs) ∧ Sz (n + ops.length) (ops.foldl doL cs) := by
  induction ops with
  | nil => intro n cs g s; exact ⟨g, s⟩
  | cons o ops ih =>
    intro n cs g s
    have := ih (n + 1) (doL cs o) (do_good o g) (do_sz o g s)
    rw [List.foldl_cons, List.length_cons]
    exact ⟨this.1, this.2.mono (by omega)⟩
theorem runL_good (ops : List Op8) : Good (runL ops) ∧ Sz ops.length (runL ops) := by
  have := fold_good ops 0 [] Good.nil (Sz.nil 0)
  rw [Nat.zero_add] at this
  exact this

/-! ### What is told behind it -/
theorem cellK_lock {cs : List Cell} (g : Good cs) (w : Wri) (l : Lck) (k : ByteArray) :
    cellK (lockL cs w l) k = if k = w.key then some ⟨w.key, versO (cellK cs w.key), true, lkW w l⟩ else cellK cs k := by
  rw [lockL_eq, cellK_lockR w l k g.sorted]
theorem cellK_settle {cs : List Cell} (g : Good cs) (by_ : Try4) (yes : Bool) (k : ByteArray) : cellK (settleL cs by_ yes) k = (cellK cs k).bind fun c => leftC (settleC by_ yes c) :=
  (settle_KP by_ yes).cell_ k g.sorted
theorem cellK_trim {cs : List Cell} (g : Good cs) (t : Stamp) (k : ByteArray) : cellK (trimL cs t) k = (cellK cs k).bind fun c => leftC (trimC t c) :=
  (trim_KP t).cell_ k g.sorted
theorem mineL_false {cs : List Cell} {by_ : Try4} (h : mineL cs by_ = false) {c : Cell} (hc : c ∈ cs) : (c.locked && decide (c.lock.by_ = by_)) = false := by
  unfold mineL at h
  rw [List.any_eq_false] at h
  simpa using h c hc
theorem settleC_not {by_ : Try4} {yes : Bool} {c : Cell} (h : (c.locked && decide (c.lock.by_ = by_)) = false) : settleC by_ yes c = c := by
  unfold settleC; rw [h]; rfl
/-- What a cell that may go tells. -/
def tellC (o : Option Cell) (t : Stamp) : ByteArray × Bool := match o with | some c => tellV c.vers t | none => (noB, false)
theorem getK_tell {cs : List Cell} (g : Good cs) (k : ByteArray) (t : Stamp) : getK cs k t = tellC (cellK cs k) t := getK_eq g.sorted k t
theorem tellC_left (c : Cell) (t : Stamp) : tellC (leftC c) t = tellV c.vers t := by
  by_cases h : c.locked = true ∨ c.vers ≠ []
  · rw [leftC_of h]; rfl
  · simp only [not_or, Decidable.not_not, Bool.not_eq_true] at h
    rw [leftC_not h.1 h.2, h.2]; rfl

theorem past_cell {cs : List Cell} (g : Good cs) (w : Wri) (l : Lck) (yes : Bool) (t : Stamp) :
    getK (settleL (lockL cs w l) l.by_ yes) w.key t = tellV (if yes then insR (verL (lkW w l)) (versO (cellK cs w.key)) else versO (cellK cs w.key)) t := by
  have g2 := lock_good w l g
  have g3 := settle_good l.by_ yes g2
  have hvs : VS (versO (cellK cs w.key)) := by
    cases h : cellK cs w.key with
    | none => exact .nil
    | some c => exact (g.ok c (cellK_key h).2).vs
  rw [getK_tell g3, cellK_settle g2, cellK_lock g, if_pos rfl, Option.bind_some, tellC_left]
  unfold settleC
  have : ((lkW w l).by_ = l.by_) := rfl
  simp only [this, decide_true, Bool.and_self, if_true]
  cases yes with
  | false => rfl
  | true => simp only [if_true]; rw [putV_eq _ hvs]
theorem past_same {cs : List Cell} (g : Good cs) (w : Wri) (l : Lck) (yes : Bool) (t : Stamp) (h : Stamp.lt t l.at_ = true ∨ yes = false) :
    getK (settleL (lockL cs w l) l.by_ yes) w.key t = getK cs w.key t := by
  rw [past_cell g, getK_tell g]
  have e : tellC (cellK cs w.key) t = tellV (versO (cellK cs w.key)) t := by
    cases cellK cs w.key <;> rfl
  rw [e]
  rcases h with h | rfl
  · split
    · rw [tellV_eq, tellV_eq]; exact tell_ahead h _ _
    · rfl
  · rfl
theorem past_told {cs : List Cell} (g : Good cs) (w : Wri) (l : Lck) : getK (settleL (lockL cs w l) l.by_ true) w.key l.at_ = if w.drop then (noB, false) else (w.data, true) := by
  have hvs : VS (versO (cellK cs w.key)) := by
    cases h : cellK cs w.key with
    | none => exact .nil
    | some c => exact (g.ok c (cellK_key h).2).vs
  rw [past_cell g, if_pos rfl, tellV_eq]
  have := tell_at (v := verL (lkW w l)) (noB, false) hvs
  have e : (verL (lkW w l)).at_ = l.at_ := rfl
  rw [e] at this
  rw [this]
  unfold valV verL lkW
  cases w.drop <;> rfl

/-! ### Other keys -/
def heldK (cs : List Cell) (key : ByteArray) : Lck × Bool := match cellK cs key with | some c => if c.locked then (c.lock, true) else (noLock, false) | none => (noLock, false)
theorem apart_get {cs : List Cell} (g : Good cs) (w : Wri) (l : Lck) (yes : Bool) (key : ByteArray) (t : Stamp) (hm : mineL cs l.by_ = false) (hk : key ≠ w.key) :
    getK (settleL (lockL cs w l) l.by_ yes) key t = getK cs key t := by
  have g2 := lock_good w l g
  rw [getK_tell (settle_good l.by_ yes g2), cellK_settle g2, cellK_lock g, if_neg hk, getK_tell g]
  cases h : cellK cs key with
  | none => rfl
  | some c =>
    rw [Option.bind_some, settleC_not (mineL_false hm (cellK_key h).2), tellC_left]; rfl
theorem apart_held {cs : List Cell} (g : Good cs) (w : Wri) (l : Lck) (key : ByteArray) (hk : key ≠ w.key) : heldK (lockL cs w l) key = heldK cs key := by
  unfold heldK
  rw [cellK_lock g, if_neg hk]

/-! ### Two attempts in either order -/
theorem settleC_key (by_ : Try4) (yes : Bool) (c : Cell) : (settleC by_ yes c).key = c.key := by unfold settleC; split <;> rfl
theorem settle_other {a b : Try4} (hab : a ≠ b) (x y : Bool) (c : Cell) : settleC b y (settleC a x c) = settleC a x (settleC b y c) := by
  unfold settleC
  cases hl : c.locked with
  | false => simp [hl]
  | true =>
    by_cases ha : c.lock.by_ = a
    · have hb : ¬ c.lock.by_ = b := fun e => hab (ha.symm.trans e)
      simp [hl, ha, hab]
    · by_cases hb : c.lock.by_ = b
      · simp [hl, hb, Ne.symm hab]
      · simp [hl, ha, hb]
theorem settle_twice (a : Try4) (x y : Bool) (c : Cell) : settleC a y (settleC a x c) = settleC a x c := by
  unfold settleC
  split
  · simp
  · rfl
theorem settle_left (b : Try4) (y : Bool) (c : Cell) (h : CellOk c) : (leftC c).bind (fun c => leftC (settleC b y c)) = leftC (settleC b y c) := by
  have : c.locked = true ∨ c.vers ≠ [] := by
    cases hl : c.locked with
    | true => exact .inl rfl
    | false => exact .inr (h.some_ hl)
  rw [leftC_of this]; rfl
theorem left_settle {a : Try4} {x : Bool} {b : Try4} {y : Bool} {c : Cell} (h : CellOk c) : (leftC (settleC a x c)).bind (fun d => leftC (settleC b y d)) = leftC (settleC b y (settleC a x c)) := by
  cases hd : leftC (settleC a x c) with
  | some d => rw [(leftC_some hd).1]; rfl
  | none =>
    -- it is gone: not locked, without versions
    have hno : (settleC a x c).locked = false ∧ (settleC a x c).vers = [] := by
      unfold leftC at hd
      split at hd
      · cases hd
      · rename_i hn; simpa using hn
    have : settleC b y (settleC a x c) = settleC a x c := settleC_not (by rw [hno.1]; rfl)
    rw [this, hd]; rfl
theorem fm_congr {f g : Cell → Option Cell} : ∀ {l : List Cell}, (∀ c ∈ l, f c = g c) → l.filterMap f = l.filterMap g
  | [], _ => rfl
  | c :: l, h => by rw [List.filterMap_cons, List.filterMap_cons, h c (by simp), fm_congr fun d hd => h d (by simp [hd])]
theorem settle_turns {cs : List Cell} (g : Good cs) {a b : Try4} (hab : a ≠ b) (x y : Bool) : settleL (settleL cs a x) b y = settleL (settleL cs b y) a x := by
  unfold settleL
  rw [List.filterMap_filterMap, List.filterMap_filterMap]
  refine fm_congr fun c hc => ?_
  rw [left_settle (g.ok c hc), left_settle (g.ok c hc), settle_other hab]
theorem settle_again {cs : List Cell} (g : Good cs) (a : Try4) (x y : Bool) : settleL (settleL cs a x) a y = settleL cs a x := by
  unfold settleL
  rw [List.filterMap_filterMap]
  refine fm_congr fun c hc => ?_
  rw [left_settle (g.ok c hc), settle_twice]

/-! ### Locked and let go -/
theorem held_lock {cs : List Cell} (g : Good cs) (w : Wri) (l : Lck) : heldK (lockL cs w l) w.key = (lkW w l, true) := by
  unfold heldK
  rw [cellK_lock g, if_pos rfl]; rfl
theorem settle_none : ∀ {cs : List Cell} {by_ : Try4} {yes : Bool}, (∀ c ∈ cs, CellOk c) → (∀ c ∈ cs, (c.locked && decide (c.lock.by_ = by_)) = false) → settleL cs by_ yes = cs
  | [], _, _, _, _ => rfl
  | c :: cs, by_, yes, h1, h2 => by
    unfold settleL
    have hc := h1 c (by simp)
    have : c.locked = true ∨ c.vers ≠ [] := by
      cases hl : c.locked with
      | true => exact .inl rfl
      | false => exact .inr (hc.some_ hl)
    rw [List.filterMap_cons, settleC_not (h2 c (by simp)), leftC_of this]
    simp only
    congr 1
    exact settle_none (fun c hc => h1 c (by simp [hc])) (fun c hc => h2 c (by simp [hc]))
theorem lock_free (w : Wri) (l : Lck) : ∀ {cs : List Cell}, Good cs → (∀ c ∈ cs, (c.locked && decide (c.lock.by_ = l.by_)) = false) → (∀ c ∈ cs, c.key = w.key → c.locked = false) → settleL (lockR w l cs) l.by_ false = cs
  | [], _, _, _ => by
    unfold lockR settleL
    rw [List.filterMap_cons]
    have : leftC (settleC l.by_ false ⟨w.key, [], true, lkW w l⟩) = none := by
      unfold settleC
      simp [lkW, leftC]
    rw [this]; rfl
  | c :: cs, g, h2, h3 => by
    have gs : Good cs := ⟨(sorted_cons.1 g.sorted).2, fun c hc => g.ok c (by simp [hc])⟩
    have hc := g.ok c (by simp)
    have hleft : c.locked = true ∨ c.vers ≠ [] := by
      cases hl : c.locked with
      | true => exact .inl rfl
      | false => exact .inr (hc.some_ hl)
    unfold lockR
    split
    · have ih := lock_free w l gs (fun c hc => h2 c (by simp [hc])) (fun c hc => h3 c (by simp [hc]))
      unfold settleL at ih ⊢
      rw [List.filterMap_cons, settleC_not (h2 c (by simp)), leftC_of hleft]
      simp only
      rw [ih]
    · split
      · rename_i he
        have hl := h3 c (by simp) he
        have e1 : settleC l.by_ false { c with locked := true, lock := lkW w l } = c := by
          unfold settleC
          have : (lkW w l).by_ = l.by_ := rfl
          simp only [this, decide_true, Bool.and_self, if_true]
          have hn := hc.nolock hl
          cases c
          simp_all
        unfold settleL
        rw [List.filterMap_cons, e1, leftC_of hleft]
        simp only
        congr 1
        exact settle_none gs.ok (fun c hc => h2 c (by simp [hc]))
      · unfold settleL
        rw [List.filterMap_cons]
        have : leftC (settleC l.by_ false ⟨w.key, [], true, lkW w l⟩) = none := by
          unfold settleC
          simp [lkW, leftC]
        rw [this]
        exact settle_none g.ok h2
theorem lock_let_go {cs : List Cell} (g : Good cs) (w : Wri) (l : Lck) (hm : mineL cs l.by_ = false) (hh : (heldK cs w.key).2 = false) : settleL (lockL cs w l) l.by_ false = cs := by
  rw [lockL_eq]
  refine lock_free w l g (fun c hc => mineL_false hm hc) ?_
  intro c hc he
  have : cellK cs w.key = some c := by
    have hs := g.sorted
    clear g hm hh
    induction cs with
    | nil => simp at hc
    | cons d cs ih =>
      rw [cellK_cons]
      rcases List.mem_cons.1 hc with rfl | hc
      · rw [if_pos he]
      · have := klt_ne ((sorted_cons.1 hs).1 c hc)
        rw [if_neg (by rw [← he]; exact this)]
        exact ih hc (sorted_cons.1 hs).2
  unfold heldK at hh
  rw [this] at hh
  cases hl : c.locked with
  | false => rfl
  | true => simp [hl] at hh
end Go.Proofs.Ytefghfgmkndikaa
