/-
  Plain laws of cells: what locks, settlings and trims do to what is told. No program in sight.
-/
import Derived.Test.YtefghfgmkndikaaM7
set_option linter.unusedSimpArgs false
set_option linter.unusedVariables false
namespace Go.Proofs.Ytefghfgmkndikaa
open Go Go.AX

/-! ### Cells by key -/
/-- The cell of a key. -/
def cellK (cs : List Cell) (key : ByteArray) : Option Cell := cs.find? fun c => decide (c.key = key)
theorem cellK_nil (key : ByteArray) : cellK [] key = none := rfl
theorem cellK_cons (c : Cell) (cs : List Cell) (key : ByteArray) : cellK (c :: cs) key = if c.key = key then some c else cellK cs key := by
  unfold cellK
  rw [List.find?_cons]
  by_cases h : c.key = key
  · simp [h]
  · simp [h]
theorem cellK_key {cs : List Cell} {key : ByteArray} {c : Cell} (h : cellK cs key = some c) : c.key = key ∧ c ∈ cs := by
  unfold cellK at h
  exact ⟨by simpa using List.find?_some h, List.mem_of_find?_eq_some h⟩
theorem cellK_none {cs : List Cell} {key : ByteArray} (h : ∀ c ∈ cs, c.key ≠ key) : cellK cs key = none := by
  unfold cellK
  rw [List.find?_eq_none]
  intro c hc
  simpa using h c hc
theorem sorted_cons {c : Cell} {cs : List Cell} : Sorted (c :: cs) ↔ (∀ d ∈ cs, klt c.key d.key = true) ∧ Sorted cs := List.pairwise_cons
theorem lbK_cons (c : Cell) (cs : List Cell) (key : ByteArray) : lbK (c :: cs) key = if klt c.key key then lbK cs key + 1 else 0 := by
  unfold lbK
  rw [List.takeWhile_cons]
  split <;> simp
theorem hasK_cons (c : Cell) (cs : List Cell) (key : ByteArray) : hasK (c :: cs) key = if klt c.key key then hasK cs key else decide (c.key = key) := by
  unfold hasK
  rw [lbK_cons]
  split <;> rename_i h <;> split at h <;> simp_all
/-- A key is behind: it is not there. -/
theorem cellK_behind {c : Cell} {cs : List Cell} {key : ByteArray} (hs : Sorted (c :: cs)) (h : klt key c.key = true) : cellK (c :: cs) key = none := by
  refine cellK_none ?_
  intro d hd
  rcases List.mem_cons.1 hd with rfl | hd
  · exact (klt_ne h).symm
  · exact (klt_ne (klt_trans h ((sorted_cons.1 hs).1 d hd))).symm
theorem at_lb : ∀ {cs : List Cell} (key : ByteArray), Sorted cs → (match cs[lbK cs key]? with | some c => if c.key = key then some c else none | none => none) = cellK cs key
  | [], _, _ => rfl
  | c :: cs, key, hs => by
    rw [lbK_cons]
    by_cases h : klt c.key key = true
    · rw [if_pos h, cellK_cons, if_neg (klt_ne h)]
      simpa using at_lb key (sorted_cons.1 hs).2
    · rw [if_neg h]
      simp only [List.getElem?_cons_zero]
      by_cases he : c.key = key
      · rw [if_pos he, cellK_cons, if_pos he]
      · rw [if_neg he]
        rcases klt_total c.key key with h1 | h1 | h1
        · exact absurd h1 h
        · exact absurd h1 he
        · rw [cellK_behind hs h1]
theorem getK_eq {cs : List Cell} (hs : Sorted cs) (key : ByteArray) (t : Stamp) : getK cs key t = match cellK cs key with | some c => tellV c.vers t | none => (noB, false) := by
  rw [← at_lb key hs]
  unfold getK
  cases cs[lbK cs key]? with
  | none => rfl
  | some c =>
    by_cases h : c.key = key <;> simp [h]

/-! ### Lock -/
/-- The versions of a cell that may be. -/
def versO : Option Cell → List Ver
  | some c => c.vers
  | none => []
def lockR (w : Wri) (l : Lck) : List Cell → List Cell
  | [] => [⟨w.key, [], true, lkW w l⟩]
  | c :: cs => if klt c.key w.key then c :: lockR w l cs else if c.key = w.key then { c with locked := true, lock := lkW w l } :: cs else ⟨w.key, [], true, lkW w l⟩ :: c :: cs
theorem lockL_eq (w : Wri) (l : Lck) : ∀ cs : List Cell, lockL cs w l = lockR w l cs
  | [] => rfl
  | c :: cs => by
    have ih := lockL_eq w l cs
    unfold lockL lockR
    unfold lockL at ih
    rw [hasK_cons, lbK_cons]
    by_cases h : klt c.key w.key = true
    · simp only [if_pos h]
      rw [← ih]
      by_cases hk : hasK cs w.key = true
      · simp [hk]
      · simp [hk]
    · simp only [if_neg h]
      by_cases he : c.key = w.key
      · simp [he]
      · simp [he]
theorem findK_cons (c : Cell) (cs : List Cell) (key : ByteArray) : findK (c :: cs) key = if c.key = key then 0 else if findK cs key < 0 then -1 else findK cs key + 1 := by
  unfold findK
  rw [List.findIdx?_cons]
  by_cases h : c.key = key
  · simp [h]
  · simp only [h, decide_false, Bool.false_eq_true, if_false]
    cases cs.findIdx? (fun c => decide (c.key = key)) with
    | none => rfl
    | some i =>
      simp only [Option.map_some]
      rw [if_neg (by omega)]; omega
theorem findK_ge (cs : List Cell) (key : ByteArray) : -1 ≤ findK cs key := by
  unfold findK; split <;> omega
theorem findK_none {cs : List Cell} {key : ByteArray} (h : ∀ c ∈ cs, c.key ≠ key) : findK cs key = -1 := by
  unfold findK
  rw [List.findIdx?_eq_none_iff.2 (by intro x hx; simpa using h x hx)]
theorem findK_cell : ∀ (cs : List Cell) (key : ByteArray), (if findK cs key < 0 then none else cs[(findK cs key).toNat]?) = cellK cs key
  | [], _ => rfl
  | c :: cs, key => by
    have ih := findK_cell cs key
    have hg := findK_ge cs key
    rw [findK_cons, cellK_cons]
    by_cases h : c.key = key
    · simp [h]
    · simp only [if_neg h]
      rw [← ih]
      by_cases hn : findK cs key < 0
      · simp [hn]
      · simp only [if_neg hn]
        rw [if_neg (by omega)]
        obtain ⟨k, hk⟩ : ∃ k : Nat, findK cs key = k := ⟨(findK cs key).toNat, by omega⟩
        rw [hk]
        rw [show ((k : Int) + 1).toNat = k + 1 by omega]
        simp
theorem rgetK_eq (cs : List Cell) (key : ByteArray) (t : Stamp) : rgetK cs key t = match cellK cs key with | some c => tellV c.vers t | none => (noB, false) := by
  rw [← findK_cell]
  unfold rgetK
  by_cases hn : findK cs key < 0
  · simp [hn]
  · simp only [if_neg hn]
    have := findK_lt cs key
    rw [List.getElem?_eq_getElem (by omega), List.getD_eq_getElem?_getD, List.getElem?_eq_getElem (by omega)]
    simp
theorem rgetK_get {cs : List Cell} (hs : Sorted cs) (key : ByteArray) (t : Stamp) : getK cs key t = rgetK cs key t := by rw [getK_eq hs, rgetK_eq]
theorem rlockL_eq (w : Wri) (l : Lck) : ∀ {cs : List Cell}, Sorted cs → rlockL cs w l = lockR w l cs
  | [], _ => rfl
  | c :: cs, hs => by
    have ih := rlockL_eq w l (sorted_cons.1 hs).2
    have hg := findK_ge cs w.key
    unfold rlockL at ih ⊢
    unfold lockR
    rw [findK_cons, lbK_cons]
    by_cases h : klt c.key w.key = true
    · have hne := klt_ne h
      simp only [if_pos h, if_neg hne]
      rw [← ih]
      by_cases hn : findK cs w.key < 0
      · simp [hn]
      · simp only [if_neg hn]
        rw [if_neg (by omega)]
        obtain ⟨k, hk⟩ : ∃ k : Nat, findK cs w.key = k := ⟨(findK cs w.key).toNat, by omega⟩
        rw [hk, show ((k : Int) + 1).toNat = k + 1 by omega]
        simp
    · simp only [if_neg h]
      by_cases he : c.key = w.key
      · simp [he]
      · have hlt : klt w.key c.key = true := by
          rcases klt_total c.key w.key with h1 | h1 | h1
          · exact absurd h1 h
          · exact absurd h1 he
          · exact h1
        have : findK cs w.key = -1 := findK_none fun d hd => (klt_ne (klt_trans hlt ((sorted_cons.1 hs).1 d hd))).symm
        simp [he, this]
theorem mem_lockR {w : Wri} {l : Lck} : ∀ {cs : List Cell} {d : Cell}, d ∈ lockR w l cs → (d.key = w.key ∧ d.locked = true ∧ d.lock = lkW w l ∧ (d.vers = [] ∨ ∃ c ∈ cs, c.key = w.key ∧ d.vers = c.vers)) ∨ d ∈ cs
  | [], d, h => by
    simp only [lockR, List.mem_cons, List.not_mem_nil, or_false] at h
    subst h; exact .inl ⟨rfl, rfl, rfl, .inl rfl⟩
  | c :: cs, d, h => by
    unfold lockR at h
    split at h
    · rcases List.mem_cons.1 h with rfl | h
      · exact .inr (by simp)
      · rcases mem_lockR h with ⟨h1, h2, h3, h4⟩ | h1
        · refine .inl ⟨h1, h2, h3, h4.imp id ?_⟩
          rintro ⟨e, he, hk⟩; exact ⟨e, by simp [he], hk⟩
        · exact .inr (by simp [h1])
    · split at h
      · rename_i he
        rcases List.mem_cons.1 h with rfl | h
        · exact .inl ⟨he, rfl, rfl, .inr ⟨c, by simp, he, rfl⟩⟩
        · exact .inr (by simp [h])
      · rcases List.mem_cons.1 h with rfl | h
        · exact .inl ⟨rfl, rfl, rfl, .inl rfl⟩
        · exact .inr h
theorem lockR_len (w : Wri) (l : Lck) : ∀ cs : List Cell, (lockR w l cs).length ≤ cs.length + 1
  | [] => by simp [lockR]
  | c :: cs => by
    have := lockR_len w l cs
    unfold lockR
    split
    · simp; omega
    · split <;> simp
theorem lockR_key_ge {w : Wri} {l : Lck} {cs : List Cell} {d : Cell} (h : d ∈ lockR w l cs) : d.key = w.key ∨ d ∈ cs := (mem_lockR h).imp (·.1) id
theorem lockR_sorted (w : Wri) (l : Lck) : ∀ {cs : List Cell}, Sorted cs → Sorted (lockR w l cs)
  | [], _ => List.pairwise_singleton _ _
  | c :: cs, hs => by
    have h1 := sorted_cons.1 hs
    unfold lockR
    split
    · rename_i h
      refine sorted_cons.2 ⟨?_, lockR_sorted w l h1.2⟩
      intro d hd
      rcases lockR_key_ge hd with e | e
      · rw [e]; exact h
      · exact h1.1 d e
    · rename_i h
      split
      · exact sorted_cons.2 h1
      · rename_i he
        have hlt : klt w.key c.key = true := by
          rcases klt_total c.key w.key with k | k | k
          · exact absurd k h
          · exact absurd k he
          · exact k
        refine sorted_cons.2 ⟨?_, hs⟩
        intro d hd
        rcases List.mem_cons.1 hd with rfl | hd
        · exact hlt
        · exact klt_trans hlt (h1.1 d hd)
theorem cellK_lockR (w : Wri) (l : Lck) (k : ByteArray) : ∀ {cs : List Cell}, Sorted cs → cellK (lockR w l cs) k = if k = w.key then some ⟨w.key, versO (cellK cs w.key), true, lkW w l⟩ else cellK cs k
  | [], _ => by
    unfold lockR
    rw [cellK_cons, cellK_nil, cellK_nil]
    by_cases h : k = w.key
    · simp [h, versO]
    · simp [h, Ne.symm h]
  | c :: cs, hs => by
    have ih := cellK_lockR w l k (sorted_cons.1 hs).2
    unfold lockR
    split
    · rename_i h
      have hne := klt_ne h
      rw [cellK_cons, ih, cellK_cons, cellK_cons, if_neg hne]
      by_cases hk : k = w.key
      · subst hk; simp [hne]
      · simp only [if_neg hk]
    · rename_i h
      split
      · rename_i he
        rw [cellK_cons, cellK_cons, cellK_cons, if_pos he]
        by_cases hk : k = w.key
        · subst hk; simp [he, versO]
        · have : ¬ c.key = k := fun e => hk (by rw [← e, he])
          simp [hk, this]
      · rename_i he
        have hlt : klt w.key c.key = true := by
          rcases klt_total c.key w.key with k | k | k
          · exact absurd k h
          · exact absurd k he
          · exact k
        rw [cellK_behind hs hlt, cellK_cons]
        by_cases hk : k = w.key
        · subst hk; simp [versO]
        · simp [hk, Ne.symm hk]

/-! ### What keeps keys -/
theorem leftC_some {c d : Cell} (h : leftC c = some d) : d = c ∧ (c.locked = true ∨ c.vers ≠ []) := by
  unfold leftC at h
  split at h
  · rename_i hc; cases h; exact ⟨rfl, by simpa using hc⟩
  · cases h
theorem leftC_of {c : Cell} (h : c.locked = true ∨ c.vers ≠ []) : leftC c = some c := by
  unfold leftC; rw [if_pos (by simpa using h)]
theorem leftC_not {c : Cell} (h1 : c.locked = false) (h2 : c.vers = []) : leftC c = none := by
  unfold leftC; rw [if_neg (by simp [h1, h2])]
def KP (f : Cell → Option Cell) : Prop := ∀ c d, f c = some d → d.key = c.key
theorem KP.sorted {f : Cell → Option Cell} (hf : KP f) {cs : List Cell} (hs : Sorted cs) : Sorted (cs.filterMap f) := by
  refine List.Pairwise.filterMap f ?_ hs
  intro a a' h b hb b' hb'
  rw [hf a b hb, hf a' b' hb']; exact h
theorem KP.cell_ {f : Cell → Option Cell} (hf : KP f) (k : ByteArray) : ∀ {cs : List Cell}, Sorted cs → cellK (cs.filterMap f) k = (cellK cs k).bind f
  | [], _ => rfl
  | c :: cs, hs => by
    have ih := hf.cell_ k (sorted_cons.1 hs).2
    rw [List.filterMap_cons, cellK_cons]
    cases hc : f c with
    | none =>
      simp only
      rw [ih]
      by_cases h : c.key = k
      · rw [if_pos h, Option.bind_some, hc]
        rw [cellK_none (fun d hd => by rw [← h]; exact (klt_ne ((sorted_cons.1 hs).1 d hd)).symm)]; rfl
      · rw [if_neg h]
    | some d =>
      simp only
      rw [cellK_cons, hf c d hc, ih]
      by_cases h : c.key = k
      · rw [if_pos h, if_pos h, Option.bind_some, hc]
      · rw [if_neg h, if_neg h]
theorem settle_KP (by_ : Try4) (yes : Bool) : KP fun c => leftC (settleC by_ yes c) := by
  intro c d h
  rw [(leftC_some h).1]
  unfold settleC; split <;> rfl
theorem rsettle_KP (by_ : Try4) (yes : Bool) : KP fun c => leftC (rsettleC by_ yes c) := by
  intro c d h
  rw [(leftC_some h).1]
  unfold rsettleC; split <;> rfl
theorem trim_KP (t : Stamp) : KP fun c => leftC (trimC t c) := by
  intro c d h
  rw [(leftC_some h).1]; rfl

/-! ### Versions in their order -/
def VS (vs : List Ver) : Prop := vs.Pairwise fun a b => Stamp.lt a.at_ b.at_ = true
theorem vs_cons {u : Ver} {us : List Ver} : VS (u :: us) ↔ (∀ v ∈ us, Stamp.lt u.at_ v.at_ = true) ∧ VS us := List.pairwise_cons
theorem preV_cons (u : Ver) (us : List Ver) (t : Stamp) : preV (u :: us) t = if Stamp.lt t u.at_ then 0 else preV us t + 1 := by
  unfold preV
  rw [List.takeWhile_cons]
  cases Stamp.lt t u.at_ <;> simp
theorem preV_zero {us : List Ver} {t : Stamp} (h : ∀ v ∈ us, Stamp.lt t v.at_ = true) : preV us t = 0 := by
  cases us with
  | nil => rfl
  | cons u us => rw [preV_cons, if_pos (h u (by simp))]
theorem preV_at {t : Stamp} : ∀ {vs : List Ver} {p : Nat} {v : Ver}, p < preV vs t → vs[p]? = some v → Stamp.lt t v.at_ = false
  | [], p, v, h, _ => by simp [preV] at h
  | u :: us, p, v, h, hv => by
    rw [preV_cons] at h
    split at h
    · omega
    · rename_i hu
      cases p with
      | zero => simp at hv; subst hv; simpa using hu
      | succ p => exact preV_at (vs := us) (p := p) (by omega) (by simpa using hv)
theorem preV_after {t : Stamp} : ∀ {vs : List Ver}, VS vs → ∀ {p : Nat} {v : Ver}, preV vs t ≤ p → vs[p]? = some v → Stamp.lt t v.at_ = true
  | [], _, p, v, _, hv => by simp at hv
  | u :: us, hs, p, v, h, hv => by
    rw [preV_cons] at h
    have h1 := vs_cons.1 hs
    split at h
    · rename_i hu
      cases p with
      | zero => simp at hv; subst hv; exact hu
      | succ p => exact Stamp.lt_trans hu (h1.1 v (List.mem_of_getElem? (by simpa using hv)))
    · cases p with
      | zero => omega
      | succ p => exact preV_after h1.2 (vs := us) (p := p) (by omega) (by simpa using hv)
theorem lastK_of (vs : List Ver) (t : Stamp) (i : Nat) (hi : i ≤ vs.length) (h1 : ∀ p v, p < i → vs[p]? = some v → Stamp.lt t v.at_ = false) (h2 : ∀ p v, i ≤ p → vs[p]? = some v → Stamp.lt t v.at_ = true) :
    ∀ k, i ≤ k → k ≤ vs.length → lastK vs t k = (i : Int) - 1
  | 0, hk, _ => by have : i = 0 := by omega
                   subst this; rfl
  | k + 1, hk, hkl => by
    obtain ⟨v, hv⟩ := get_ex (l := vs) (k := k) (by omega)
    unfold lastK
    rw [getD_of hv]
    rcases Nat.lt_or_ge k i with hlt | hge
    · have : k + 1 = i := by omega
      rw [h1 k v hlt hv, if_neg (by simp)]; omega
    · rw [h2 k v hge hv, if_pos rfl, lastK_of vs t i hi h1 h2 k hge (by omega)]
theorem lastV_pre {vs : List Ver} (hs : VS vs) (t : Stamp) : lastV vs t = (preV vs t : Int) - 1 :=
  lastK_of vs t (preV vs t) (preV_le vs t) (fun _ _ h hv => preV_at h hv) (fun _ _ h hv => preV_after hs h hv) _ (preV_le vs t) (Nat.le_refl _)
theorem cutV_eq {vs : List Ver} (hs : VS vs) (t : Stamp) : cutV vs t = rcutV vs t := by
  unfold cutV rcutV
  rw [lastV_pre hs]
  generalize preV vs t = p
  cases p with
  | zero => simp
  | succ q =>
    rw [if_neg (by omega), show ((q + 1 : Nat) : Int) - 1 = q by omega]
    simp only [Int.toNat_natCast, Nat.zero_lt_succ, true_and, Nat.add_sub_cancel]
    cases (vs.getD q default).drop <;> simp
def insR (v : Ver) : List Ver → List Ver
  | [] => [v]
  | u :: us => if Stamp.lt u.at_ v.at_ then u :: insR v us else if u.at_ = v.at_ then v :: us else v :: u :: us
theorem putV_pre {vs : List Ver} (hs : VS vs) (v : Ver) : putV vs v = if 0 < preV vs v.at_ ∧ (vs.getD (preV vs v.at_ - 1) default).at_ = v.at_ then vs.set (preV vs v.at_ - 1) v else vs.take (preV vs v.at_) ++ [v] ++ vs.drop (preV vs v.at_) := by
  unfold putV
  rw [lastV_pre hs]
  generalize preV vs v.at_ = p
  cases p with
  | zero => simp
  | succ q =>
    rw [show ((q + 1 : Nat) : Int) - 1 = q by omega]
    have e : ((q : Int) + 1).toNat = q + 1 := by omega
    simp only [Int.toNat_natCast, Nat.zero_lt_succ, true_and, Nat.add_sub_cancel, e]
    congr 1
    simp
theorem putV_eq (v : Ver) : ∀ {vs : List Ver}, VS vs → putV vs v = insR v vs
  | [], _ => rfl
  | u :: us, hs => by
    have h1 := vs_cons.1 hs
    have ih := putV_eq v h1.2
    rw [putV_pre hs]
    rw [putV_pre h1.2] at ih
    rw [preV_cons]
    unfold insR
    by_cases h : Stamp.lt v.at_ u.at_ = true
    · have hn : Stamp.lt u.at_ v.at_ = false := Stamp.lt_asymm h
      have hne : ¬ u.at_ = v.at_ := by intro e; rw [e, Stamp.lt_irrefl] at h; cases h
      simp [h, hn, hne]
    · rw [if_neg h]
      by_cases he : u.at_ = v.at_
      · have hz : preV us v.at_ = 0 := preV_zero fun x hx => by rw [← he]; exact h1.1 x hx
        simp [hz, he, Stamp.lt_irrefl]
      · have hlt : Stamp.lt u.at_ v.at_ = true := by
          rcases Stamp.lt_total u.at_ v.at_ with k | k | k
          · exact k
          · exact absurd k he
          · exact absurd k h
        rw [if_pos hlt, ← ih]
        cases hp : preV us v.at_ with
        | zero => simp [he]
        | succ q =>
          simp only [Nat.zero_lt_succ, true_and, Nat.add_sub_cancel]
          simp only [List.getD_cons_succ, List.set_cons_succ, List.take_succ_cons, List.drop_succ_cons, List.cons_append]
          split <;> rfl
theorem wfold (v : Ver) : ∀ (vs : List Ver) (acc : List Ver), VS vs → (let r := vs.foldl (wStep v) (acc, false); if r.2 then r.1 else r.1 ++ [v]) = acc ++ insR v vs
  | [], acc, _ => by simp [insR]
  | u :: us, acc, hs => by
    have h1 := vs_cons.1 hs
    have after : ∀ (us : List Ver) (acc : List Ver), (∀ x ∈ us, x.at_ ≠ v.at_) → us.foldl (wStep v) (acc, true) = (acc ++ us, true) := by
      intro us
      induction us with
      | nil => intro acc _; simp
      | cons x us ih =>
        intro acc h
        rw [List.foldl_cons]
        have : wStep v (acc, true) x = (acc ++ [x], true) := by
          unfold wStep; simp [h x (by simp)]
        rw [this, ih _ (fun y hy => h y (by simp [hy]))]
        simp
    rw [List.foldl_cons]
    unfold insR
    by_cases hlt : Stamp.lt u.at_ v.at_ = true
    · have hne : ¬ u.at_ = v.at_ := by intro e; rw [e, Stamp.lt_irrefl] at hlt; cases hlt
      have : wStep v (acc, false) u = (acc ++ [u], false) := by unfold wStep; simp [hlt, hne]
      rw [this, wfold v us _ h1.2, if_pos hlt]
      simp
    · rw [if_neg hlt]
      by_cases he : u.at_ = v.at_
      · have : wStep v (acc, false) u = (acc ++ [v], true) := by unfold wStep; simp [hlt, he, Stamp.lt_irrefl]
        rw [this, after us _ (fun x hx e => by have := h1.1 x hx; rw [he, e, Stamp.lt_irrefl] at this; cases this), if_pos he]
        simp
      · have : wStep v (acc, false) u = (acc ++ [v] ++ [u], true) := by unfold wStep; simp [hlt, he]
        have hvu : Stamp.lt v.at_ u.at_ = true := by
          rcases Stamp.lt_total u.at_ v.at_ with k | k | k
          · exact absurd k hlt
          · exact absurd k he
          · exact k
        rw [this, after us _ (fun x hx e => by have := Stamp.lt_trans hvu (h1.1 x hx); rw [e, Stamp.lt_irrefl] at this; cases this), if_neg he]
        simp
theorem withV_eq (v : Ver) {vs : List Ver} (hs : VS vs) : withV vs v = insR v vs := by
  have := wfold v vs [] hs
  simpa [withV] using this
theorem mem_insR {v : Ver} : ∀ {vs : List Ver} {x : Ver}, x ∈ insR v vs → x = v ∨ x ∈ vs
  | [], x, h => by simpa [insR] using h
  | u :: us, x, h => by
    unfold insR at h
    split at h
    · rcases List.mem_cons.1 h with rfl | h
      · exact .inr (by simp)
      · rcases mem_insR h with h | h
        · exact .inl h
        · exact .inr (by simp [h])
    · split at h
      · rcases List.mem_cons.1 h with rfl | h
        · exact .inl rfl
        · exact .inr (by simp [h])
      · rcases List.mem_cons.1 h with rfl | h
        · exact .inl rfl
        · exact .inr h
theorem insR_len (v : Ver) : ∀ vs : List Ver, (insR v vs).length ≤ vs.length + 1
  | [] => by simp [insR]
  | u :: us => by
    have := insR_len v us
    unfold insR
    split
    · simp; omega
    · split <;> simp
theorem insR_ne (v : Ver) (vs : List Ver) : insR v vs ≠ [] := by
  cases vs with
  | nil => simp [insR]
  | cons u us => unfold insR; split <;> (try split) <;> simp
theorem insR_vs (v : Ver) : ∀ {vs : List Ver}, VS vs → VS (insR v vs)
  | [], _ => List.pairwise_singleton _ _
  | u :: us, hs => by
    have h1 := vs_cons.1 hs
    unfold insR
    split
    · rename_i h
      refine vs_cons.2 ⟨?_, insR_vs v h1.2⟩
      intro x hx
      rcases mem_insR hx with rfl | hx
      · exact h
      · exact h1.1 x hx
    · rename_i h
      split
      · rename_i he
        refine vs_cons.2 ⟨fun x hx => by rw [← he]; exact h1.1 x hx, h1.2⟩
      · rename_i he
        have hvu : Stamp.lt v.at_ u.at_ = true := by
          rcases Stamp.lt_total u.at_ v.at_ with k | k | k
          · exact absurd k h
          · exact absurd k he
          · exact k
        refine vs_cons.2 ⟨?_, hs⟩
        intro x hx
        rcases List.mem_cons.1 hx with rfl | hx
        · exact hvu
        · exact Stamp.lt_trans hvu (h1.1 x hx)

/-! ### What versions tell -/
def valV (v : Ver) : ByteArray × Bool := if v.drop then (noB, false) else (v.data, true)
def tellF (r : ByteArray × Bool) (vs : List Ver) (t : Stamp) : ByteArray × Bool := vs.foldl (fun r v => if Stamp.lt t v.at_ then r else valV v) r
theorem tellF_cons (r : ByteArray × Bool) (v : Ver) (vs : List Ver) (t : Stamp) : tellF r (v :: vs) t = tellF (if Stamp.lt t v.at_ then r else valV v) vs t := rfl
theorem tellF_append (r : ByteArray × Bool) (us vs : List Ver) (t : Stamp) : tellF r (us ++ vs) t = tellF (tellF r us t) vs t := List.foldl_append
theorem tellV_eq (vs : List Ver) (t : Stamp) : tellV vs t = tellF (noB, false) vs t := by
  have key : ∀ k, k ≤ vs.length → (if lastK vs t k < 0 then (noB, false) else let v := vs.getD (lastK vs t k).toNat default; if v.drop then (noB, false) else (v.data, true)) = tellF (noB, false) (vs.take k) t := by
    intro k
    induction k with
    | zero => intro _; simp [lastK, tellF]
    | succ k ih =>
      intro hk
      obtain ⟨v, hv⟩ := get_ex (l := vs) (k := k) (by omega)
      have ih := ih (by omega)
      rw [List.take_add_one, hv, Option.toList_some, tellF_append, ← ih]
      have el : lastK vs t (k + 1) = if Stamp.lt t v.at_ then lastK vs t k else (k : Int) := by
        rw [← getD_of hv]; rfl
      rw [el]
      by_cases h : Stamp.lt t v.at_ = true
      · rw [if_pos h]
        show _ = tellF _ [v] t
        rw [tellF_cons, if_pos h]; rfl
      · rw [if_neg h, if_neg (by omega)]
        show _ = tellF _ [v] t
        rw [tellF_cons, if_neg h]
        simp only [Int.toNat_natCast, getD_of hv]
        rfl
  have := key vs.length (Nat.le_refl _)
  rw [List.take_length] at this
  exact this
theorem tellF_none {t : Stamp} : ∀ {vs : List Ver} {r : ByteArray × Bool}, (∀ v ∈ vs, Stamp.lt t v.at_ = true) → tellF r vs t = r
  | [], _, _ => rfl
  | v :: vs, r, h => by
    rw [tellF_cons, if_pos (h v (by simp)), tellF_none fun x hx => h x (by simp [hx])]
theorem tell_ahead {v : Ver} {t : Stamp} (h : Stamp.lt t v.at_ = true) : ∀ (vs : List Ver) (r : ByteArray × Bool), tellF r (insR v vs) t = tellF r vs t
  | [], r => by simp [insR, tellF_cons, h]
  | u :: us, r => by
    unfold insR
    split
    · rw [tellF_cons, tellF_cons, tell_ahead h us]
    · split
      · rename_i he
        rw [tellF_cons, tellF_cons, he, if_pos h, if_pos h]
      · rw [tellF_cons, if_pos h]
theorem tell_at {v : Ver} : ∀ {vs : List Ver} (r : ByteArray × Bool), VS vs → tellF r (insR v vs) v.at_ = valV v
  | [], r, _ => by simp [insR, tellF, Stamp.lt_irrefl]
  | u :: us, r, hs => by
    have h1 := vs_cons.1 hs
    unfold insR
    split
    · rw [tellF_cons, tell_at _ h1.2]
    · rename_i h
      split
      · rename_i he
        rw [tellF_cons, Stamp.lt_irrefl, if_neg (by simp), tellF_none]
        intro x hx; rw [← he]; exact h1.1 x hx
      · rename_i he
        have hvu : Stamp.lt v.at_ u.at_ = true := by
          rcases Stamp.lt_total u.at_ v.at_ with k | k | k
          · exact absurd k h
          · exact absurd k he
          · exact k
        rw [tellF_cons, Stamp.lt_irrefl, if_neg (by simp), tellF_none]
        intro x hx
        rcases List.mem_cons.1 hx with rfl | hx
        · exact hvu
        · exact Stamp.lt_trans hvu (h1.1 x hx)

/-! ### Trim -/
theorem take_pre {vs : List Ver} {t : Stamp} {q : Nat} (h : preV vs t = q + 1) : ∃ u, vs[q]? = some u ∧ Stamp.lt t u.at_ = false ∧ vs.drop q = u :: vs.drop (q + 1) ∧ vs.take (q + 1) = vs.take q ++ [u] := by
  have hl := preV_le vs t
  obtain ⟨u, hu⟩ := get_ex (l := vs) (k := q) (by omega)
  refine ⟨u, hu, preV_at (by omega) hu, ?_, ?_⟩
  · have hq : q < vs.length := by omega
    rw [List.drop_eq_getElem_cons hq]
    rw [List.getElem?_eq_getElem hq] at hu
    cases hu; rfl
  · rw [List.take_add_one, hu]; rfl
theorem not_lt_trans {a b c : Stamp} (h : Stamp.lt b a = false) (k : Stamp.lt c b = false) : Stamp.lt c a = false := by
  cases hc : Stamp.lt c a with
  | false => rfl
  | true =>
    rcases Stamp.lt_total a b with x | x | x
    · rw [Stamp.lt_trans hc x] at k; cases k
    · subst x; rw [hc] at k; cases k
    · rw [x] at h; cases h
theorem tell_trim {vs : List Ver} {below t : Stamp} (hs : VS vs) (h : Stamp.lt t below = false) : tellV (vs.drop (cutV vs below)) t = tellV vs t := by
  rw [tellV_eq, tellV_eq, cutV_eq hs]
  unfold rcutV
  cases hp : preV vs below with
  | zero => simp
  | succ q =>
    obtain ⟨u, hu, h1, h2, h3⟩ := take_pre hp
    have hv : Stamp.lt t u.at_ = false := not_lt_trans h1 h
    have e : tellF (noB, false) vs t = tellF (valV u) (vs.drop (q + 1)) t := by
      conv => lhs; rw [← List.take_append_drop (q + 1) vs]
      rw [tellF_append, h3, tellF_append, tellF_cons, hv]; rfl
    simp only [Nat.zero_lt_succ, true_and, Nat.add_sub_cancel, getD_of hu]
    split
    · rw [h2, tellF_cons, hv, e]; rfl
    · rename_i hd
      have hd : u.drop = true := by simpa using hd
      rw [e]
      unfold valV
      rw [hd]; rfl
theorem preV_drop {t : Stamp} : ∀ {vs : List Ver} {k : Nat}, k ≤ preV vs t → preV (vs.drop k) t = preV vs t - k
  | vs, 0, _ => by simp
  | [], k + 1, h => by simp [preV] at h
  | u :: us, k + 1, h => by
    rw [preV_cons] at h ⊢
    split at h
    · omega
    · rename_i hu
      rw [if_neg hu, List.drop_succ_cons, preV_drop (by omega)]; omega
theorem rcut_twice (vs : List Ver) (t : Stamp) : rcutV (vs.drop (rcutV vs t)) t = 0 := by
  cases hp : preV vs t with
  | zero =>
    have e : rcutV vs t = 0 := by unfold rcutV; simp [hp]
    rw [e, List.drop_zero, e]
  | succ q =>
    obtain ⟨u, hu, h1, h2, h3⟩ := take_pre hp
    by_cases hd : u.drop = true
    · have e : rcutV vs t = q + 1 := by unfold rcutV; simp [hp, hu, hd]
      rw [e]
      unfold rcutV
      rw [preV_drop (by omega), hp]; simp
    · have e : rcutV vs t = q := by unfold rcutV; simp [hp, hu, hd]
      rw [e]
      unfold rcutV
      rw [preV_drop (by omega), hp, h2]
      simp [hd]
theorem vs_drop {vs : List Ver} (hs : VS vs) (k : Nat) : VS (vs.drop k) := hs.sublist (List.drop_sublist k vs)
theorem trimC_twice (t : Stamp) (c : Cell) (hs : VS c.vers) : trimC t (trimC t c) = trimC t c := by
  unfold trimC
  simp only
  rw [cutV_eq (vs_drop hs _), cutV_eq hs, rcut_twice, List.drop_zero]
end Go.Proofs.Ytefghfgmkndikaa
/-
  Walks: whether operations are light; whether there is anything yet.
-/
namespace Go.Proofs.Ytefghfgmkndikaa
open Go Go.AX

def lightO (o : Op8) : Bool := !(decide (o.w.key.size > (50 : Int)) || decide (o.w.data.size > (200 : Int)))
def lightL (ops : List Op8) (most : Int) : Bool := !decide ((ops.length : Int) > most) && ops.all lightO

theorem row_op8 {h : Heap} {b o : Nat} {v : Op8} (r : Row h b o (eOp8 v)) : rd h b o 14 = some (eOp8 v) ∧ cel h b (o + 1 + 0) = some (.string v.w.key) ∧ cel h b (o + 1 + 2) = some (.string v.w.data) :=
  ⟨r.rd0 14 (Nat.le_refl _), r 1 (by rw [eOp8_len]; omega), r 3 (by rw [eOp8_len]; omega)⟩

theorem light_ok {B : Nat → Prop} {a : Option Addr} {c : Nat} (ops : List Op8) (most : Int) (h : Heap) (S : SlF B h eOp8 a ops) (hn : ops.length ≤ maxLen) {R : Value → Heap → Prop}
    (hR : R (.bool (lightL ops most)) h) : CallsH Try.prog 36 [.slice a ops.length c, vi most] h R := by
  unfold maxLen at hn
  refine f36ok (by simp) ?_
  (try simp (config := { maxSteps := 1000000 }) (disch := first | exact Nat.le_of_ble_eq_true rfl | omega) only [AXS, AXB, J.dst, reduceIte, Nat.reduceEqDiff, Nat.reduceAdd, Nat.reduceMul, Nat.reduceLT, Nat.reduceLeDiff]); rw [f36c0_eq]; (try simp (config := { maxSteps := 1000000 }) (disch := first | exact Nat.le_of_ble_eq_true rfl | omega) only [AXS, AXB, J.dst, reduceIte, Nat.reduceEqDiff, Nat.reduceAdd, Nat.reduceMul, Nat.reduceLT, Nat.reduceLeDiff, f36r0, f36r1, f36r2, f36r3, f36r4, f36r5, f36r6, f36r7, f36r8]); rw [f36c1_eq]; (try simp (config := { maxSteps := 1000000 }) (disch := first | exact Nat.le_of_ble_eq_true rfl | omega) only [AXS, AXB, J.dst, reduceIte, Nat.reduceEqDiff, Nat.reduceAdd, Nat.reduceMul, Nat.reduceLT, Nat.reduceLeDiff, f36r0, f36r1, f36r2, f36r3, f36r4, f36r5, f36r6, f36r7, f36r8]); rw [f36c2_eq]; (try simp (config := { maxSteps := 1000000 }) (disch := first | exact Nat.le_of_ble_eq_true rfl | omega) only [AXS, AXB, J.dst, reduceIte, Nat.reduceEqDiff, Nat.reduceAdd, Nat.reduceMul, Nat.reduceLT, Nat.reduceLeDiff, f36r0, f36r1, f36r2, f36r3, f36r4, f36r5, f36r6, f36r7, f36r8])
  refine ⟨fun hh => ?_, fun hh => ?_⟩
  · (try simp (config := { maxSteps := 1000000 }) (disch := first | exact Nat.le_of_ble_eq_true rfl | omega) only [AXS, AXB, J.dst, reduceIte, Nat.reduceEqDiff, Nat.reduceAdd, Nat.reduceMul, Nat.reduceLT, Nat.reduceLeDiff]); rw [f36c3_eq]; (try simp (config := { maxSteps := 1000000 }) (disch := first | exact Nat.le_of_ble_eq_true rfl | omega) only [AXS, AXB, J.dst, reduceIte, Nat.reduceEqDiff, Nat.reduceAdd, Nat.reduceMul, Nat.reduceLT, Nat.reduceLeDiff, f36r0, f36r1, f36r2, f36r3, f36r4, f36r5, f36r6, f36r7, f36r8])
    have : lightL ops most = false := by unfold lightL; rw [hh]; rfl
    rw [this] at hR
    exact hR
  · have hl : lightL ops most = ops.all lightO := by unfold lightL; rw [hh]; rfl
    (try simp (config := { maxSteps := 1000000 }) (disch := first | exact Nat.le_of_ble_eq_true rfl | omega) only [AXS, AXB, J.dst, reduceIte, Nat.reduceEqDiff, Nat.reduceAdd, Nat.reduceMul, Nat.reduceLT, Nat.reduceLeDiff]); rw [f36c4_eq]; (try simp (config := { maxSteps := 1000000 }) (disch := first | exact Nat.le_of_ble_eq_true rfl | omega) only [AXS, AXB, J.dst, reduceIte, Nat.reduceEqDiff, Nat.reduceAdd, Nat.reduceMul, Nat.reduceLT, Nat.reduceLeDiff, f36r0, f36r1, f36r2, f36r3, f36r4, f36r5, f36r6, f36r7, f36r8])
    rw [f36c5_eq]
    refine loop_in (fun n σ h' => h' = h ∧ ∃ k : Nat, k + n = ops.length ∧ σ = [(0, .slice a ops.length c), (5, vi k)] ∧ ∀ j x, j < k → ops[j]? = some x → lightO x = true) ops.length ⟨rfl, 0, by omega, rfl, by intros; omega⟩ ?_
    rintro n σ h' ⟨rfl, k, hk, rfl, hok⟩ Q' hnx hex hrt _
    (try simp (config := { maxSteps := 1000000 }) (disch := first | exact Nat.le_of_ble_eq_true rfl | omega) only [AXS, AXB, J.dst, reduceIte, Nat.reduceEqDiff, Nat.reduceAdd, Nat.reduceMul, Nat.reduceLT, Nat.reduceLeDiff]); rw [f36c6_eq]; (try simp (config := { maxSteps := 1000000 }) (disch := first | exact Nat.le_of_ble_eq_true rfl | omega) only [AXS, AXB, J.dst, reduceIte, Nat.reduceEqDiff, Nat.reduceAdd, Nat.reduceMul, Nat.reduceLT, Nat.reduceLeDiff, f36r0, f36r1, f36r2, f36r3, f36r4, f36r5, f36r6, f36r7, f36r8]); rw [f36c7_eq]; (try simp (config := { maxSteps := 1000000 }) (disch := first | exact Nat.le_of_ble_eq_true rfl | omega) only [AXS, AXB, J.dst, reduceIte, Nat.reduceEqDiff, Nat.reduceAdd, Nat.reduceMul, Nat.reduceLT, Nat.reduceLeDiff, f36r0, f36r1, f36r2, f36r3, f36r4, f36r5, f36r6, f36r7, f36r8])
    refine ⟨fun h2 => ?_, fun h2 => ?_⟩
    · have hkl : k < ops.length := by have := of_decide_eq_true h2; omega
      obtain ⟨x, hx⟩ := get_ex hkl
      obtain ⟨b, o, rfl, _, hrow⟩ := S.elem eOp8_len hx
      (try simp (config := { maxSteps := 1000000 }) (disch := first | exact Nat.le_of_ble_eq_true rfl | omega) only [AXS, AXB, J.dst, reduceIte, Nat.reduceEqDiff, Nat.reduceAdd, Nat.reduceMul, Nat.reduceLT, Nat.reduceLeDiff]); rw [f36c8_eq]; (try simp (config := { maxSteps := 1000000 }) (disch := first | exact Nat.le_of_ble_eq_true rfl | omega) only [AXS, AXB, J.dst, reduceIte, Nat.reduceEqDiff, Nat.reduceAdd, Nat.reduceMul, Nat.reduceLT, Nat.reduceLeDiff, f36r0, f36r1, f36r2, f36r3, f36r4, f36r5, f36r6, f36r7, f36r8])
      rw [f36c9_eq]
      simp (config := { maxSteps := 1000000 }) (disch := first | exact Nat.le_of_ble_eq_true rfl | omega) only [AXJ, AXS, AXB, J.dst, reduceIte, Nat.reduceEqDiff, Nat.reduceAdd, Nat.reduceMul, Nat.reduceLT, Nat.reduceLeDiff, f36r5, row_op8 hrow]
      refine ⟨by omega, by omega, fun _ => by omega, fun _ => by omega, ?_⟩
      rw [f36c10_eq]
      simp (config := { maxSteps := 1000000 }) (disch := first | exact Nat.le_of_ble_eq_true rfl | omega) only [AXS, AXB, J.dst, reduceIte, Nat.reduceEqDiff, Nat.reduceAdd, Nat.reduceMul, Nat.reduceLT, Nat.reduceLeDiff]
      refine ⟨fun h3 => ?_, fun h3 => ?_⟩
      · (try simp (config := { maxSteps := 1000000 }) (disch := first | exact Nat.le_of_ble_eq_true rfl | omega) only [AXS, AXB, J.dst, reduceIte, Nat.reduceEqDiff, Nat.reduceAdd, Nat.reduceMul, Nat.reduceLT, Nat.reduceLeDiff]); rw [f36c11_eq]; (try simp (config := { maxSteps := 1000000 }) (disch := first | exact Nat.le_of_ble_eq_true rfl | omega) only [AXS, AXB, J.dst, reduceIte, Nat.reduceEqDiff, Nat.reduceAdd, Nat.reduceMul, Nat.reduceLT, Nat.reduceLeDiff, f36r0, f36r1, f36r2, f36r3, f36r4, f36r5, f36r6, f36r7, f36r8])
        refine hrt _ _ ?_
        simp (config := { maxSteps := 1000000 }) (disch := first | exact Nat.le_of_ble_eq_true rfl | omega) only [AXS, AXB, J.dst, reduceIte, Nat.reduceEqDiff, Nat.reduceAdd, Nat.reduceMul, Nat.reduceLT, Nat.reduceLeDiff]
        have : lightL ops most = false := by
          rw [hl, List.all_eq_false]
          exact ⟨x, List.mem_of_getElem? hx, by unfold lightO; rw [h3]; simp⟩
        rw [this] at hR
        exact hR
      · (try simp (config := { maxSteps := 1000000 }) (disch := first | exact Nat.le_of_ble_eq_true rfl | omega) only [AXS, AXB, J.dst, reduceIte, Nat.reduceEqDiff, Nat.reduceAdd, Nat.reduceMul, Nat.reduceLT, Nat.reduceLeDiff]); rw [f36c12_eq]; (try simp (config := { maxSteps := 1000000 }) (disch := first | exact Nat.le_of_ble_eq_true rfl | omega) only [AXS, AXB, J.dst, reduceIte, Nat.reduceEqDiff, Nat.reduceAdd, Nat.reduceMul, Nat.reduceLT, Nat.reduceLeDiff, f36r0, f36r1, f36r2, f36r3, f36r4, f36r5, f36r6, f36r7, f36r8])
        rw [i64_wrap (by omega) (by omega)]
        refine hnx (n - 1) _ _ (by omega) ⟨rfl, k + 1, by omega, rfl, ?_⟩
        intro j y hj hy
        rcases Nat.lt_or_ge j k with hlt | hge
        · exact hok j y hlt hy
        · have : j = k := by omega
          subst this
          rw [hx] at hy; cases hy
          unfold lightO; rw [h3]; rfl
    · have hkl : k = ops.length := by have := of_decide_eq_false h2; omega
      refine hex _ _ ?_
      (try simp (config := { maxSteps := 1000000 }) (disch := first | exact Nat.le_of_ble_eq_true rfl | omega) only [AXS, AXB, J.dst, reduceIte, Nat.reduceEqDiff, Nat.reduceAdd, Nat.reduceMul, Nat.reduceLT, Nat.reduceLeDiff]); rw [f36c13_eq]; (try simp (config := { maxSteps := 1000000 }) (disch := first | exact Nat.le_of_ble_eq_true rfl | omega) only [AXS, AXB, J.dst, reduceIte, Nat.reduceEqDiff, Nat.reduceAdd, Nat.reduceMul, Nat.reduceLT, Nat.reduceLeDiff, f36r0, f36r1, f36r2, f36r3, f36r4, f36r5, f36r6, f36r7, f36r8])
      have : lightL ops most = true := by
        rw [hl, List.all_eq_true]
        intro x hx
        obtain ⟨j, hj, rfl⟩ := List.mem_iff_getElem.1 hx
        exact hok j _ (by omega) (List.getElem?_eq_getElem hj)
      rw [this] at hR
      exact hR
end Go.Proofs.Ytefghfgmkndikaa
/-
  Walks: whether there is anything yet.
-/
namespace Go.Proofs.Ytefghfgmkndikaa
open Go Go.AX

def kB : ByteArray := ⟨#[107]⟩
def xB : ByteArray := ⟨#[120]⟩
def w0 : Wri := ⟨kB, false, xB⟩
def l0 : Lck := ⟨⟨1, 0, 0, 0⟩, 0, ⟨5, 0⟩, false, noB⟩
def c0 : List Cell := [⟨kB, [], true, ⟨⟨1, 0, 0, 0⟩, 0, ⟨5, 0⟩, false, xB⟩⟩]
def d0 : List Cell := [⟨kB, [⟨⟨5, 0⟩, false, xB⟩], false, noLock⟩]
theorem bg1 : lockL [] w0 l0 = c0 := by rw [lockL_eq]; rfl
theorem bg2 : settleL c0 l0.by_ true = d0 := rfl
theorem s0 : Sorted c0 := List.pairwise_singleton _ _
theorem s1 : Sorted d0 := List.pairwise_singleton _ _
theorem bg3 (t : Stamp) : getK c0 kB t = (noB, false) := by rw [getK_eq s0]; rfl
theorem bg4 : getK d0 kB ⟨5, 0⟩ = (xB, true) := by rw [getK_eq s1]; rfl
theorem bg5 : mineL c0 l0.by_ = true := rfl
theorem bg6 : mineL d0 l0.by_ = false := rfl
theorem bg7 : MayP d0 := by
  intro i x hx
  cases i with
  | zero =>
    cases hx
    refine ⟨⟨fun y h => by omega, fun _ => rfl, fun _ => by simp, fun h => by cases h⟩, ?_⟩
    intro k v hv
    cases k with
    | zero => cases hv; exact ⟨fun u h => by omega, fun h => by cases h⟩
    | succ k => cases hv
  | succ i => cases hx

theorem OwnC.len {lo : Nat} {h : Heap} {a : Option Addr} {n c : Nat} {cs : List Cell} (O : OwnC lo h a n c cs) : n = cs.length := by obtain ⟨_, _, h, _⟩ := O; exact h

theorem begun_ok (h : Heap) {R : Value → Heap → Prop} (hR : ∀ h', Ext h h' → R (.bool true) h') : CallsH Try.prog 35 [] h R := by
  have hbig : big = 1000000 := rfl
  refine f35ok (by simp) ?_
  (try simp (config := { maxSteps := 1000000 }) (disch := first | exact Nat.le_of_ble_eq_true rfl | omega) only [AXS, AXB, J.dst, reduceIte, Nat.reduceEqDiff, Nat.reduceAdd, Nat.reduceMul, Nat.reduceLT, Nat.reduceLeDiff]); rw [f35c0_eq]; (try simp (config := { maxSteps := 1000000 }) (disch := first | exact Nat.le_of_ble_eq_true rfl | omega) only [AXS, AXB, J.dst, reduceIte, Nat.reduceEqDiff, Nat.reduceAdd, Nat.reduceMul, Nat.reduceLT, Nat.reduceLeDiff, f35r0, f35r1, f35r2, f35r3, f35r4, f35r5, f35r6]); rw [f35c1_eq]; (try simp (config := { maxSteps := 1000000 }) (disch := first | exact Nat.le_of_ble_eq_true rfl | omega) only [AXS, AXB, J.dst, reduceIte, Nat.reduceEqDiff, Nat.reduceAdd, Nat.reduceMul, Nat.reduceLT, Nat.reduceLeDiff, f35r0, f35r1, f35r2, f35r3, f35r4, f35r5, f35r6])
  refine wL_newN ?_; rintro b1 h1 e1 s1' hb1 B1
  try simp (config := { maxSteps := 1000000 }) (disch := first | exact Nat.le_of_ble_eq_true rfl | omega) only [AXS, AXB, J.dst, reduceIte, Nat.reduceEqDiff, Nat.reduceAdd, Nat.reduceMul, Nat.reduceLT, Nat.reduceLeDiff]
  refine wL_stN rfl rfl rfl B1 (by decide) (one_lck l0) ?_; rintro h2 u2 (B2 : Blk _ _ _ (eLck l0))
  have e2 := u2.ext e1 (by omega)
  (try simp (config := { maxSteps := 1000000 }) (disch := first | exact Nat.le_of_ble_eq_true rfl | omega) only [AXS, AXB, J.dst, reduceIte, Nat.reduceEqDiff, Nat.reduceAdd, Nat.reduceMul, Nat.reduceLT, Nat.reduceLeDiff]); rw [f35c2_eq]; (try simp (config := { maxSteps := 1000000 }) (disch := first | exact Nat.le_of_ble_eq_true rfl | omega) only [AXS, AXB, J.dst, reduceIte, Nat.reduceEqDiff, Nat.reduceAdd, Nat.reduceMul, Nat.reduceLT, Nat.reduceLeDiff, f35r0, f35r1, f35r2, f35r3, f35r4, f35r5, f35r6, B2.rd, B2.cel])
  refine lock_ok (B := fun _ => True) (a := none) [] w0 l0 _ SlC.nil .nil (by simp [hbig]) (by simp) ?_
  rw [bg1]
  intro a3 n3 c3 h3 O3 e3
  refine ⟨trivial, ?_⟩
  try simp (config := { maxSteps := 1000000 }) (disch := first | exact Nat.le_of_ble_eq_true rfl | omega) only [AXS, AXB, J.dst, reduceIte, Nat.reduceEqDiff, Nat.reduceAdd, Nat.reduceMul, Nat.reduceLT, Nat.reduceLeDiff]
  have hn3 := OwnC.len O3
  subst hn3
  (try simp (config := { maxSteps := 1000000 }) (disch := first | exact Nat.le_of_ble_eq_true rfl | omega) only [AXS, AXB, J.dst, reduceIte, Nat.reduceEqDiff, Nat.reduceAdd, Nat.reduceMul, Nat.reduceLT, Nat.reduceLeDiff]); rw [f35c3_eq]; (try simp (config := { maxSteps := 1000000 }) (disch := first | exact Nat.le_of_ble_eq_true rfl | omega) only [AXS, AXB, J.dst, reduceIte, Nat.reduceEqDiff, Nat.reduceAdd, Nat.reduceMul, Nat.reduceLT, Nat.reduceLeDiff, f35r0, f35r1, f35r2, f35r3, f35r4, f35r5, f35r6])
  refine get_ok c0 kB ⟨9, 0⟩ _ O3.slc s0 (by decide) (by intro c hc; cases hc with | head => decide | tail _ h => cases h) ?_
  rw [bg3]
  intro h4 e4
  refine ⟨trivial, ?_⟩
  have O4 := O3.ext e4
  have B4 := (B2.ext e3).ext e4
  try simp (config := { maxSteps := 1000000 }) (disch := first | exact Nat.le_of_ble_eq_true rfl | omega) only [AXS, AXB, J.dst, reduceIte, Nat.reduceEqDiff, Nat.reduceAdd, Nat.reduceMul, Nat.reduceLT, Nat.reduceLeDiff]
  (try simp (config := { maxSteps := 1000000 }) (disch := first | exact Nat.le_of_ble_eq_true rfl | omega) only [AXS, AXB, J.dst, reduceIte, Nat.reduceEqDiff, Nat.reduceAdd, Nat.reduceMul, Nat.reduceLT, Nat.reduceLeDiff]); rw [f35c4_eq]; (try simp (config := { maxSteps := 1000000 }) (disch := first | exact Nat.le_of_ble_eq_true rfl | omega) only [AXS, AXB, J.dst, reduceIte, Nat.reduceEqDiff, Nat.reduceAdd, Nat.reduceMul, Nat.reduceLT, Nat.reduceLeDiff, f35r0, f35r1, f35r2, f35r3, f35r4, f35r5, f35r6, B4.rd, eLck])
  refine settle_ok c0 l0.by_ true _ O4.slc (by decide) (by intro c hc; cases hc with | head => decide | tail _ h => cases h) ?_
  rw [bg2]
  intro a5 n5 c5 h5 O5 e5
  refine ⟨trivial, ?_⟩
  try simp (config := { maxSteps := 1000000 }) (disch := first | exact Nat.le_of_ble_eq_true rfl | omega) only [AXS, AXB, J.dst, reduceIte, Nat.reduceEqDiff, Nat.reduceAdd, Nat.reduceMul, Nat.reduceLT, Nat.reduceLeDiff]
  have hn5 := OwnC.len O5
  subst hn5
  (try simp (config := { maxSteps := 1000000 }) (disch := first | exact Nat.le_of_ble_eq_true rfl | omega) only [AXS, AXB, J.dst, reduceIte, Nat.reduceEqDiff, Nat.reduceAdd, Nat.reduceMul, Nat.reduceLT, Nat.reduceLeDiff]); rw [f35c5_eq]; (try simp (config := { maxSteps := 1000000 }) (disch := first | exact Nat.le_of_ble_eq_true rfl | omega) only [AXS, AXB, J.dst, reduceIte, Nat.reduceEqDiff, Nat.reduceAdd, Nat.reduceMul, Nat.reduceLT, Nat.reduceLeDiff, f35r0, f35r1, f35r2, f35r3, f35r4, f35r5, f35r6])
  refine get_ok d0 kB ⟨5, 0⟩ _ O5.slc s1 (by decide) (by intro c hc; cases hc with | head => decide | tail _ h => cases h) ?_
  rw [bg4]
  intro h6 e6
  refine ⟨trivial, ?_⟩
  have O6 := O4.ext (e5.trans e6)
  have P6 := O5.ext e6
  have B6 := B4.ext (e5.trans e6)
  try simp (config := { maxSteps := 1000000 }) (disch := first | exact Nat.le_of_ble_eq_true rfl | omega) only [AXS, AXB, J.dst, reduceIte, Nat.reduceEqDiff, Nat.reduceAdd, Nat.reduceMul, Nat.reduceLT, Nat.reduceLeDiff]
  (try simp (config := { maxSteps := 1000000 }) (disch := first | exact Nat.le_of_ble_eq_true rfl | omega) only [AXS, AXB, J.dst, reduceIte, Nat.reduceEqDiff, Nat.reduceAdd, Nat.reduceMul, Nat.reduceLT, Nat.reduceLeDiff]); rw [f35c6_eq]; (try simp (config := { maxSteps := 1000000 }) (disch := first | exact Nat.le_of_ble_eq_true rfl | omega) only [AXS, AXB, J.dst, reduceIte, Nat.reduceEqDiff, Nat.reduceAdd, Nat.reduceMul, Nat.reduceLT, Nat.reduceLeDiff, f35r0, f35r1, f35r2, f35r3, f35r4, f35r5, f35r6])
  simp (config := { maxSteps := 1000000 }) (disch := first | exact Nat.le_of_ble_eq_true rfl | omega) only [AXJ, AXS, AXB, J.dst, reduceIte, Nat.reduceEqDiff, Nat.reduceAdd, Nat.reduceMul, Nat.reduceLT, Nat.reduceLeDiff, f35r6a, show (xB.toList == ByteArray.toList ⟨#[120]⟩) = true from by rw [keq_iff]; rfl]
  simp (config := { maxSteps := 1000000 }) (disch := first | exact Nat.le_of_ble_eq_true rfl | omega) only [AXJ, AXS, AXB, J.dst, reduceIte, Nat.reduceEqDiff, Nat.reduceAdd, Nat.reduceMul, Nat.reduceLT, Nat.reduceLeDiff, f35r6b, B6.rd, eLck]
  refine mine_ok c0 l0.by_ _ O6.slc (by decide) ?_
  rw [bg5]
  intro h7 e7
  refine ⟨trivial, ?_⟩
  simp (config := { maxSteps := 1000000 }) (disch := first | exact Nat.le_of_ble_eq_true rfl | omega) only [AXJ, AXS, AXB, J.dst, reduceIte, Nat.reduceEqDiff, Nat.reduceAdd, Nat.reduceMul, Nat.reduceLT, Nat.reduceLeDiff, f35r6c, (B6.ext e7).rd, eLck]
  refine mine_ok d0 l0.by_ _ (P6.ext e7).slc (by decide) ?_
  rw [bg6]
  intro h8 e8
  refine ⟨trivial, ?_⟩
  simp (config := { maxSteps := 1000000 }) (disch := first | exact Nat.le_of_ble_eq_true rfl | omega) only [AXJ, AXS, AXB, J.dst, reduceIte, Nat.reduceEqDiff, Nat.reduceAdd, Nat.reduceMul, Nat.reduceLT, Nat.reduceLeDiff, f35r6d]
  refine may_ok d0 _ (P6.ext (e7.trans e8)).slc (by decide) (by intro c hc; cases hc with | head => decide | tail _ h => cases h) ?_
  intro b hb h9 e9
  rw [hb.2 bg7]
  refine ⟨trivial, ?_⟩
  simp (config := { maxSteps := 1000000 }) (disch := first | exact Nat.le_of_ble_eq_true rfl | omega) only [AXJ, AXS, AXB, J.dst, reduceIte, Nat.reduceEqDiff, Nat.reduceAdd, Nat.reduceMul, Nat.reduceLT, Nat.reduceLeDiff, f35r6e]
  exact hR _ (e2.trans (e3.trans (e4.trans (e5.trans (e6.trans (e7.trans (e8.trans e9)))))))
end Go.Proofs.Ytefghfgmkndikaa
/-
  Plain laws of runs: what any run of operations leaves may be, and is not too great.
-/
namespace Go.Proofs.Ytefghfgmkndikaa
open Go Go.AX

structure CellOk (c : Cell) : Prop where
  nolock : c.locked = false → c.lock = noLock
  some_ : c.locked = false → c.vers ≠ []
  ldata : c.lock.drop = true → c.lock.data = noB
  vs : VS c.vers
  vdata : ∀ v ∈ c.vers, v.drop = true → v.data = noB
structure Good (cs : List Cell) : Prop where
  sorted : Sorted cs
  ok : ∀ c ∈ cs, CellOk c
def Sz (n : Nat) (cs : List Cell) : Prop := cs.length ≤ n ∧ ∀ c ∈ cs, c.vers.length ≤ n

/-- Steps that hold between neighbours hold between all. -/
theorem pw_of_next {α : Type} {R : α → α → Prop} (tr : ∀ a b c, R a b → R b c → R a c) : ∀ l : List α, (∀ i x y, l[i]? = some x → l[i + 1]? = some y → R x y) → l.Pairwise R
  | [], _ => .nil
  | [a], _ => List.pairwise_singleton _ _
  | a :: b :: l, h => by
    have ih := pw_of_next tr (b :: l) (fun i x y hx hy => h (i + 1) x y (by simpa using hx) (by simpa using hy))
    have hab := h 0 a b rfl rfl
    refine List.pairwise_cons.2 ⟨?_, ih⟩
    intro x hx
    rcases List.mem_cons.1 hx with rfl | hx
    · exact hab
    · exact tr _ _ _ hab ((List.pairwise_cons.1 ih).1 x hx)
theorem next_of_pw {α : Type} {R : α → α → Prop} {l : List α} (h : l.Pairwise R) {i : Nat} {x y : α} (hx : l[i]? = some x) (hy : l[i + 1]? = some y) : R x y := by
  obtain ⟨h1, rfl⟩ := List.getElem?_eq_some_iff.1 hx
  obtain ⟨h2, rfl⟩ := List.getElem?_eq_some_iff.1 hy
  exact List.pairwise_iff_getElem.1 h i (i + 1) h1 h2 (by omega)
theorem mayP_iff (cs : List Cell) : MayP cs ↔ Good cs := by
  constructor
  · intro h
    refine ⟨pw_of_next (R := fun a b : Cell => klt a.key b.key = true) (fun _ _ _ => klt_trans) cs ?_, ?_⟩
    · intro i x y hx hy
      exact (h (i + 1) y hy).1.1 x (by omega) (by simpa using hx)
    · intro c hc
      obtain ⟨i, hi, rfl⟩ := List.mem_iff_getElem.1 hc
      obtain ⟨h1, h2⟩ := h i _ (List.getElem?_eq_getElem hi)
      refine ⟨h1.2.1, h1.2.2.1, h1.2.2.2, pw_of_next (R := fun a b : Ver => Stamp.lt a.at_ b.at_ = true) (fun _ _ _ => Stamp.lt_trans) _ ?_, ?_⟩
      · intro k x y hx hy
        exact (h2 (k + 1) y hy).1 x (by omega) (by simpa using hx)
      · intro v hv
        obtain ⟨k, hk, rfl⟩ := List.mem_iff_getElem.1 hv
        exact (h2 k _ (List.getElem?_eq_getElem hk)).2
  · intro h i x hx
    have ho := h.ok x (List.mem_of_getElem? hx)
    refine ⟨⟨?_, ho.nolock, ho.some_, ho.ldata⟩, ?_⟩
    · intro y hp hy
      exact next_of_pw h.sorted hy (by rw [show i - 1 + 1 = i by omega]; exact hx)
    · intro k v hv
      refine ⟨?_, ho.vdata v (List.mem_of_getElem? hv)⟩
      intro u hp hu
      exact next_of_pw ho.vs hu (by rw [show k - 1 + 1 = k by omega]; exact hv)

theorem Good.nil : Good [] := ⟨.nil, by simp⟩
theorem Sz.nil (n : Nat) : Sz n [] := ⟨by simp, by simp⟩
theorem Sz.mono {n m : Nat} {cs : List Cell} (h : Sz n cs) (hm : n ≤ m) : Sz m cs := ⟨Nat.le_trans h.1 hm, fun c hc => Nat.le_trans (h.2 c hc) hm⟩

/-! ### Lock -/
theorem lkW_data (w : Wri) (l : Lck) : (lkW w l).drop = true → (lkW w l).data = noB := by
  intro h
  have : w.drop = true := h
  simp [lkW, this]
theorem lock_good {cs : List Cell} (w : Wri) (l : Lck) (h : Good cs) : Good (lockL cs w l) := by
  rw [lockL_eq]
  refine ⟨lockR_sorted w l h.sorted, ?_⟩
  intro d hd
  rcases mem_lockR hd with ⟨h1, h2, h3, h4⟩ | hd
  · have hv : VS d.vers ∧ ∀ v ∈ d.vers, v.drop = true → v.data = noB := by
      rcases h4 with h4 | ⟨c, hc, _, h4⟩
      · rw [h4]; exact ⟨.nil, by simp⟩
      · rw [h4]; exact ⟨(h.ok c hc).vs, (h.ok c hc).vdata⟩
    exact ⟨fun e => (by rw [h2] at e; cases e), fun e => (by rw [h2] at e; cases e), (by rw [h3]; exact lkW_data w l), hv.1, hv.2⟩
  · exact h.ok d hd
theorem lock_sz {n : Nat} {cs : List Cell} (w : Wri) (l : Lck) (h : Sz n cs) : Sz (n + 1) (lockL cs w l) := by
  rw [lockL_eq]
  refine ⟨Nat.le_trans (lockR_len w l cs) (by have := h.1; omega), ?_⟩
  intro d hd
  rcases mem_lockR hd with ⟨h1, h2, h3, h4⟩ | hd
  · rcases h4 with h4 | ⟨c, hc, _, h4⟩
    · rw [h4]; simp
    · rw [h4]; have := h.2 c hc; omega
  · have := h.2 d hd; omega

/-! ### Settle -/
theorem settleC_ok {by_ : Try4} {yes : Bool} {c d : Cell} (h : CellOk c) (hd : leftC (settleC by_ yes c) = some d) : CellOk d := by
  obtain ⟨rfl, hl⟩ := leftC_some hd
  unfold settleC at hl ⊢
  split
  · rename_i hm
    rw [if_pos hm] at hl
    simp only at hl
    refine ⟨fun _ => rfl, fun _ => ?_, fun e => (by cases e), ?_, ?_⟩
    · rcases hl with hl | hl
      · cases hl
      · exact hl
    · show VS (if yes = true then putV c.vers (verL c.lock) else c.vers)
      split
      · rw [putV_eq _ h.vs]; exact insR_vs _ h.vs
      · exact h.vs
    · show ∀ v ∈ (if yes = true then putV c.vers (verL c.lock) else c.vers), _
      split
      · rw [putV_eq _ h.vs]
        intro v hv
        rcases mem_insR hv with rfl | hv
        · exact h.ldata
        · exact h.vdata v hv
      · exact h.vdata
  · exact h
theorem filterMap_ok {f : Cell → Option Cell} {cs : List Cell} (hf : ∀ c ∈ cs, ∀ d, f c = some d → CellOk d) : ∀ d ∈ cs.filterMap f, CellOk d := by
  intro d hd
  obtain ⟨c, hc, hcd⟩ := List.mem_filterMap.1 hd
  exact hf c hc d hcd
theorem settle_good {cs : List Cell} (by_ : Try4) (yes : Bool) (h : Good cs) : Good (settleL cs by_ yes) :=
  ⟨(settle_KP by_ yes).sorted h.sorted, filterMap_ok fun c hc d hd => settleC_ok (h.ok c hc) hd⟩
theorem settle_sz {n : Nat} {cs : List Cell} (by_ : Try4) (yes : Bool) (g : Good cs) (h : Sz n cs) : Sz (n + 1) (settleL cs by_ yes) := by
  refine ⟨Nat.le_trans (List.length_filterMap_le _ _) (by have := h.1; omega), ?_⟩
  intro d hd
  obtain ⟨c, hc, hcd⟩ := List.mem_filterMap.1 hd
  obtain ⟨rfl, _⟩ := leftC_some hcd
  have hn := h.2 c hc
  unfold settleC
  split
  · show (if yes = true then putV c.vers (verL c.lock) else c.vers).length ≤ n + 1
    split
    · rw [putV_eq _ (g.ok c hc).vs]
      have := insR_len (verL c.lock) c.vers
      omega
    · omega
  · omega

/-! ### Trim -/
theorem trimC_ok {t : Stamp} {c d : Cell} (h : CellOk c) (hd : leftC (trimC t c) = some d) : CellOk d := by
  obtain ⟨rfl, hl⟩ := leftC_some hd
  refine ⟨h.nolock, ?_, h.ldata, vs_drop h.vs _, fun v hv => h.vdata v (List.mem_of_mem_drop hv)⟩
  intro e
  rcases hl with hl | hl
  · rw [e] at hl; cases hl
  · exact hl
theorem trim_good {cs : List Cell} (t : Stamp) (h : Good cs) : Good (trimL cs t) :=
  ⟨(trim_KP t).sorted h.sorted, filterMap_ok fun c hc d hd => trimC_ok (h.ok c hc) hd⟩
theorem trim_sz {n : Nat} {cs : List Cell} (t : Stamp) (h : Sz n cs) : Sz n (trimL cs t) := by
  refine ⟨Nat.le_trans (List.length_filterMap_le _ _) h.1, ?_⟩
  intro d hd
  obtain ⟨c, hc, hcd⟩ := List.mem_filterMap.1 hd
  obtain ⟨rfl, _⟩ := leftC_some hcd
  have hn := h.2 c hc
  show (c.vers.drop _).length ≤ n
  rw [List.length_drop]; omega

/-! ### Runs -/
theorem do_good {cs : List Cell} (o : Op8) (h : Good cs) : Good (doL cs o) := by
  unfold doL
  split
  · exact lock_good _ _ h
  · split
    · exact settle_good _ _ h
    · exact trim_good _ h
theorem do_sz {n : Nat} {cs : List Cell} (o : Op8) (g : Good cs) (h : Sz n cs) : Sz (n + 1) (doL cs o) := by
  unfold doL
  split
  · exact lock_sz _ _ h
  · split
    · exact settle_sz _ _ g h
    · exact (trim_sz _ h).mono (by omega)
def runL (ops : List Op8) : List Cell := ops.foldl doL []
theorem runL_snoc (ops : List Op8) (o : Op8) : runL (ops ++ [o]) = doL (runL ops) o := by unfold runL; rw [List.foldl_append]; rfl
theorem runL_take {ops : List Op8} {k : Nat} {o : Op8} (h : ops[k]? = some o) : runL (ops.take (k + 1)) = doL (runL (ops.take k)) o := by
  rw [List.take_add_one, h, Option.toList_some, runL_snoc]
theorem fold_good (ops : List Op8) : ∀ (n : Nat) (cs : List Cell), Good cs → Sz n cs → Good (ops.foldl doL cs) ∧ Sz (n + ops.length) (ops.foldl doL cs) := by
  induction ops with
  | nil => intro n cs g s; exact ⟨g, s⟩
  | cons o ops ih =>
    intro n cs g s
    have := ih (n + 1) (doL cs o) (do_good o g) (do_sz o g s)
    rw [List.foldl_cons, List.length_cons]
    exact ⟨this.1, this.2.mono (by omega)⟩
theorem runL_good (ops : List Op8) : Good (runL ops) ∧ Sz ops.length (runL ops) := by
  have := fold_good ops 0 [] Good.nil (Sz.nil 0)
  rw [Nat.zero_add] at this
  exact this

/-! ### What is told behind it -/
theorem cellK_lock {cs : List Cell} (g : Good cs) (w : Wri) (l : Lck) (k : ByteArray) :
    cellK (lockL cs w l) k = if k = w.key then some ⟨w.key, versO (cellK cs w.key), true, lkW w l⟩ else cellK cs k := by
  rw [lockL_eq, cellK_lockR w l k g.sorted]
theorem cellK_settle {cs : List Cell} (g : Good cs) (by_ : Try4) (yes : Bool) (k : ByteArray) : cellK (settleL cs by_ yes) k = (cellK cs k).bind fun c => leftC (settleC by_ yes c) :=
  (settle_KP by_ yes).cell_ k g.sorted
theorem cellK_trim {cs : List Cell} (g : Good cs) (t : Stamp) (k : ByteArray) : cellK (trimL cs t) k = (cellK cs k).bind fun c => leftC (trimC t c) :=
  (trim_KP t).cell_ k g.sorted
theorem mineL_false {cs : List Cell} {by_ : Try4} (h : mineL cs by_ = false) {c : Cell} (hc : c ∈ cs) : (c.locked && decide (c.lock.by_ = by_)) = false := by
  unfold mineL at h
  rw [List.any_eq_false] at h
  simpa using h c hc
theorem settleC_not {by_ : Try4} {yes : Bool} {c : Cell} (h : (c.locked && decide (c.lock.by_ = by_)) = false) : settleC by_ yes c = c := by
  unfold settleC; rw [h]; rfl
/-- What a cell that may go tells. -/
def tellC (o : Option Cell) (t : Stamp) : ByteArray × Bool := match o with | some c => tellV c.vers t | none => (noB, false)
theorem getK_tell {cs : List Cell} (g : Good cs) (k : ByteArray) (t : Stamp) : getK cs k t = tellC (cellK cs k) t := getK_eq g.sorted k t
theorem tellC_left (c : Cell) (t : Stamp) : tellC (leftC c) t = tellV c.vers t := by
  by_cases h : c.locked = true ∨ c.vers ≠ []
  · rw [leftC_of h]; rfl
  · simp only [not_or, Decidable.not_not, Bool.not_eq_true] at h
    rw [leftC_not h.1 h.2, h.2]; rfl

theorem past_cell {cs : List Cell} (g : Good cs) (w : Wri) (l : Lck) (yes : Bool) (t : Stamp) :
    getK (settleL (lockL cs w l) l.by_ yes) w.key t = tellV (if yes then insR (verL (lkW w l)) (versO (cellK cs w.key)) else versO (cellK cs w.key)) t := by
  have g2 := lock_good w l g
  have g3 := settle_good l.by_ yes g2
  have hvs : VS (versO (cellK cs w.key)) := by
    cases h : cellK cs w.key with
    | none => exact .nil
    | some c => exact (g.ok c (cellK_key h).2).vs
  rw [getK_tell g3, cellK_settle g2, cellK_lock g, if_pos rfl, Option.bind_some, tellC_left]
  unfold settleC
  have : ((lkW w l).by_ = l.by_) := rfl
  simp only [this, decide_true, Bool.and_self, if_true]
  cases yes with
  | false => rfl
  | true => simp only [if_true]; rw [putV_eq _ hvs]
theorem past_same {cs : List Cell} (g : Good cs) (w : Wri) (l : Lck) (yes : Bool) (t : Stamp) (h : Stamp.lt t l.at_ = true ∨ yes = false) :
    getK (settleL (lockL cs w l) l.by_ yes) w.key t = getK cs w.key t := by
  rw [past_cell g, getK_tell g]
  have e : tellC (cellK cs w.key) t = tellV (versO (cellK cs w.key)) t := by
    cases cellK cs w.key <;> rfl
  rw [e]
  rcases h with h | rfl
  · split
    · rw [tellV_eq, tellV_eq]; exact tell_ahead h _ _
    · rfl
  · rfl
theorem past_told {cs : List Cell} (g : Good cs) (w : Wri) (l : Lck) : getK (settleL (lockL cs w l) l.by_ true) w.key l.at_ = if w.drop then (noB, false) else (w.data, true) := by
  have hvs : VS (versO (cellK cs w.key)) := by
    cases h : cellK cs w.key with
    | none => exact .nil
    | some c => exact (g.ok c (cellK_key h).2).vs
  rw [past_cell g, if_pos rfl, tellV_eq]
  have := tell_at (v := verL (lkW w l)) (noB, false) hvs
  have e : (verL (lkW w l)).at_ = l.at_ := rfl
  rw [e] at this
  rw [this]
  unfold valV verL lkW
  cases w.drop <;> rfl

/-! ### Other keys -/
def heldK (cs : List Cell) (key : ByteArray) : Lck × Bool := match cellK cs key with | some c => if c.locked then (c.lock, true) else (noLock, false) | none => (noLock, false)
theorem apart_get {cs : List Cell} (g : Good cs) (w : Wri) (l : Lck) (yes : Bool) (key : ByteArray) (t : Stamp) (hm : mineL cs l.by_ = false) (hk : key ≠ w.key) :
    getK (settleL (lockL cs w l) l.by_ yes) key t = getK cs key t := by
  have g2 := lock_good w l g
  rw [getK_tell (settle_good l.by_ yes g2), cellK_settle g2, cellK_lock g, if_neg hk, getK_tell g]
  cases h : cellK cs key with
  | none => rfl
  | some c =>
    rw [Option.bind_some, settleC_not (mineL_false hm (cellK_key h).2), tellC_left]; rfl
theorem apart_held {cs : List Cell} (g : Good cs) (w : Wri) (l : Lck) (key : ByteArray) (hk : key ≠ w.key) : heldK (lockL cs w l) key = heldK cs key := by
  unfold heldK
  rw [cellK_lock g, if_neg hk]

/-! ### Two attempts in either order -/
theorem settleC_key (by_ : Try4) (yes : Bool) (c : Cell) : (settleC by_ yes c).key = c.key := by unfold settleC; split <;> rfl
theorem settle_other {a b : Try4} (hab : a ≠ b) (x y : Bool) (c : Cell) : settleC b y (settleC a x c) = settleC a x (settleC b y c) := by
  unfold settleC
  cases hl : c.locked with
  | false => simp [hl]
  | true =>
    by_cases ha : c.lock.by_ = a
    · have hb : ¬ c.lock.by_ = b := fun e => hab (ha.symm.trans e)
      simp [hl, ha, hab]
    · by_cases hb : c.lock.by_ = b
      · simp [hl, hb, Ne.symm hab]
      · simp [hl, ha, hb]
theorem settle_twice (a : Try4) (x y : Bool) (c : Cell) : settleC a y (settleC a x c) = settleC a x c := by
  unfold settleC
  split
  · simp
  · rfl
theorem settle_left (b : Try4) (y : Bool) (c : Cell) (h : CellOk c) : (leftC c).bind (fun c => leftC (settleC b y c)) = leftC (settleC b y c) := by
  have : c.locked = true ∨ c.vers ≠ [] := by
    cases hl : c.locked with
    | true => exact .inl rfl
    | false => exact .inr (h.some_ hl)
  rw [leftC_of this]; rfl
theorem left_settle {a : Try4} {x : Bool} {b : Try4} {y : Bool} {c : Cell} (h : CellOk c) : (leftC (settleC a x c)).bind (fun d => leftC (settleC b y d)) = leftC (settleC b y (settleC a x c)) := by
  cases hd : leftC (settleC a x c) with
  | some d => rw [(leftC_some hd).1]; rfl
  | none =>
    -- it is gone: not locked, without versions
    have hno : (settleC a x c).locked = false ∧ (settleC a x c).vers = [] := by
      unfold leftC at hd
      split at hd
      · cases hd
      · rename_i hn; simpa using hn
    have : settleC b y (settleC a x c) = settleC a x c := settleC_not (by rw [hno.1]; rfl)
    rw [this, hd]; rfl
theorem fm_congr {f g : Cell → Option Cell} : ∀ {l : List Cell}, (∀ c ∈ l, f c = g c) → l.filterMap f = l.filterMap g
  | [], _ => rfl
  | c :: l, h => by rw [List.filterMap_cons, List.filterMap_cons, h c (by simp), fm_congr fun d hd => h d (by simp [hd])]
theorem settle_turns {cs : List Cell} (g : Good cs) {a b : Try4} (hab : a ≠ b) (x y : Bool) : settleL (settleL cs a x) b y = settleL (settleL cs b y) a x := by
  unfold settleL
  rw [List.filterMap_filterMap, List.filterMap_filterMap]
  refine fm_congr fun c hc => ?_
  rw [left_settle (g.ok c hc), left_settle (g.ok c hc), settle_other hab]
theorem settle_again {cs : List Cell} (g : Good cs) (a : Try4) (x y : Bool) : settleL (settleL cs a x) a y = settleL cs a x := by
  unfold settleL
  rw [List.filterMap_filterMap]
  refine fm_congr fun c hc => ?_
  rw [left_settle (g.ok c hc), settle_twice]

/-! ### Locked and let go -/
theorem held_lock {cs : List Cell} (g : Good cs) (w : Wri) (l : Lck) : heldK (lockL cs w l) w.key = (lkW w l, true) := by
  unfold heldK
  rw [cellK_lock g, if_pos rfl]; rfl
theorem settle_none : ∀ {cs : List Cell} {by_ : Try4} {yes : Bool}, (∀ c ∈ cs, CellOk c) → (∀ c ∈ cs, (c.locked && decide (c.lock.by_ = by_)) = false) → settleL cs by_ yes = cs
  | [], _, _, _, _ => rfl
  | c :: cs, by_, yes, h1, h2 => by
    unfold settleL
    have hc := h1 c (by simp)
    have : c.locked = true ∨ c.vers ≠ [] := by
      cases hl : c.locked with
      | true => exact .inl rfl
      | false => exact .inr (hc.some_ hl)
    rw [List.filterMap_cons, settleC_not (h2 c (by simp)), leftC_of this]
    simp only
    congr 1
    exact settle_none (fun c hc => h1 c (by simp [hc])) (fun c hc => h2 c (by simp [hc]))
theorem lock_free (w : Wri) (l : Lck) : ∀ {cs : List Cell}, Good cs → (∀ c ∈ cs, (c.locked && decide (c.lock.by_ = l.by_)) = false) → (∀ c ∈ cs, c.key = w.key → c.locked = false) → settleL (lockR w l cs) l.by_ false = cs
  | [], _, _, _ => by
    unfold lockR settleL
    rw [List.filterMap_cons]
    have : leftC (settleC l.by_ false ⟨w.key, [], true, lkW w l⟩) = none := by
      unfold settleC
      simp [lkW, leftC]
    rw [this]; rfl
  | c :: cs, g, h2, h3 => by
    have gs : Good cs := ⟨(sorted_cons.1 g.sorted).2, fun c hc => g.ok c (by simp [hc])⟩
    have hc := g.ok c (by simp)
    have hleft : c.locked = true ∨ c.vers ≠ [] := by
      cases hl : c.locked with
      | true => exact .inl rfl
      | false => exact .inr (hc.some_ hl)
    unfold lockR
    split
    · have ih := lock_free w l gs (fun c hc => h2 c (by simp [hc])) (fun c hc => h3 c (by simp [hc]))
      unfold settleL at ih ⊢
      rw [List.filterMap_cons, settleC_not (h2 c (by simp)), leftC_of hleft]
      simp only
      rw [ih]
    · split
      · rename_i he
        have hl := h3 c (by simp) he
        have e1 : settleC l.by_ false { c with locked := true, lock := lkW w l } = c := by
          unfold settleC
          have : (lkW w l).by_ = l.by_ := rfl
          simp only [this, decide_true, Bool.and_self, if_true]
          have hn := hc.nolock hl
          cases c
          simp_all
        unfold settleL
        rw [List.filterMap_cons, e1, leftC_of hleft]
        simp only
        congr 1
        exact settle_none gs.ok (fun c hc => h2 c (by simp [hc]))
      · unfold settleL
        rw [List.filterMap_cons]
        have : leftC (settleC l.by_ false ⟨w.key, [], true, lkW w l⟩) = none := by
          unfold settleC
          simp [lkW, leftC]
        rw [this]
        exact settle_none g.ok h2
theorem lock_let_go {cs : List Cell} (g : Good cs) (w : Wri) (l : Lck) (hm : mineL cs l.by_ = false) (hh : (heldK cs w.key).2 = false) : settleL (lockL cs w l) l.by_ false = cs := by
  rw [lockL_eq]
  refine lock_free w l g (fun c hc => mineL_false hm hc) ?_
  intro c hc he
  have : cellK cs w.key = some c := by
    have hs := g.sorted
    clear g hm hh
    induction cs with
    | nil => simp at hc
    | cons d cs ih =>
      rw [cellK_cons]
      rcases List.mem_cons.1 hc with rfl | hc
      · rw [if_pos he]
      · have := klt_ne ((sorted_cons.1 hs).1 c hc)
        rw [if_neg (by rw [← he]; exact this)]
        exact ih hc (sorted_cons.1 hs).2
  unfold heldK at hh
  rw [this] at hh
  cases hl : c.locked with
  | false => rfl
  | true => simp [hl] at hh
end Go.Proofs.Ytefghfgmkndikaa
