/-
  Plain laws of cells: what locks, settlings and trims do to what is told. No program in sight.
-/
import Derived.Test.YtefghfgmkndikaaWH
set_option linter.unusedSimpArgs false
set_option linter.unusedVariables false
namespace Go.Proofs.Ytefghfgmkndikaa
open Go Go.AX

/-! ### Cells by key -/
/-- The cell of a key. -/
def cellK (cs : List Cell) (key : ByteArray) : Option Cell := cs.find? fun c => decide (c.key = key)
theorem cellK_nil (key : ByteArray) : cellK [] key = none := rfl
theorem cellK_cons (c : Cell) (cs : List Cell) (key : ByteArray) : cellK (c :: cs) key = if c.key = key then some c else cellK cs key := by
  unfold cellK
  rw [List.find?_cons]
  by_cases h : c.key = key
  · simp [h]
  · simp [h]
theorem cellK_key {cs : List Cell} {key : ByteArray} {c : Cell} (h : cellK cs key = some c) : c.key = key ∧ c ∈ cs := by
  unfold cellK at h
  exact ⟨by simpa using List.find?_some h, List.mem_of_find?_eq_some h⟩
theorem cellK_none {cs : List Cell} {key : ByteArray} (h : ∀ c ∈ cs, c.key ≠ key) : cellK cs key = none := by
  unfold cellK
  rw [List.find?_eq_none]
  intro c hc
  simpa using h c hc
theorem sorted_cons {c : Cell} {cs : List Cell} : Sorted (c :: cs) ↔ (∀ d ∈ cs, klt c.key d.key = true) ∧ Sorted cs := List.pairwise_cons
theorem lbK_cons (c : Cell) (cs : List Cell) (key : ByteArray) : lbK (c :: cs) key = if klt c.key key then lbK cs key + 1 else 0 := by
  unfold lbK
  rw [List.takeWhile_cons]
  split <;> simp
theorem hasK_cons (c : Cell) (cs : List Cell) (key : ByteArray) : hasK (c :: cs) key = if klt c.key key then hasK cs key else decide (c.key = key) := by
  unfold hasK
  rw [lbK_cons]
  split <;> rename_i h <;> split at h <;> simp_all
/-- A key is behind: it is not there. -/
theorem cellK_behind {c : Cell} {cs : List Cell} {key : ByteArray} (hs : Sorted (c :: cs)) (h : klt key c.key = true) : cellK (c :: cs) key = none := by
  refine cellK_none ?_
  intro d hd
  rcases List.mem_cons.1 hd with rfl | hd
  · exact (klt_ne h).symm
  · exact (klt_ne (klt_trans h ((sorted_cons.1 hs).1 d hd))).symm
theorem at_lb : ∀ {cs : List Cell} (key : ByteArray), Sorted cs → (match cs[lbK cs key]? with | some c => if c.key = key then some c else none | none => none) = cellK cs key
  | [], _, _ => rfl
  | c :: cs, key, hs => by
    rw [lbK_cons]
    by_cases h : klt c.key key = true
    · rw [if_pos h, cellK_cons, if_neg (klt_ne h)]
      simpa using at_lb key (sorted_cons.1 hs).2
    · rw [if_neg h]
      simp only [List.getElem?_cons_zero]
      by_cases he : c.key = key
      · rw [if_pos he, cellK_cons, if_pos he]
      · rw [if_neg he]
        rcases klt_total c.key key with h1 | h1 | h1
        · exact absurd h1 h
        · exact absurd h1 he
        · rw [cellK_behind hs h1]
theorem getK_eq {cs : List Cell} (hs : Sorted cs) (key : ByteArray) (t : Stamp) : getK cs key t = match cellK cs key with | some c => tellV c.vers t | none => (noB, false) := by
  rw [← at_lb key hs]
  unfold getK
  cases cs[lbK cs key]? with
  | none => rfl
  | some c =>
    by_cases h : c.key = key <;> simp [h]

/-! ### Lock -/
/-- The versions of a cell that may be. -/
def versO : Option Cell → List Ver
  | some c => c.vers
  | none => []
def lockR (w : Wri) (l : Lck) : List Cell → List Cell
  | [] => [⟨w.key, [], true, lkW w l⟩]
  | c :: cs => if klt c.key w.key then c :: lockR w l cs else if c.key = w.key then { c with locked := true, lock := lkW w l } :: cs else ⟨w.key, [], true, lkW w l⟩ :: c :: cs
theorem lockL_eq (w : Wri) (l : Lck) : ∀ cs : List Cell, lockL cs w l = lockR w l cs
  | [] => rfl
  | c :: cs => by
    have ih := lockL_eq w l cs
    unfold lockL lockR
    unfold lockL at ih
    rw [hasK_cons, lbK_cons]
    by_cases h : klt c.key w.key = true
    · simp only [if_pos h]
      rw [← ih]
      by_cases hk : hasK cs w.key = true
      · simp [hk]
      · simp [hk]
    · simp only [if_neg h]
      by_cases he : c.key = w.key
      · simp [he]
      · simp [he]
theorem findK_cons (c : Cell) (cs : List Cell) (key : ByteArray) : findK (c :: cs) key = if c.key = key then 0 else if findK cs key < 0 then -1 else findK cs key + 1 := by
  unfold findK
  rw [List.findIdx?_cons]
  by_cases h : c.key = key
  · simp [h]
  · simp only [h, decide_false, Bool.false_eq_true, if_false]
    cases cs.findIdx? (fun c => decide (c.key = key)) with
    | none => rfl
    | some i =>
      simp only [Option.map_some]
      rw [if_neg (by omega)]; omega
theorem findK_ge (cs : List Cell) (key : ByteArray) : -1 ≤ findK cs key := by
  unfold findK; split <;> omega
theorem findK_none {cs : List Cell} {key : ByteArray} (h : ∀ c ∈ cs, c.key ≠ key) : findK cs key = -1 := by
  unfold findK
  rw [List.findIdx?_eq_none_iff.2 (by intro x hx; simpa using h x hx)]
theorem findK_cell : ∀ (cs : List Cell) (key : ByteArray), (if findK cs key < 0 then none else cs[(findK cs key).toNat]?) = cellK cs key
  | [], _ => rfl
  | c :: cs, key => by
    have ih := findK_cell cs key
    have hg := findK_ge cs key
    rw [findK_cons, cellK_cons]
    by_cases h : c.key = key
    · simp [h]
    · simp only [if_neg h]
      rw [← ih]
      by_cases hn : findK cs key < 0
      · simp [hn]
      · simp only [if_neg hn]
        rw [if_neg (by omega)]
        obtain ⟨k, hk⟩ : ∃ k : Nat, findK cs key = k := ⟨(findK cs key).toNat, by omega⟩
        rw [hk]
        rw [show ((k : Int) + 1).toNat = k + 1 by omega]
        simp
theorem rgetK_eq (cs : List Cell) (key : ByteArray) (t : Stamp) : rgetK cs key t = match cellK cs key with | some c => tellV c.vers t | none => (noB, false) := by
  rw [← findK_cell]
  unfold rgetK
  by_cases hn : findK cs key < 0
  · simp [hn]
  · simp only [if_neg hn]
    have := findK_lt cs key
    rw [List.getElem?_eq_getElem (by omega), List.getD_eq_getElem?_getD, List.getElem?_eq_getElem (by omega)]
    simp
theorem rgetK_get {cs : List Cell} (hs : Sorted cs) (key : ByteArray) (t : Stamp) : getK cs key t = rgetK cs key t := by rw [getK_eq hs, rgetK_eq]
theorem rlockL_eq (w : Wri) (l : Lck) : ∀ {cs : List Cell}, Sorted cs → rlockL cs w l = lockR w l cs
  | [], _ => rfl
  | c :: cs, hs => by
    have ih := rlockL_eq w l (sorted_cons.1 hs).2
    have hg := findK_ge cs w.key
    unfold rlockL at ih ⊢
    unfold lockR
    rw [findK_cons, lbK_cons]
    by_cases h : klt c.key w.key = true
    · have hne := klt_ne h
      simp only [if_pos h, if_neg hne]
      rw [← ih]
      by_cases hn : findK cs w.key < 0
      · simp [hn]
      · simp only [if_neg hn]
        rw [if_neg (by omega)]
        obtain ⟨k, hk⟩ : ∃ k : Nat, findK cs w.key = k := ⟨(findK cs w.key).toNat, by omega⟩
        rw [hk, show ((k : Int) + 1).toNat = k + 1 by omega]
        simp
    · simp only [if_neg h]
      by_cases he : c.key = w.key
      · simp [he]
      · have hlt : klt w.key c.key = true := by
          rcases klt_total c.key w.key with h1 | h1 | h1
          · exact absurd h1 h
          · exact absurd h1 he
          · exact h1
        have : findK cs w.key = -1 := findK_none fun d hd => (klt_ne (klt_trans hlt ((sorted_cons.1 hs).1 d hd))).symm
        simp [he, this]
theorem mem_lockR {w : Wri} {l : Lck} : ∀ {cs : List Cell} {d : Cell}, d ∈ lockR w l cs → (d.key = w.key ∧ d.locked = true ∧ d.lock = lkW w l ∧ (d.vers = [] ∨ ∃ c ∈ cs, c.key = w.key ∧ d.vers = c.vers)) ∨ d ∈ cs
  | [], d, h => by
    simp only [lockR, List.mem_cons, List.not_mem_nil, or_false] at h
    subst h; exact .inl ⟨rfl, rfl, rfl, .inl rfl⟩
  | c :: cs, d, h => by
    unfold lockR at h
    split at h
    · rcases List.mem_cons.1 h with rfl | h
      · exact .inr (by simp)
      · rcases mem_lockR h with ⟨h1, h2, h3, h4⟩ | h1
        · refine .inl ⟨h1, h2, h3, h4.imp id ?_⟩
          rintro ⟨e, he, hk⟩; exact ⟨e, by simp [he], hk⟩
        · exact .inr (by simp [h1])
    · split at h
      · rename_i he
        rcases List.mem_cons.1 h with rfl | h
        · exact .inl ⟨he, rfl, rfl, .inr ⟨c, by simp, he, rfl⟩⟩
        · exact .inr (by simp [h])
      · rcases List.mem_cons.1 h with rfl | h
        · exact .inl ⟨rfl, rfl, rfl, .inl rfl⟩
        · exact .inr h
theorem lockR_len (w : Wri) (l : Lck) : ∀ cs : List Cell, (lockR w l cs).length ≤ cs.length + 1
  | [] => by simp [lockR]
  | c :: cs => by
    have := lockR_len w l cs
    unfold lockR
    split
    · simp; omega
    · split <;> simp
theorem lockR_key_ge {w : Wri} {l : Lck} {cs : List Cell} {d : Cell} (h : d ∈ lockR w l cs) : d.key = w.key ∨ d ∈ cs := (mem_lockR h).imp (·.1) id
theorem lockR_sorted (w : Wri) (l : Lck) : ∀ {cs : List Cell}, Sorted cs → Sorted (lockR w l cs)
  | [], _ => List.pairwise_singleton _ _
  | c :: cs, hs => by
    have h1 := sorted_cons.1 hs
    unfold lockR
    split
    · rename_i h
      refine sorted_cons.2 ⟨?_, lockR_sorted w l h1.2⟩
      intro d hd
      rcases lockR_key_ge hd with e | e
      · rw [e]; exact h
      · exact h1.1 d e
    · rename_i h
      split
      · exact sorted_cons.2 h1
      · rename_i he
        have hlt : klt w.key c.key = true := by
          rcases klt_total c.key w.key with k | k | k
          · exact absurd k h
          · exact absurd k he
          · exact k
        refine sorted_cons.2 ⟨?_, hs⟩
        intro d hd
        rcases List.mem_cons.1 hd with rfl | hd
        · exact hlt
        · exact klt_trans hlt (h1.1 d hd)
theorem cellK_lockR (w : Wri) (l : Lck) (k : ByteArray) : ∀ {cs : List Cell}, Sorted cs → cellK (lockR w l cs) k = if k = w.key then some ⟨w.key, versO (cellK cs w.key), true, lkW w l⟩ else cellK cs k
  | [], _ => by
    unfold lockR
    rw [cellK_cons, cellK_nil, cellK_nil]
    by_cases h : k = w.key
    · simp [h, versO]
    · simp [h, Ne.symm h]
  | c :: cs, hs => by
    have ih := cellK_lockR w l k (sorted_cons.1 hs).2
    unfold lockR
    split
    · rename_i h
      have hne := klt_ne h
      rw [cellK_cons, ih, cellK_cons, cellK_cons, if_neg hne]
      by_cases hk : k = w.key
      · subst hk; simp [hne]
      · simp only [if_neg hk]
    · rename_i h
      split
      · rename_i he
        rw [cellK_cons, cellK_cons, cellK_cons, if_pos he]
        by_cases hk : k = w.key
        · subst hk; simp [he, versO]
        · have : ¬ c.key = k := fun e => hk (by rw [← e, he])
          simp [hk, this]
      · rename_i he
        have hlt : klt w.key c.key = true := by
          rcases klt_total c.key w.key with k | k | k
          · exact absurd k h
          · exact absurd k he
          · exact k
        rw [cellK_behind hs hlt, cellK_cons]
        by_cases hk : k = w.key
        · subst hk; simp [versO]
        · simp [hk, Ne.symm hk]

/-! ### What keeps keys -/
theorem leftC_some {c d : Cell} (h : leftC c = some d) : d = c ∧ (c.locked = true ∨ c.vers ≠ []) := by
  unfold leftC at h
  split at h
  · rename_i hc; cases h; exact ⟨rfl, by simpa using hc⟩
  · cases h
theorem leftC_of {c : Cell} (h : c.locked = true ∨ c.vers ≠ []) : leftC c = some c := by
  unfold leftC; rw [if_pos (by simpa using h)]
theorem leftC_not {c : Cell} (h1 : c.locked = false) (h2 : c.vers = []) : leftC c = none := by
  unfold leftC; rw [if_neg (by simp [h1, h2])]
def KP (f : Cell → Option Cell) : Prop := ∀ c d, f c = some d → d.key = c.key
theorem KP.sorted {f : Cell → Option Cell} (hf : KP f) {cs : List Cell} (hs : Sorted cs) : Sorted (cs.filterMap f) := by
  refine List.Pairwise.filterMap f ?_ hs
  intro a a' h b hb b' hb'
  rw [hf a b hb, hf a' b' hb']; exact h
theorem KP.cell_ {f : Cell → Option Cell} (hf : KP f) (k : ByteArray) : ∀ {cs : List Cell}, Sorted cs → cellK (cs.filterMap f) k = (cellK cs k).bind f
  | [], _ => rfl
  | c :: cs, hs => by
    have ih := hf.cell_ k (sorted_cons.1 hs).2
    rw [List.filterMap_cons, cellK_cons]
    cases hc : f c with
    | none =>
      simp only
      rw [ih]
      by_cases h : c.key = k
      · rw [if_pos h, Option.bind_some, hc]
        rw [cellK_none (fun d hd => by rw [← h]; exact (klt_ne ((sorted_cons.1 hs).1 d hd)).symm)]; rfl
      · rw [if_neg h]
    | some d =>
      simp only
      rw [cellK_cons, hf c d hc, ih]
      by_cases h : c.key = k
      · rw [if_pos h, if_pos h, Option.bind_some, hc]
      · rw [if_neg h, if_neg h]
theorem settle_KP (by_ : Try4) (yes : Bool) : KP fun c => leftC (settleC by_ yes c) := by
  intro c d h
  rw [(leftC_some h).1]
  unfold settleC; split <;> rfl
theorem rsettle_KP (by_ : Try4) (yes : Bool) : KP fun c => leftC (rsettleC by_ yes c) := by
  intro c d h
  rw [(leftC_some h).1]
  unfold rsettleC; split <;> rfl
theorem trim_KP (t : Stamp) : KP fun c => leftC (trimC t c) := by
  intro c d h
  rw [(leftC_some h).1]; rfl

/-! ### Versions in their order -/
def VS (vs : List Ver) : Prop := vs.Pairwise fun a b => Stamp.lt a.at_ b.at_ = true
theorem vs_cons {u : Ver} {us : List Ver} : VS (u :: us) ↔ (∀ v ∈ us, Stamp.lt u.at_ v.at_ = true) ∧ VS us := List.pairwise_cons
theorem preV_cons (u : Ver) (us : List Ver) (t : Stamp) : preV (u :: us) t = if Stamp.lt t u.at_ then 0 else preV us t + 1 := by
  unfold preV
  rw [List.takeWhile_cons]
  cases Stamp.lt t u.at_ <;> simp
theorem preV_zero {us : List Ver} {t : Stamp} (h : ∀ v ∈ us, Stamp.lt t v.at_ = true) : preV us t = 0 := by
  cases us with
  | nil => rfl
  | cons u us => rw [preV_cons, if_pos (h u (by simp))]
theorem preV_at {t : Stamp} : ∀ {vs : List Ver} {p : Nat} {v : Ver}, p < preV vs t → vs[p]? = some v → Stamp.lt t v.at_ = false
  | [], p, v, h, _ => by simp [preV] at h
  | u :: us, p, v, h, hv => by
    rw [preV_cons] at h
    split at h
    · omega
    · rename_i hu
      cases p with
      | zero => simp at hv; subst hv; simpa using hu
      | succ p => exact preV_at (vs := us) (p := p) (by omega) (by simpa using hv)
theorem preV_after {t : Stamp} : ∀ {vs : List Ver}, VS vs → ∀ {p : Nat} {v : Ver}, preV vs t ≤ p → vs[p]? = some v → Stamp.lt t v.at_ = true
  | [], _, p, v, _, hv => by simp at hv
  | u :: us, hs, p, v, h, hv => by
    rw [preV_cons] at h
    have h1 := vs_cons.1 hs
    split at h
    · rename_i hu
      cases p with
      | zero => simp at hv; subst hv; exact hu
      | succ p => exact Stamp.lt_trans hu (h1.1 v (List.mem_of_getElem? (by simpa using hv)))
    · cases p with
      | zero => omega
      | succ p => exact preV_after h1.2 (vs := us) (p := p) (by omega) (by simpa using hv)
theorem lastK_of (vs : List Ver) (t : Stamp) (i : Nat) (hi : i ≤ vs.length) (h1 : ∀ p v, p < i → vs[p]? = some v → Stamp.lt t v.at_ = false) (h2 : ∀ p v, i ≤ p → vs[p]? = some v → Stamp.lt t v.at_ = true) :
    ∀ k, i ≤ k → k ≤ vs.length → lastK vs t k = (i : Int) - 1
  | 0, hk, _ => by have : i = 0 := by omega
                   subst this; rfl
  | k + 1, hk, hkl => by
    obtain ⟨v, hv⟩ := get_ex (l := vs) (k := k) (by omega)
    unfold lastK
    rw [getD_of hv]
    rcases Nat.lt_or_ge k i with hlt | hge
    · have : k + 1 = i := by omega
      rw [h1 k v hlt hv, if_neg (by simp)]; omega
    · rw [h2 k v hge hv, if_pos rfl, lastK_of vs t i hi h1 h2 k hge (by omega)]
theorem lastV_pre {vs : List Ver} (hs : VS vs) (t : Stamp) : lastV vs t = (preV vs t : Int) - 1 :=
  lastK_of vs t (preV vs t) (preV_le vs t) (fun _ _ h hv => preV_at h hv) (fun _ _ h hv => preV_after hs h hv) _ (preV_le vs t) (Nat.le_refl _)
theorem cutV_eq {vs : List Ver} (hs : VS vs) (t : Stamp) : cutV vs t = rcutV vs t := by
  unfold cutV rcutV
  rw [lastV_pre hs]
  generalize preV vs t = p
  cases p with
  | zero => simp
  | succ q =>
    rw [if_neg (by omega), show ((q + 1 : Nat) : Int) - 1 = q by omega]
    simp only [Int.toNat_natCast, Nat.zero_lt_succ, true_and, Nat.add_sub_cancel]
    cases (vs.getD q default).drop <;> simp
def insR (v : Ver) : List Ver → List Ver
  | [] => [v]
  | u :: us => if Stamp.lt u.at_ v.at_ then u :: insR v us else if u.at_ = v.at_ then v :: us else v :: u :: us
theorem putV_pre {vs : List Ver} (hs : VS vs) (v : Ver) : putV vs v = if 0 < preV vs v.at_ ∧ (vs.getD (preV vs v.at_ - 1) default).at_ = v.at_ then vs.set (preV vs v.at_ - 1) v else vs.take (preV vs v.at_) ++ [v] ++ vs.drop (preV vs v.at_) := by
  unfold putV
  rw [lastV_pre hs]
  generalize preV vs v.at_ = p
  cases p with
  | zero => simp
  | succ q =>
    rw [show ((q + 1 : Nat) : Int) - 1 = q by omega]
    have e : ((q : Int) + 1).toNat = q + 1 := by omega
    simp only [Int.toNat_natCast, Nat.zero_lt_succ, true_and, Nat.add_sub_cancel, e]
    congr 1
    simp
theorem putV_eq (v : Ver) : ∀ {vs : List Ver}, VS vs → putV vs v = insR v vs
  | [], _ => rfl
  | u :: us, hs => by
    have h1 := vs_cons.1 hs
    have ih := putV_eq v h1.2
    rw [putV_pre hs]
    rw [putV_pre h1.2] at ih
    rw [preV_cons]
    unfold insR
    by_cases h : Stamp.lt v.at_ u.at_ = true
    · have hn : Stamp.lt u.at_ v.at_ = false := Stamp.lt_asymm h
      have hne : ¬ u.at_ = v.at_ := by intro e; rw [e, Stamp.lt_irrefl] at h; cases h
      simp [h, hn, hne]
    · rw [if_neg h]
      by_cases he : u.at_ = v.at_
      · have hz : preV us v.at_ = 0 := preV_zero fun x hx => by rw [← he]; exact h1.1 x hx
        simp [hz, he, Stamp.lt_irrefl]
      · have hlt : Stamp.lt u.at_ v.at_ = true := by
          rcases Stamp.lt_total u.at_ v.at_ with k | k | k
          · exact k
          · exact absurd k he
          · exact absurd k h
        rw [if_pos hlt, ← ih]
        cases hp : preV us v.at_ with
        | zero => simp [he]
        | succ q =>
          simp only [Nat.zero_lt_succ, true_and, Nat.add_sub_cancel]
          simp only [List.getD_cons_succ, List.set_cons_succ, List.take_succ_cons, List.drop_succ_cons, List.cons_append]
          split <;> rfl
theorem wfold (v : Ver) : ∀ (vs : List Ver) (acc : List Ver), VS vs → (let r := vs.foldl (wStep v) (acc, false); if r.2 then r.1 else r.1 ++ [v]) = acc ++ insR v vs
  | [], acc, _ => by simp [insR]
  | u :: us, acc, hs => by
    have h1 := vs_cons.1 hs
    have after : ∀ (us : List Ver) (acc : List Ver), (∀ x ∈ us, x.at_ ≠ v.at_) → us.foldl (wStep v) (acc, true) = (acc ++ us, true) := by
      intro us
      induction us with
      | nil => intro acc _; simp
      | cons x us ih =>
        intro acc h
        rw [List.foldl_cons]
        have : wStep v (acc, true) x = (acc ++ [x], true) := by
          unfold wStep; simp [h x (by simp)]
        rw [this, ih _ (fun y hy => h y (by simp [hy]))]
        simp
    rw [List.foldl_cons]
    unfold insR
    by_cases hlt : Stamp.lt u.at_ v.at_ = true
    · have hne : ¬ u.at_ = v.at_ := by intro e; rw [e, Stamp.lt_irrefl] at hlt; cases hlt
      have : wStep v (acc, false) u = (acc ++ [u], false) := by unfold wStep; simp [hlt, hne]
      rw [this, wfold v us _ h1.2, if_pos hlt]
      simp
    · rw [if_neg hlt]
      by_cases he : u.at_ = v.at_
      · have : wStep v (acc, false) u = (acc ++ [v], true) := by unfold wStep; simp [hlt, he, Stamp.lt_irrefl]
        rw [this, after us _ (fun x hx e => by have := h1.1 x hx; rw [he, e, Stamp.lt_irrefl] at this; cases this), if_pos he]
        simp
      · have : wStep v (acc, false) u = (acc ++ [v] ++ [u], true) := by unfold wStep; simp [hlt, he]
        have hvu : Stamp.lt v.at_ u.at_ = true := by
          rcases Stamp.lt_total u.at_ v.at_ with k | k | k
          · exact absurd k hlt
          · exact absurd k he
          · exact k
        rw [this, after us _ (fun x hx e => by have := Stamp.lt_trans hvu (h1.1 x hx); rw [e, Stamp.lt_irrefl] at this; cases this), if_neg he]
        simp
theorem withV_eq (v : Ver) {vs : List Ver} (hs : VS vs) : withV vs v = insR v vs := by
  have := wfold v vs [] hs
  simpa [withV] using this
theorem mem_insR {v : Ver} : ∀ {vs : List Ver} {x : Ver}, x ∈ insR v vs → x = v ∨ x ∈ vs
  | [], x, h => by simpa [insR] using h
  | u :: us, x, h => by
    unfold insR at h
    split at h
    · rcases List.mem_cons.1 h with rfl | h
      · exact .inr (by simp)
      · rcases mem_insR h with h | h
        · exact .inl h
        · exact .inr (by simp [h])
    · split at h
      · rcases List.mem_cons.1 h with rfl | h
        · exact .inl rfl
        · exact .inr (by simp [h])
      · rcases List.mem_cons.1 h with rfl | h
        · exact .inl rfl
        · exact .inr h
theorem insR_len (v : Ver) : ∀ vs : List Ver, (insR v vs).length ≤ vs.length + 1
  | [] => by simp [insR]
  | u :: us => by
    have := insR_len v us
    unfold insR
    split
    · simp; omega
    · split <;> simp
theorem insR_ne (v : Ver) (vs : List Ver) : insR v vs ≠ [] := by
  cases vs with
  | nil => simp [insR]
  | cons u us => unfold insR; split <;> (try split) <;> simp
theorem insR_vs (v : Ver) : ∀ {vs : List Ver}, VS vs → VS (insR v vs)
  | [], _ => List.pairwise_singleton _ _
  | u :: us, hs => by
    have h1 := vs_cons.1 hs
    unfold insR
    split
    · rename_i h
      refine vs_cons.2 ⟨?_, insR_vs v h1.2⟩
      intro x hx
      rcases mem_insR hx with rfl | hx
      · exact h
      · exact h1.1 x hx
    · rename_i h
      split
      · rename_i he
        refine vs_cons.2 ⟨fun x hx => by rw [← he]; exact h1.1 x hx, h1.2⟩
      · rename_i he
        have hvu : Stamp.lt v.at_ u.at_ = true := by
          rcases Stamp.lt_total u.at_ v.at_ with k | k | k
          · exact absurd k h
          · exact absurd k he
          · exact k
        refine vs_cons.2 ⟨?_, hs⟩
        intro x hx
        rcases List.mem_cons.1 hx with rfl | hx
        · exact hvu
        · exact Stamp.lt_trans hvu (h1.1 x hx)

/-! ### What versions tell -/
def valV (v : Ver) : ByteArray × Bool := if v.drop then (noB, false) else (v.data, true)
def tellF (r : ByteArray × Bool) (vs : List Ver) (t : Stamp) : ByteArray × Bool := vs.foldl (fun r v => if Stamp.lt t v.at_ then r else valV v) r
theorem tellF_cons (r : ByteArray × Bool) (v : Ver) (vs : List Ver) (t : Stamp) : tellF r (v :: vs) t = tellF (if Stamp.lt t v.at_ then r else valV v) vs t := rfl
theorem tellF_append (r : ByteArray × Bool) (us vs : List Ver) (t : Stamp) : tellF r (us ++ vs) t = tellF (tellF r us t) vs t := List.foldl_append
theorem tellV_eq (vs : List Ver) (t : Stamp) : tellV vs t = tellF (noB, false) vs t := by
  have key : ∀ k, k ≤ vs.length → (if lastK vs t k < 0 then (noB, false) else let v := vs.getD (lastK vs t k).toNat default; if v.drop then (noB, false) else (v.data, true)) = tellF (noB, false) (vs.take k) t := by
    intro k
    induction k with
    | zero => intro _; simp [lastK, tellF]
    | succ k ih =>
      intro hk
      obtain ⟨v, hv⟩ := get_ex (l := vs) (k := k) (by omega)
      have ih := ih (by omega)
      rw [List.take_add_one, hv, Option.toList_some, tellF_append, ← ih]
      have el : lastK vs t (k + 1) = if Stamp.lt t v.at_ then lastK vs t k else (k : Int) := by
        rw [← getD_of hv]; rfl
      rw [el]
      by_cases h : Stamp.lt t v.at_ = true
      · rw [if_pos h]
        show _ = tellF _ [v] t
        rw [tellF_cons, if_pos h]; rfl
      · rw [if_neg h, if_neg (by omega)]
        show _ = tellF _ [v] t
        rw [tellF_cons, if_neg h]
        simp only [Int.toNat_natCast, getD_of hv]
        rfl
  have := key vs.length (Nat.le_refl _)
  rw [List.take_length] at this
  exact this
theorem tellF_none {t : Stamp} : ∀ {vs : List Ver} {r : ByteArray × Bool}, (∀ v ∈ vs, Stamp.lt t v.at_ = true) → tellF r vs t = r
  | [], _, _ => rfl
  | v :: vs, r, h => by
    rw [tellF_cons, if_pos (h v (by simp)), tellF_none fun x hx => h x (by simp [hx])]
theorem tell_ahead {v : Ver} {t : Stamp} (h : Stamp.lt t v.at_ = true) : ∀ (vs : List Ver) (r : ByteArray × Bool), tellF r (insR v vs) t = tellF r vs t
  | [], r => by simp [insR, tellF_cons, h]
  | u :: us, r => by
    unfold insR
    split
    · rw [tellF_cons, tellF_cons, tell_ahead h us]
    · split
      · rename_i he
        rw [tellF_cons, tellF_cons, he, if_pos h, if_pos h]
      · rw [tellF_cons, if_pos h]
theorem tell_at {v : Ver} : ∀ {vs : List Ver} (r : ByteArray × Bool), VS vs → tellF r (insR v vs) v.at_ = valV v
  | [], r, _ => by simp [insR, tellF, Stamp.lt_irrefl]
  | u :: us, r, hs => by
    have h1 := vs_cons.1 hs
    unfold insR
    split
    · rw [tellF_cons, tell_at _ h1.2]
    · rename_i h
      split
      · rename_i he
        rw [tellF_cons, Stamp.lt_irrefl, if_neg (by simp), tellF_none]
        intro x hx; rw [← he]; exact h1.1 x hx
      · rename_i he
        have hvu : Stamp.lt v.at_ u.at_ = true := by
          rcases Stamp.lt_total u.at_ v.at_ with k | k | k
          · exact absurd k h
          · exact absurd k he
          · exact k
        rw [tellF_cons, Stamp.lt_irrefl, if_neg (by simp), tellF_none]
        intro x hx
        rcases List.mem_cons.1 hx with rfl | hx
        · exact hvu
        · exact Stamp.lt_trans hvu (h1.1 x hx)

/-! ### Trim -/
theorem take_pre {vs : List Ver} {t : Stamp} {q : Nat} (h : preV vs t = q + 1) : ∃ u, vs[q]? = some u ∧ Stamp.lt t u.at_ = false ∧ vs.drop q = u :: vs.drop (q + 1) ∧ vs.take (q + 1) = vs.take q ++ [u] := by
  have hl := preV_le vs t
  obtain ⟨u, hu⟩ := get_ex (l := vs) (k := q) (by omega)
  refine ⟨u, hu, preV_at (by omega) hu, ?_, ?_⟩
  · have hq : q < vs.length := by omega
    rw [List.drop_eq_getElem_cons hq]
    rw [List.getElem?_eq_getElem hq] at hu
    cases hu; rfl
  · rw [List.take_add_one, hu]; rfl
theorem not_lt_trans {a b c : Stamp} (h : Stamp.lt b a = false) (k : Stamp.lt c b = false) : Stamp.lt c a = false := by
  cases hc : Stamp.lt c a with
  | false => rfl
  | true =>
    rcases Stamp.lt_total a b with x | x | x
    · rw [Stamp.lt_trans hc x] at k; cases k
    · subst x; rw [hc] at k; cases k
    · rw [x] at h; cases h
theorem tell_trim {vs : List Ver} {below t : Stamp} (hs : VS vs) (h : Stamp.lt t below = false) : tellV (vs.drop (cutV vs below)) t = tellV vs t := by
  rw [tellV_eq, tellV_eq, cutV_eq hs]
  unfold rcutV
  cases hp : preV vs below with
  | zero => simp
  | succ q =>
    obtain ⟨u, hu, h1, h2, h3⟩ := take_pre hp
    have hv : Stamp.lt t u.at_ = false := not_lt_trans h1 h
    have e : tellF (noB, false) vs t = tellF (valV u) (vs.drop (q + 1)) t := by
      conv => lhs; rw [← List.take_append_drop (q + 1) vs]
      rw [tellF_append, h3, tellF_append, tellF_cons, hv]; rfl
    simp only [Nat.zero_lt_succ, true_and, Nat.add_sub_cancel, getD_of hu]
    split
    · rw [h2, tellF_cons, hv, e]; rfl
    · rename_i hd
      have hd : u.drop = true := by simpa using hd
      rw [e]
      unfold valV
      rw [hd]; rfl
theorem preV_drop {t : Stamp} : ∀ {vs : List Ver} {k : Nat}, k ≤ preV vs t → preV (vs.drop k) t = preV vs t - k
  | vs, 0, _ => by simp
  | [], k + 1, h => by simp [preV] at h
  | u :: us, k + 1, h => by
    rw [preV_cons] at h ⊢
    split at h
    · omega
    · rename_i hu
      rw [if_neg hu, List.drop_succ_cons, preV_drop (by omega)]; omega
theorem rcut_twice (vs : List Ver) (t : Stamp) : rcutV (vs.drop (rcutV vs t)) t = 0 := by
  cases hp : preV vs t with
  | zero =>
    have e : rcutV vs t = 0 := by unfold rcutV; simp [hp]
    rw [e, List.drop_zero, e]
  | succ q =>
    obtain ⟨u, hu, h1, h2, h3⟩ := take_pre hp
    by_cases hd : u.drop = true
    · have e : rcutV vs t = q + 1 := by unfold rcutV; simp [hp, hu, hd]
      rw [e]
      unfold rcutV
      rw [preV_drop (by omega), hp]; simp
    · have e : rcutV vs t = q := by unfold rcutV; simp [hp, hu, hd]
      rw [e]
      unfold rcutV
      rw [preV_drop (by omega), hp, h2]
      simp [hd]
theorem vs_drop {vs : List Ver} (hs : VS vs) (k : Nat) : VS (vs.drop k) := hs.sublist (List.drop_sublist k vs)
theorem trimC_twice (t : Stamp) (c : Cell) (hs : VS c.vers) : trimC t (trimC t c) = trimC t c := by
  unfold trimC
  simp only
  rw [cutV_eq (vs_drop hs _), cutV_eq hs, rcut_twice, List.drop_zero]
end Go.Proofs.Ytefghfgmkndikaa
