/-
  The small instruction language: regions, code, functions.
-/
import Derived.Test.YtefghfgmkndikaaF5
set_option linter.unusedSimpArgs false
set_option linter.unusedVariables false
namespace Go.AX
open Go

/-- What is asked of an order in which a region that draws is gone through; fuel: how many operations may still come. -/
def ordOk (P : Program) (n : Nat) (ops : Array Oper) (fin : Nat → Array Bool → Bool) : Nat → Array Bool → List Nat → Bool
  | fuel, listed, [] => fin fuel listed
  | 0, _, _ :: _ => false
  | fuel + 1, listed, i :: r => (match (ops[i]?).bind (cmpJ P n) with
    | some j => if j.take then Region.free .any ops listed i && (Region.ready .any ops listed).contains i else decide (Region.ready .any ops listed = [i])
    | none => false) && ordOk P n ops fin fuel (listed.setIfInBounds i true) r
def allIn (ops : Array Oper) (_ : Nat) (listed : Array Bool) : Bool := (Region.ready .any ops listed).isEmpty
def drwOk (P : Program) (n : Nat) (ops : Array Oper) (ord : List Nat) : Bool :=
  P.follows .mixedOrders && Region.noSelect ops && ordOk P n ops (allIn ops) ops.size (Array.replicate ops.size false) ord

/-- The plan of a region with several orders. -/
inductive PL where
  | nil
  | one (st : List St) (r : PL)
  | alt (a b : PL)
def heads : PL → List Nat
  | .one (.o i :: _) _ => [i]
  | .alt a b => heads a ++ heads b
  | _ => []
def cmpT (P : Program) (n : Nat) (ops : Array Oper) : PL → Option L
  | .nil => some .nil
  | .one st r => (cmpL P n ops st).bind fun is => (cmpT P n ops r).map (.one is ·)
  | .alt a b => (cmpT P n ops a).bind fun x => (cmpT P n ops b).map (.alt x ·)
mutual
def treeOk (P : Program) (n : Nat) (ops : Array Oper) : PL → Nat → Array Bool → Bool
  | .nil, fuel, listed => allIn ops fuel listed
  | .one st r, fuel, listed => ordOk P n ops (treeOk P n ops r) fuel listed (ordOf st)
  | .alt a b, fuel, listed => !(Region.ready .any ops listed).isEmpty && ((Region.ready .any ops listed).all fun i => (heads a ++ heads b).contains i) && altOk P n ops a fuel listed && altOk P n ops b fuel listed
def altOk (P : Program) (n : Nat) (ops : Array Oper) : PL → Nat → Array Bool → Bool
  | .one (.o i :: st) r, fuel + 1, listed => ((ops[i]?).map fun o => o.guard.isNone).getD false && ordOk P n ops (treeOk P n ops r) fuel (listed.setIfInBounds i true) (ordOf st)
  | .alt a b, fuel, listed => altOk P n ops a fuel listed && altOk P n ops b fuel listed
  | _, _, _ => false
end
def drtOk (P : Program) (n : Nat) (ops : Array Oper) (t : PL) : Bool :=
  P.follows .mixedOrders && Region.noSelect ops && treeOk P n ops t ops.size (Array.replicate ops.size false)

/-- The plan of a region. -/
inductive RP where
  | l (st : List St)
  | t (p : PL)

def cmpC (P : Program) (n : Nat) : Code → List RP → Option (C × List RP)
  | .skip, pl => some (.skip, pl)
  | .region _ ops draw, .t p :: pl => if draw && drtOk P n ops p then (cmpT P n ops p).map fun t => (.drt t, pl) else none
  | .region _ ops draw, .l st :: pl =>
    if draw then (if drwOk P n ops (ordOf st) then (cmpL P n ops st).map fun is => (.drw is, pl) else none)
    else if ordOf st = List.range ops.size then (cmpL P n ops st).map fun is => (.reg is, pl) else none
  | .seq a b, pl => (cmpC P n a pl).bind fun x => (cmpC P n b x.2).map fun y => (sq x.1 y.1, y.2)
  | .cond x a b, pl => (cmpC P n a pl).bind fun u => (cmpC P n b u.2).map fun y => (.cond x u.1 y.1, y.2)
  | .block id a, pl => (cmpC P n a pl).map fun x => (.block id x.1, x.2)
  | .loop a, pl => (cmpC P n a pl).map fun x => (.loop x.1, x.2)
  | .exit id, pl => some (.exit id, pl)
  | .ret, pl => some (.ret, pl)
  | _, _ => none

def cmpRs (P : Program) : List ResultVar → Option (List Rs)
  | [] => some []
  | .tmp t :: r => (cmpRs P r).map (.tmp t :: ·)
  | .cell a t :: r => match aggSz P t with
    | some (some n) => (cmpRs P r).map (.cell a n :: ·)
    | _ => none

/-! ### Regions -/

theorem wanted_yes {ops : Array Oper} {o : Oper} {g c : Nat} {w : Bool} {n : Nat} {σ : Env} {a : Act} (ha : Agr n σ a) (hg : o.guard = some (g, w)) (hc : (ops[g]?).bind (·.dst) = some c) (hl : look σ c = some (.bool w)) :
    Region.wanted o (yielded ops a.tmps) = true := by
  have := ha.at_ c _ hl
  simp [Region.wanted, hg, yielded, hc, this]

theorem wanted_no {ops : Array Oper} {o : Oper} {g c : Nat} {w : Bool} {n : Nat} {σ : Env} {a : Act} (ha : Agr n σ a) (hg : o.guard = some (g, w)) (hc : (ops[g]?).bind (·.dst) = some c) {v : Value} (hl : look σ c = some v) (hn : notB v w = true) :
    Region.wanted o (yielded ops a.tmps) = false := by
  have := ha.at_ c _ hl
  cases v <;> simp [Region.wanted, hg, yielded, hc, this]
  simpa [notB] using hn

theorem wanted_none {ops : Array Oper} {o : Oper} (hg : o.guard = none) (tmps : Array Value) : Region.wanted o (yielded ops tmps) = true := by simp [Region.wanted, hg]

theorem cmpO_some {P : Program} {n : Nat} {ops : Array Oper} {i : Nat} {x : I} (h : cmpO P n ops i = some x) :
    ∃ o j, ops[i]? = some o ∧ cmpJ P n o = some j ∧ ((o.guard = none ∧ x = .op j) ∨ ∃ g w c, o.guard = some (g, w) ∧ (ops[g]?).bind (·.dst) = some c ∧ x = .g c w j) := by
  unfold cmpO at h
  simp only [Option.bind_eq_some_iff] at h
  obtain ⟨o, ho, j, hj, h⟩ := h
  refine ⟨o, j, ho, hj, ?_⟩
  split at h
  · cases h; exact .inl ⟨by assumption, rfl⟩
  · rename_i g w hg
    obtain ⟨c, hc, rfl⟩ := Option.map_eq_some_iff.1 h
    exact .inr ⟨g, w, c, hg, hc, rfl⟩

section
variable {P : Program} {n : Nat} {ops : Array Oper} {Q : Exit → Act → World → Prop} {C : Env → Heap → Prop} {w0 : World}

theorem wJ_sound {o : Oper} {j : J} (hj : cmpJ P n o = some j) {σ : Env} {a : Act} {w : World} (ha : Agr n σ a) (hw0 : Same w0 w) {K : Env → Heap → Prop} {next : Act → World → Prop}
    (hJ : wJ P none j K σ w.heap) (hn : ∀ σ' a' w', Agr n σ' a' → Same w0 w' → K σ' w'.heap → next a' w') : o.wp P a w next Q := by
  unfold wJ at hJ
  cases ht : j.take with
  | true =>
    rw [ht, if_pos rfl] at hJ
    obtain ⟨v, hK, hr, hd, hk⟩ := take_ok hj ht (m := none) ha hJ
    unfold Oper.wp
    rw [hr w rfl]
    exact hn _ _ _ (hd ▸ ha.put hk v) hw0 hK
  | false =>
    rw [ht, if_neg (by simp)] at hJ
    obtain ⟨h1, hd, hk⟩ := eff_ok hj ht ha rfl hJ
    refine h1 next Q fun v w' hK hs => hn _ _ _ (hd ▸ ha.put hk v) (hw0.trans hs) hK.2

theorem skip_agr {o : Oper} {j : J} (hj : cmpJ P n o = some j) {σ : Env} {a : Act} (ha : Agr n σ a) (hd : o.dst = j.dst ∧ ∀ k, j.dst = some k → k < n) : Agr n (putE σ j.dst undef) (a.put o.dst undef) :=
  hd.1 ▸ ha.put hd.2 undef

theorem cmpJ_dst {o : Oper} {j : J} (hj : cmpJ P n o = some j) : o.dst = j.dst ∧ ∀ k, j.dst = some k → k < n := by
  obtain ⟨dst, op, type, pos, after, guard⟩ := o
  have d1 : ∀ {d : Nat}, dst1 n ⟨dst, op, type, pos, after, guard⟩ = some d → dst = some d ∧ ∀ k, some d = some k → k < n := fun hd => ⟨(dst1_some hd).1, fun k hk => by cases hk; exact (dst1_some hd).2⟩
  cases op <;> simp only [cmpJ, reduceCtorEq] at hj
  case call c =>
    obtain ⟨callee, args, argTypes⟩ := c
    simp only at hj
    split at hj
    · split at hj <;> (obtain ⟨d, hd, rfl⟩ := Option.map_eq_some_iff.1 hj; exact dst0_some hd)
    · obtain ⟨d, hd, rfl⟩ := Option.map_eq_some_iff.1 hj; exact dst0_some hd
    · obtain ⟨d, hd, hj⟩ := Option.bind_eq_some_iff.1 hj
      split at hj <;> first | (cases hj; exact d1 hd) | cases hj
    · obtain ⟨d, hd, hj⟩ := Option.bind_eq_some_iff.1 hj
      split at hj <;> first | (cases hj; exact d1 hd) | cases hj
    · obtain ⟨d, hd, hj⟩ := Option.bind_eq_some_iff.1 hj
      split at hj <;> first | (cases hj; exact d1 hd) | cases hj
    · obtain ⟨d, hd, hj⟩ := Option.bind_eq_some_iff.1 hj
      split at hj <;> first | (cases hj; exact d1 hd) | cases hj
    all_goals first
      | (cases hj; done)
      | (obtain ⟨d, hd, rfl⟩ := Option.map_eq_some_iff.1 hj; exact dst0_some hd)
  case store t x v =>
    cases dst with
    | some d => cases hj
    | none => obtain ⟨s, hs, rfl⟩ := Option.map_eq_some_iff.1 hj; exact ⟨rfl, fun k hk => by cases hk⟩
  case makeFunc fn first caps =>
    cases fn <;> simp only [reduceCtorEq] at hj
    split at hj
    · obtain ⟨d, hd, rfl⟩ := Option.map_eq_some_iff.1 hj; exact d1 hd
    · cases hj
  case binOp op t x y yt =>
    obtain ⟨d, hd, hj⟩ := Option.bind_eq_some_iff.1 hj
    generalize hu : P.underlying t = U at hj
    split at hj <;> first
      | (cases hj; exact d1 hd)
      | (split at hj
         · obtain ⟨ks, hks, rfl⟩ := Option.map_eq_some_iff.1 hj; exact d1 hd
         · cases hj)
      | cases hj
  case move => obtain ⟨d, hd, rfl⟩ := Option.map_eq_some_iff.1 hj; exact d1 hd
  case assign => obtain ⟨d, hd, rfl⟩ := Option.map_eq_some_iff.1 hj; exact d1 hd
  case pick => obtain ⟨d, hd, rfl⟩ := Option.map_eq_some_iff.1 hj; exact d1 hd
  case extract => obtain ⟨d, hd, rfl⟩ := Option.map_eq_some_iff.1 hj; exact d1 hd
  case unOp => obtain ⟨d, hd, rfl⟩ := Option.map_eq_some_iff.1 hj; exact d1 hd
  case box => obtain ⟨d, hd, rfl⟩ := Option.map_eq_some_iff.1 hj; exact d1 hd
  case nilCheck => obtain ⟨d, hd, rfl⟩ := Option.map_eq_some_iff.1 hj; exact dst0_some hd
  case makeMap => obtain ⟨d, hd, rfl⟩ := Option.map_eq_some_iff.1 hj; exact dst0_some hd
  case lookup => obtain ⟨d, hd, rfl⟩ := Option.map_eq_some_iff.1 hj; exact dst0_some hd
  case entryStore => obtain ⟨d, hd, rfl⟩ := Option.map_eq_some_iff.1 hj; exact dst0_some hd
  case mapEntry => obtain ⟨d, hd, rfl⟩ := Option.map_eq_some_iff.1 hj; exact dst0_some hd
  case makeSlice => obtain ⟨d, hd, rfl⟩ := Option.map_eq_some_iff.1 hj; exact dst0_some hd
  case load =>
    simp only [Option.bind_eq_some_iff, Option.map_eq_some_iff] at hj
    obtain ⟨d, hd, s, hs, rfl⟩ := hj; exact d1 hd
  case alloc =>
    simp only [Option.bind_eq_some_iff, Option.map_eq_some_iff] at hj
    obtain ⟨d, hd, s, hs, rfl⟩ := hj; exact d1 hd
  case fieldAddr =>
    obtain ⟨d, hd, hj⟩ := Option.bind_eq_some_iff.1 hj
    split at hj
    · simp only [Option.bind_eq_some_iff] at hj
      obtain ⟨fl, hfl, z, hz, hj⟩ := hj
      split at hj
      · cases hj
      · cases hj; exact d1 hd
    · cases hj
  case indexAddr =>
    obtain ⟨d, hd, hj⟩ := Option.bind_eq_some_iff.1 hj
    split at hj
    · obtain ⟨z, hz, rfl⟩ := Option.map_eq_some_iff.1 hj; exact d1 hd
    · cases hj
  case slice =>
    obtain ⟨d, hd, hj⟩ := Option.bind_eq_some_iff.1 hj
    split at hj
    · split at hj
      · cases hj
      · obtain ⟨z, hz, rfl⟩ := Option.map_eq_some_iff.1 hj; exact d1 hd
    · cases hj
  case build =>
    obtain ⟨d, hd, hj⟩ := Option.bind_eq_some_iff.1 hj
    split at hj
    · simp only [Option.bind_eq_some_iff, Option.map_eq_some_iff] at hj
      obtain ⟨z, hz, ps, hps, rfl⟩ := hj; exact d1 hd
    · cases hj
  case convert =>
    obtain ⟨d, hd, hj⟩ := Option.bind_eq_some_iff.1 hj
    split at hj
    · cases hj; exact d1 hd
    · cases hj; exact d1 hd
    · cases hj
  case buildSlice =>
    obtain ⟨d, hd, hj⟩ := Option.bind_eq_some_iff.1 hj
    split at hj
    · obtain ⟨z, _, hj⟩ := Option.bind_eq_some_iff.1 hj
      split at hj
      · split at hj
        · cases hj; exact d1 hd
        · cases hj
      split at hj
      · cases hj
      · obtain ⟨zc, _, hj⟩ := Option.bind_eq_some_iff.1 hj
        split at hj
        · cases hj
        · cases hj; exact d1 hd
    · cases hj

theorem wL_sound (hC : ∀ σ a w, Agr n σ a → Same w0 w → C σ w.heap → Q .normal a w) : ∀ (st : List St) (is : List I) (k : Nat) (σ : Env) (a : Act) (w : World),
    cmpL P n ops st = some is → Agr n σ a → Same w0 w → wL P none is k C σ w.heap → wpOps P ops Q (ordOf st) a w
  | [], is, k, σ, a, w, hc, ha, hs, h => by
    cases hc
    have : C σ w.heap := by cases k <;> exact h
    exact hC _ _ _ ha hs this
  | .kp l :: r, is, k, σ, a, w, hc, ha, hs, h => by
    obtain ⟨is', hc', rfl⟩ := Option.map_eq_some_iff.1 hc
    cases k with
    | zero => exact wL_sound hC r is' 0 _ a w hc' (ha.keep l) hs h
    | succ k => exact wL_sound hC r is' k _ a w hc' ha hs h
  | .sc c b m :: r, is, k, σ, a, w, hc, ha, hs, h => by
    obtain ⟨is', hc', rfl⟩ := Option.map_eq_some_iff.1 hc
    cases k with
    | zero =>
      obtain ⟨v, hv, g1⟩ := bd_elim h
      obtain ⟨t, ht, g2⟩ := bd_elim g1
      have hvb := asB_some ht
      subst hvb
      cases htb : (t == b) with
      | true =>
        have e : t = b := by simpa using htb
        subst e
        rw [htb, br_true] at g2
        exact wL_sound hC r is' 0 _ a w hc' (ha.same hv) hs g2
      | false =>
        have e : t = !b := by cases t <;> cases b <;> simp_all
        subst e
        rw [htb, br_false] at g2
        exact wL_sound hC r is' m _ a w hc' (ha.same hv) hs g2
    | succ k => exact wL_sound hC r is' k _ a w hc' ha hs h
  | .o i :: r, is, k, σ, a, w, hc, ha, hs, h => by
    simp only [cmpL, Option.bind_eq_some_iff, Option.map_eq_some_iff] at hc
    obtain ⟨x, hx, is', hc', rfl⟩ := hc
    obtain ⟨o, j, ho, hj, hcase⟩ := cmpO_some hx
    simp only [ordOf, wpOps, ho]
    rcases hcase with ⟨hg, rfl⟩ | ⟨g, b, c, hg, hgc, rfl⟩
    · cases k with
      | zero =>
        rw [if_pos (wanted_none hg _)]
        exact .inl (wJ_sound hj ha hs h fun σ' a' w' h1 h2 h3 => wL_sound hC r is' 0 σ' a' w' hc' h1 h2 h3)
      | succ k => exact h.elim
    · cases k with
      | zero =>
        obtain ⟨hl, h⟩ := h
        rw [if_pos (wanted_yes ha hg hgc hl)]
        exact .inl (wJ_sound hj ha hs h fun σ' a' w' h1 h2 h3 => wL_sound hC r is' 0 σ' a' w' hc' h1 h2 h3)
      | succ k =>
        obtain ⟨v, hv, hn, g1⟩ := bd_elim h
        rw [if_neg (by rw [wanted_no ha hg hgc hv hn]; simp)]
        exact wL_sound hC r is' k _ _ w hc' (skip_agr hj ha (cmpJ_dst hj)) hs g1

/-- One operation of a region that draws: what it does, whether it is wanted or not. -/
theorem drw_step {p : Nat → Prop} {h0 : Heap} (hno : Region.noSelect ops = true) (hQp : ∀ c a w, ¬ Q (.panic c) a w) {i : Nat} {o : Oper} {j : J} (hoi : ops[i]? = some o) (hj : cmpJ P n o = some j)
    {σ : Env} {a : Act} {w : World} {fuel : Nat} {listed : Array Bool} (ha : Agr n σ a) (hs : Same w0 w) (hS : ∀ b, p b → w.heap[b]? = h0[b]?) {K : Env → Heap → Prop}
    (hK : ∀ σ' a' w', Agr n σ' a' → Same w0 w' → (∀ b, p b → w'.heap[b]? = h0[b]?) → K σ' w'.heap → wpAnyH P .any ops Q (fun w => ∀ b, p b → w.heap[b]? = h0[b]?) fuel (listed.setIfInBounds i true) a' w')
    (hcase : (Region.wanted o (yielded ops a.tmps) = true ∧ wJ P (some ⟨p, h0⟩) j K σ w.heap) ∨ (Region.wanted o (yielded ops a.tmps) = false ∧ K (putE σ j.dst undef) w.heap)) :
    wpOp P ops Q i (fun a' w' => (∀ b, p b → w'.heap[b]? = h0[b]?) ∧ wpAnyH P .any ops Q (fun w => ∀ b, p b → w.heap[b]? = h0[b]?) fuel (listed.setIfInBounds i true) a' w') a w ∧
    (j.take = true → Region.free .any ops listed i = true → (Region.ready .any ops listed).contains i = true → wpAnyH P .any ops Q (fun w => ∀ b, p b → w.heap[b]? = h0[b]?) (fuel + 1) listed a w) := by
  have hd := cmpJ_dst hj
  have hQ : ∀ (v : Value) c a w, Q (.panic c) (a.put o.dst v) w → Q (.panic c) a w := fun v c a w h => absurd h (hQp c _ w)
  cases ht : j.take with
  | true =>
    rcases hcase with ⟨hw, hJ⟩ | ⟨hw, hJ⟩
    · unfold wJ at hJ
      rw [ht, if_pos rfl] at hJ
      obtain ⟨v, hKv, hr, hd', hk⟩ := take_ok hj ht (m := some ⟨p, h0⟩) ha hJ
      have hag : Agr n (putE σ j.dst v) (a.put o.dst v) := by rw [hd']; exact ha.put hk v
      have hnext := hK _ _ _ hag hs hS hKv
      refine ⟨?_, fun _ hf hc => wpAnyH_take hoi hno hf hc (hQ v) (.inl ⟨hw, fun w1 hw1 => hr w1 hw1⟩) hS hnext⟩
      unfold wpOp
      simp only [hoi]
      rw [if_pos hw]
      refine .inl ?_
      unfold Oper.wp
      rw [hr w hS]
      exact ⟨hS, hnext⟩
    · have hnext := hK _ _ _ (skip_agr hj ha hd) hs hS hJ
      refine ⟨?_, fun _ hf hc => wpAnyH_take hoi hno hf hc (hQ undef) (.inr ⟨hw, rfl⟩) hS hnext⟩
      unfold wpOp
      simp only [hoi]
      rw [if_neg (by rw [hw]; simp)]
      exact ⟨hS, hnext⟩
  | false =>
    refine ⟨?_, fun h => absurd h (by simp)⟩
    unfold wpOp
    simp only [hoi]
    rcases hcase with ⟨hw, hJ⟩ | ⟨hw, hJ⟩
    · rw [if_pos hw]
      unfold wJ at hJ
      rw [ht, if_neg (by simp)] at hJ
      obtain ⟨h1, hd', hk⟩ := eff_ok hj ht ha rfl hJ
      refine .inl (h1 _ Q fun v w' hKv hsw => ?_)
      have hS' : ∀ b, p b → w'.heap[b]? = h0[b]? := fun b hb => (hKv.1 b hb).trans (hS b hb)
      exact ⟨hS', hK _ _ _ (hd' ▸ ha.put hk v) (hs.trans hsw) hS' hKv.2⟩
    · rw [if_neg (by rw [hw]; simp)]
      exact ⟨hS, hK _ _ _ (skip_agr hj ha hd) hs hS hJ⟩

/-- A region that draws its order: a piece of it. -/
theorem drw_sound {p : Nat → Prop} {h0 : Heap} (hno : Region.noSelect ops = true) (hQp : ∀ c a w, ¬ Q (.panic c) a w) {fin : Nat → Array Bool → Bool}
    (hC : ∀ σ a w fuel listed, fin fuel listed = true → Agr n σ a → Same w0 w → (∀ b, p b → w.heap[b]? = h0[b]?) → C σ w.heap → wpAnyH P .any ops Q (fun w => ∀ b, p b → w.heap[b]? = h0[b]?) fuel listed a w) :
    ∀ (st : List St) (is : List I) (k : Nat) (σ : Env) (a : Act) (w : World) (fuel : Nat) (listed : Array Bool),
    cmpL P n ops st = some is → ordOk P n ops fin fuel listed (ordOf st) = true → Agr n σ a → Same w0 w → (∀ b, p b → w.heap[b]? = h0[b]?) → wL P (some ⟨p, h0⟩) is k C σ w.heap →
    wpAnyH P .any ops Q (fun w => ∀ b, p b → w.heap[b]? = h0[b]?) fuel listed a w
  | [], is, k, σ, a, w, fuel, listed, hc, ho, ha, hs, hS, h => by
    cases hc
    have : C σ w.heap := by cases k <;> exact h
    exact hC σ a w fuel listed (by simpa [ordOk, ordOf] using ho) ha hs hS this
  | .kp l :: r, is, k, σ, a, w, fuel, listed, hc, ho, ha, hs, hS, h => by
    obtain ⟨is', hc', rfl⟩ := Option.map_eq_some_iff.1 hc
    cases k with
    | zero => exact drw_sound hno hQp hC r is' 0 _ a w fuel listed hc' ho (ha.keep l) hs hS h
    | succ k => exact drw_sound hno hQp hC r is' k _ a w fuel listed hc' ho ha hs hS h
  | .sc c b m :: r, is, k, σ, a, w, fuel, listed, hc, ho, ha, hs, hS, h => by
    obtain ⟨is', hc', rfl⟩ := Option.map_eq_some_iff.1 hc
    cases k with
    | zero =>
      obtain ⟨v, hv, g1⟩ := bd_elim h
      obtain ⟨t, ht, g2⟩ := bd_elim g1
      have hvb := asB_some ht
      subst hvb
      cases htb : (t == b) with
      | true =>
        have e : t = b := by simpa using htb
        subst e
        rw [htb, br_true] at g2
        exact drw_sound hno hQp hC r is' 0 _ a w fuel listed hc' ho (ha.same hv) hs hS g2
      | false =>
        have e : t = !b := by cases t <;> cases b <;> simp_all
        subst e
        rw [htb, br_false] at g2
        exact drw_sound hno hQp hC r is' m _ a w fuel listed hc' ho (ha.same hv) hs hS g2
    | succ k => exact drw_sound hno hQp hC r is' k _ a w fuel listed hc' ho ha hs hS h
  | .o i :: r, is, k, σ, a, w, fuel, listed, hc, ho, ha, hs, hS, h => by
    simp only [cmpL, Option.bind_eq_some_iff, Option.map_eq_some_iff] at hc
    obtain ⟨x, hx, is', hc', rfl⟩ := hc
    obtain ⟨o, j, hoi, hj, hcase⟩ := cmpO_some hx
    cases fuel with
    | zero => simp [ordOf, ordOk] at ho
    | succ fuel =>
    simp only [ordOf, ordOk, hoi, Option.bind_some, hj, Bool.and_eq_true] at ho
    obtain ⟨ho1, ho2⟩ := ho
    have go : ∀ K : Env → Heap → Prop, (∀ σ' a' w', Agr n σ' a' → Same w0 w' → (∀ b, p b → w'.heap[b]? = h0[b]?) → K σ' w'.heap → wpAnyH P .any ops Q (fun w => ∀ b, p b → w.heap[b]? = h0[b]?) fuel (listed.setIfInBounds i true) a' w') →
        (Region.wanted o (yielded ops a.tmps) = true ∧ wJ P (some ⟨p, h0⟩) j K σ w.heap) ∨ (Region.wanted o (yielded ops a.tmps) = false ∧ K (putE σ j.dst undef) w.heap) →
        wpAnyH P .any ops Q (fun w => ∀ b, p b → w.heap[b]? = h0[b]?) (fuel + 1) listed a w := by
      intro K hK hcase
      obtain ⟨g1, g2⟩ := drw_step hno hQp hoi hj ha hs hS hK hcase
      cases ht : j.take with
      | true =>
        rw [ht, if_pos rfl, Bool.and_eq_true] at ho1
        exact g2 ht ho1.1 ho1.2
      | false =>
        rw [ht, if_neg (by simp)] at ho1
        refine wpAnyH_all (of_decide_eq_true ho1) (by simp) fun i' hi' => ?_
        have : i' = i := by simpa using hi'
        subst this
        exact g1
    rcases hcase with ⟨hg, rfl⟩ | ⟨g, b, c, hg, hgc, rfl⟩
    · cases k with
      | zero => exact go _ (fun σ' a' w' h1 h2 h3 h4 => drw_sound hno hQp hC r is' 0 σ' a' w' fuel _ hc' ho2 h1 h2 h3 h4) (.inl ⟨wanted_none hg _, h⟩)
      | succ k => exact h.elim
    · cases k with
      | zero =>
        obtain ⟨hl, h⟩ := h
        exact go _ (fun σ' a' w' h1 h2 h3 h4 => drw_sound hno hQp hC r is' 0 σ' a' w' fuel _ hc' ho2 h1 h2 h3 h4) (.inl ⟨wanted_yes ha hg hgc hl, h⟩)
      | succ k =>
        obtain ⟨v, hv, hn, g1⟩ := bd_elim h
        exact go _ (fun σ' a' w' h1 h2 h3 h4 => drw_sound hno hQp hC r is' k σ' a' w' fuel _ hc' ho2 h1 h2 h3 h4) (.inr ⟨wanted_no ha hg hgc hv hn, g1⟩)

mutual
theorem drt_sound {p : Nat → Prop} {h0 : Heap} (hno : Region.noSelect ops = true) (hQp : ∀ c a w, ¬ Q (.panic c) a w) (hC : ∀ σ a w, Agr n σ a → Same w0 w → C σ w.heap → Q .normal a w) :
    ∀ (t : PL) (k : L) (fuel : Nat) (listed : Array Bool), cmpT P n ops t = some k → treeOk P n ops t fuel listed = true → ∀ (σ : Env) (a : Act) (w : World), Agr n σ a → Same w0 w → (∀ b, p b → w.heap[b]? = h0[b]?) →
    wT P (some ⟨p, h0⟩) k C σ w.heap → wpAnyH P .any ops Q (fun w => ∀ b, p b → w.heap[b]? = h0[b]?) fuel listed a w
  | .nil, k, fuel, listed, hc, ho, σ, a, w, ha, hs, hS, h => by
    cases hc
    exact wpAnyH_done (by simpa [treeOk, allIn] using ho) (hC _ _ _ ha hs h) fuel
  | .one st r, k, fuel, listed, hc, ho, σ, a, w, ha, hs, hS, h => by
    simp only [cmpT, Option.bind_eq_some_iff, Option.map_eq_some_iff] at hc
    obtain ⟨is, his, kr, hkr, rfl⟩ := hc
    exact drw_sound hno hQp (fun σ a w fuel listed h1 h2 h3 h4 h5 => drt_sound hno hQp hC r kr fuel listed hkr h1 σ a w h2 h3 h4 h5) st is 0 σ a w fuel listed his ho ha hs hS h
  | .alt x y, k, fuel, listed, hc, ho, σ, a, w, ha, hs, hS, h => by
    simp only [cmpT, Option.bind_eq_some_iff, Option.map_eq_some_iff] at hc
    obtain ⟨kx, hx, ky, hy, rfl⟩ := hc
    simp only [treeOk, Bool.and_eq_true] at ho
    obtain ⟨⟨⟨h1, h2⟩, h3⟩, h4⟩ := ho
    cases fuel with
    | zero =>
      exfalso
      have key : ∀ t : PL, altOk P n ops t 0 listed = true → heads t = [] := by
        intro t ht
        induction t with
        | nil => rfl
        | one st r _ =>
          match st with
          | [] => rfl
          | .kp _ :: _ => rfl
          | .sc _ _ _ :: _ => rfl
          | .o _ :: _ => simp [altOk] at ht
        | alt a b iha ihb =>
          simp only [altOk, Bool.and_eq_true] at ht
          simp [heads, iha ht.1, ihb ht.2]
      rw [key x h3, key y h4] at h2
      cases hr : Region.ready .any ops listed with
      | nil => simp [hr] at h1
      | cons i r => simp [hr] at h2
    | succ fuel =>
      refine wpAnyH_all rfl (by intro e; simp [e] at h1) fun i hi => ?_
      have hin := List.all_eq_true.1 h2 i hi
      simp only [List.contains_eq_mem, List.mem_append, decide_eq_true_eq] at hin
      rcases hin with hin | hin
      · exact alt_sound hno hQp hC x kx fuel listed hx h3 σ a w ha hs hS h.1 i hin
      · exact alt_sound hno hQp hC y ky fuel listed hy h4 σ a w ha hs hS h.2 i hin
theorem alt_sound {p : Nat → Prop} {h0 : Heap} (hno : Region.noSelect ops = true) (hQp : ∀ c a w, ¬ Q (.panic c) a w) (hC : ∀ σ a w, Agr n σ a → Same w0 w → C σ w.heap → Q .normal a w) :
    ∀ (t : PL) (k : L) (fuel : Nat) (listed : Array Bool), cmpT P n ops t = some k → altOk P n ops t (fuel + 1) listed = true → ∀ (σ : Env) (a : Act) (w : World), Agr n σ a → Same w0 w → (∀ b, p b → w.heap[b]? = h0[b]?) →
    wT P (some ⟨p, h0⟩) k C σ w.heap → ∀ i ∈ heads t, wpOp P ops Q i (fun a' w' => (∀ b, p b → w'.heap[b]? = h0[b]?) ∧ wpAnyH P .any ops Q (fun w => ∀ b, p b → w.heap[b]? = h0[b]?) fuel (listed.setIfInBounds i true) a' w') a w
  | .nil, k, fuel, listed, hc, ho, σ, a, w, ha, hs, hS, h, i, hi => by cases hi
  | .one [] r, k, fuel, listed, hc, ho, σ, a, w, ha, hs, hS, h, i, hi => by cases hi
  | .one (.kp _ :: _) r, k, fuel, listed, hc, ho, σ, a, w, ha, hs, hS, h, i, hi => by cases hi
  | .one (.sc _ _ _ :: _) r, k, fuel, listed, hc, ho, σ, a, w, ha, hs, hS, h, i, hi => by cases hi
  | .one (.o j :: st) r, k, fuel, listed, hc, ho, σ, a, w, ha, hs, hS, h, i, hi => by
    have hij : i = j := by simpa [heads] using hi
    subst hij
    simp only [cmpT, Option.bind_eq_some_iff, Option.map_eq_some_iff] at hc
    obtain ⟨is0, his0, kr, hkr, rfl⟩ := hc
    simp only [cmpL, Option.bind_eq_some_iff, Option.map_eq_some_iff] at his0
    obtain ⟨x, hx, is, his, rfl⟩ := his0
    obtain ⟨o, jj, hoi, hj, hcase⟩ := cmpO_some hx
    simp only [altOk, Bool.and_eq_true, hoi, Option.map_some, Option.getD_some] at ho
    obtain ⟨hgn, ho2⟩ := ho
    rcases hcase with ⟨hg, rfl⟩ | ⟨g, b, c, hg, hgc, rfl⟩
    · exact (drw_step (K := fun σ h => wL P (some ⟨p, h0⟩) is 0 (fun σ h => wT P (some ⟨p, h0⟩) kr C σ h) σ h) hno hQp hoi hj ha hs hS
        (fun σ' a' w' h1 h2 h3 h4 => drw_sound hno hQp (fun σ a w fuel listed h1 h2 h3 h4 h5 => drt_sound hno hQp hC r kr fuel listed hkr h1 σ a w h2 h3 h4 h5) st is 0 σ' a' w' fuel _ his ho2 h1 h2 h3 h4) (.inl ⟨wanted_none hg _, h⟩)).1
    · rw [hg] at hgn; cases hgn
  | .alt x y, k, fuel, listed, hc, ho, σ, a, w, ha, hs, hS, h, i, hi => by
    simp only [cmpT, Option.bind_eq_some_iff, Option.map_eq_some_iff] at hc
    obtain ⟨kx, hx, ky, hy, rfl⟩ := hc
    simp only [altOk, Bool.and_eq_true] at ho
    simp only [heads, List.mem_append] at hi
    rcases hi with hi | hi
    · exact alt_sound hno hQp hC x kx fuel listed hx ho.1 σ a w ha hs hS h.1 i hi
    · exact alt_sound hno hQp hC y ky fuel listed hy ho.2 σ a w ha hs hS h.2 i hi
end
end

/-! ### Code -/

def QL (n : Nat) (w0 : World) (Q : X → Env → Heap → Prop) : Exit → Act → World → Prop
  | .normal, a, w => ∃ σ, Agr n σ a ∧ Same w0 w ∧ Q .normal σ w.heap
  | .exit id, a, w => ∃ σ, Agr n σ a ∧ Same w0 w ∧ Q (.exit id) σ w.heap
  | .ret, a, w => ∃ σ, Agr n σ a ∧ Same w0 w ∧ Q .ret σ w.heap
  | _, _, _ => False

theorem X.then_assoc (f g : Env → Heap → Prop) (Q : X → Env → Heap → Prop) : X.then f (X.then g Q) = X.then f Q := by
  funext e σ h
  cases e <;> rfl

theorem sq_seq {P : Program} : ∀ (a b : C) (Q : X → Env → Heap → Prop) (σ : Env) (h : Heap), wC P (sq a b) Q σ h = wC P a (X.then (wC P b Q) Q) σ h
  | .skip, b, Q, σ, h => rfl
  | .seq x y, b, Q, σ, h => by
    have e : (fun σ h => wC P (sq y b) Q σ h) = (fun σ h => wC P y (X.then (wC P b Q) Q) σ h) := by funext σ h; exact sq_seq y b Q σ h
    show wC P x (X.then (wC P (sq y b) Q) Q) σ h = wC P x (X.then (wC P y (X.then (wC P b Q) Q)) (X.then (wC P b Q) Q)) σ h
    have e' : wC P (sq y b) Q = wC P y (X.then (wC P b Q) Q) := e
    rw [e']
    congr 1
    funext e σ h
    cases e <;> rfl
  | .reg _, _, _, _, _ => rfl
  | .drw _, _, _, _, _ => rfl
  | .drt _, _, _, _, _ => rfl
  | .cond _ _ _, _, _, _, _ => rfl
  | .block _ _, _, _, _, _ => rfl
  | .loop _, _, _, _, _ => rfl
  | .exit _, _, _, _, _ => rfl
  | .ret, _, _, _, _ => rfl

theorem wC_sound {P : Program} {n : Nat} : ∀ (c : Code) (pl : List RP) (k : C) (pl' : List RP), cmpC P n c pl = some (k, pl') → ∀ (Q : X → Env → Heap → Prop) (w0 : World) (σ : Env) (a : Act) (w : World),
    Agr n σ a → Same w0 w → wC P k Q σ w.heap → c.wp P (QL n w0 Q) a w
  | .skip, pl, k, pl', hc, Q, w0, σ, a, w, ha, hs, h => by
    cases hc
    exact wp_skip ⟨σ, ha, hs, h⟩
  | .region id ops draw, [], k, pl', hc, Q, w0, σ, a, w, ha, hs, h => by cases hc
  | .region id ops draw, .t p :: pl, k, pl', hc, Q, w0, σ, a, w, ha, hs, h => by
    unfold cmpC at hc
    split at hc
    · rename_i hok
      obtain ⟨t, ht, he⟩ := Option.map_eq_some_iff.1 hc
      cases he
      obtain ⟨q, hq, hL⟩ := h
      simp only [drtOk, Bool.and_eq_true] at hok
      obtain ⟨hd, ⟨hm, hno⟩, hord⟩ := hok
      have hd' : draw = true := hd
      subst hd'
      refine wp_region_held (S := fun w' => ∀ b, q b → w'.heap[b]? = w.heap[b]?) hm ?_
      exact drt_sound (w0 := w0) (Q := QL n w0 Q) hno (fun c a w h => h) (fun σ a w h1 h2 h3 => ⟨σ, h1, h2, h3⟩) p t ops.size _ ht hord σ a { w with drawn := w.drawn + 1 } ha (hs.trans ⟨rfl, rfl, rfl⟩) (fun b _ => rfl) hL
    · cases hc
  | .region id ops draw, .l st :: pl, k, pl', hc, Q, w0, σ, a, w, ha, hs, h => by
    unfold cmpC at hc
    cases draw with
    | true =>
      rw [if_pos rfl] at hc
      split at hc
      · rename_i hok
        obtain ⟨is, his, he⟩ := Option.map_eq_some_iff.1 hc
        cases he
        obtain ⟨p, hp, hL⟩ := h
        simp only [drwOk, Bool.and_eq_true] at hok
        obtain ⟨⟨hm, hno⟩, hord⟩ := hok
        refine wp_region_held (S := fun w' => ∀ b, p b → w'.heap[b]? = w.heap[b]?) hm ?_
        exact drw_sound (w0 := w0) (Q := QL n w0 Q) hno (fun c a w h => h) (fun σ a w fuel listed h0 h1 h2 _ h3 => wpAnyH_done (by simpa [allIn] using h0) ⟨σ, h1, h2, h3⟩ fuel) st is 0 σ a { w with drawn := w.drawn + 1 } ops.size _ his hord ha (hs.trans ⟨rfl, rfl, rfl⟩) (fun b _ => rfl) hL
      · cases hc
    | false =>
      rw [if_neg (by simp)] at hc
      split at hc
      · rename_i hord
        obtain ⟨is, his, he⟩ := Option.map_eq_some_iff.1 hc
        cases he
        refine wp_region ?_
        rw [← hord]
        exact wL_sound (Q := QL n w0 Q) (fun σ a w h1 h2 h3 => ⟨σ, h1, h2, h3⟩) st is 0 σ a w his ha hs h
      · cases hc
  | .seq x y, pl, k, pl', hc, Q, w0, σ, a, w, ha, hs, h => by
    simp only [cmpC, Option.bind_eq_some_iff, Option.map_eq_some_iff] at hc
    obtain ⟨⟨kx, p1⟩, hx, ⟨ky, p2⟩, hy, he⟩ := hc
    cases he
    rw [sq_seq] at h
    refine wp_seq (wp_mono (wC_sound x pl kx p1 hx _ w0 σ a w ha hs h) ?_)
    intro e a' w' hq
    cases e with
    | normal =>
      obtain ⟨σ', h1, h2, h3⟩ := hq
      exact wC_sound y p1 ky _ hy Q w0 σ' a' w' h1 h2 h3
    | exit id => exact hq
    | ret => exact hq
    | goto l => exact hq.elim
    | panic c => exact hq.elim
    | outgrown => exact hq.elim
  | .cond x y z, pl, k, pl', hc, Q, w0, σ, a, w, ha, hs, h => by
    simp only [cmpC, Option.bind_eq_some_iff, Option.map_eq_some_iff] at hc
    obtain ⟨⟨ky, p1⟩, hy, ⟨kz, p2⟩, hz, he⟩ := hc
    cases he
    obtain ⟨v, hv, g1⟩ := bd_elim h
    obtain ⟨t, ht, g2⟩ := bd_elim g1
    have hvb := asB_some ht
    subst hvb
    refine wp_cond (ha.eval hv) ?_
    cases t with
    | true => rw [br_true] at g2; exact wC_sound y pl ky p1 hy Q w0 σ a w ha hs g2
    | false => rw [br_false] at g2; exact wC_sound z p1 kz _ hz Q w0 σ a w ha hs g2
  | .block id x, pl, k, pl', hc, Q, w0, σ, a, w, ha, hs, h => by
    obtain ⟨⟨kx, p1⟩, hx, he⟩ := Option.map_eq_some_iff.1 hc
    cases he
    refine wp_block (wp_mono (wC_sound x pl kx _ hx _ w0 σ a w ha hs h) ?_)
    intro e a' w' hq
    cases e with
    | normal => exact hq
    | exit i =>
      obtain ⟨σ', h1, h2, h3⟩ := hq
      simp only [X.inBlock] at h3
      by_cases hi : i = id
      · subst hi
        rw [if_pos rfl] at h3
        simp only [Exit.inBlock, if_true]
        exact ⟨σ', h1, h2, h3⟩
      · rw [if_neg hi] at h3
        simp only [Exit.inBlock, if_neg hi]
        exact ⟨σ', h1, h2, h3⟩
    | ret => exact hq
    | goto l => exact hq.elim
    | panic c => exact hq.elim
    | outgrown => exact hq.elim
  | .loop x, pl, k, pl', hc, Q, w0, σ, a, w, ha, hs, h => by
    obtain ⟨⟨kx, p1⟩, hx, he⟩ := Option.map_eq_some_iff.1 hc
    cases he
    obtain ⟨Inv, m, h0, hround⟩ := h
    refine wp_loop_ghost (fun m a w => ∃ σ, Agr n σ a ∧ Same w0 w ∧ Inv m σ w.heap) m ⟨σ, ha, hs, h0⟩ ?_
    rintro m a w ⟨σ, ha, hs, hI⟩
    refine wp_mono (wC_sound x pl kx _ hx _ w0 σ a w ha hs (hround m σ w.heap hI)) ?_
    intro e a' w' hq
    cases e with
    | normal =>
      obtain ⟨σ', h1, h2, m', hm, hI'⟩ := hq
      exact ⟨m', hm, σ', h1, h2, hI'⟩
    | exit id => exact hq
    | ret => exact hq
    | goto l => exact hq.elim
    | panic c => exact hq.elim
    | outgrown => exact hq.elim
  | .exit id, pl, k, pl', hc, Q, w0, σ, a, w, ha, hs, h => by
    cases hc
    exact wp_exit ⟨σ, ha, hs, h⟩
  | .ret, pl, k, pl', hc, Q, w0, σ, a, w, ha, hs, h => by
    cases hc
    exact wp_ret ⟨σ, ha, hs, h⟩
  | .rangeFunc .., _, _, _, hc, _, _, _, _, _, _, _, _ => by cases hc
  | .scope _, _, _, _, hc, _, _, _, _, _, _, _, _ => by cases hc
  | .label _, _, _, _, hc, _, _, _, _, _, _, _, _ => by cases hc
  | .goto _, _, _, _, hc, _, _, _, _, _, _, _, _ => by cases hc
  | .refuse _, _, _, _, hc, _, _, _, _, _, _, _, _ => by cases hc

/-! ### Functions -/

def resOne (tmps : Array Value) : ResultVar → Sem Value
  | .tmp t => pure (tmps.getD t undef)
  | .cell c t => do loadVar t (← asAddr (tmps.getD c undef))

theorem results_eq (fn : Func) (tmps : Array Value) : results fn tmps = (fn.results.mapM (resOne tmps)) >>= fun vs => pure (if h : vs.size = 1 then vs[0] else .tuple vs) := rfl

theorem run_results {P : Program} {n : Nat} {σ : Env} {a : Act} (ha : Agr n σ a) (w : World) : ∀ (rv : List ResultVar) (rs : List Rs) (vs : List Value), cmpRs P rv = some rs → resV w.heap σ rs = some vs →
    (rv.mapM (resOne a.tmps)).run P w = .ok vs w
  | [], rs, vs, hc, hv => by cases hc; cases hv; simp
  | .tmp t :: rv, rs, vs, hc, hv => by
    obtain ⟨rs', hc', rfl⟩ := Option.map_eq_some_iff.1 hc
    simp only [resV, Option.bind_eq_some_iff, Option.map_eq_some_iff] at hv
    obtain ⟨v, hv, vs', hvs', rfl⟩ := hv
    have ih := run_results ha w rv rs' vs' hc' hvs'
    have h1 : a.tmps.getD t undef = v := ha.eval (x := .tmp t) hv
    simp only [List.mapM_cons, Sem.run_bind, resOne, Sem.run_pure, Result.andThen_ok, h1, ih]
  | .cell c t :: rv, rs, vs, hc, hv => by
    unfold cmpRs at hc
    split at hc
    · rename_i k hk
      obtain ⟨rs', hc', rfl⟩ := Option.map_eq_some_iff.1 hc
      simp only [resV, Option.bind_eq_some_iff, Option.map_eq_some_iff] at hv
      obtain ⟨v, hv, q, hq, l, hl, vs', hvs', rfl⟩ := hv
      have ih := run_results ha w rv rs' vs' hc' hvs'
      have h1 : a.tmps.getD c undef = v := ha.eval (x := .tmp c) hv
      have hp := asP_some hq
      have h2 : (resOne a.tmps (.cell c t)).run P w = .ok (.agg l.toArray) w := by
        simp only [resOne, Sem.run_bind, h1, hp, asAddr, Sem.run_pure, Result.andThen_ok, loadVar, (run_isAgg' hk w).1, Option.isSome_some, if_true, run_sizeOf' ((run_isAgg' hk w).2 k rfl), run_loadCells_rd w hl]
      simp only [List.mapM_cons, Sem.run_bind, h2, Sem.run_pure, Result.andThen_ok, ih]
    · cases hc

theorem look_envOf : ∀ (vs : List Value) (i s : Nat) (v : Value), look (envOf i vs) s = some v → i ≤ s ∧ vs[s - i]? = some v
  | [], _, _, _, h => by cases h
  | u :: vs, i, s, v, h => by
    simp only [envOf, look] at h
    split at h
    · rename_i e; subst e; cases h; simp
    · rename_i e
      obtain ⟨h1, h2⟩ := look_envOf vs (i + 1) s v h
      refine ⟨by omega, ?_⟩
      rw [show s - i = (s - (i + 1)) + 1 by omega]
      simpa using h2

theorem fn_ok {P : Program} {f : FuncId} {fn : Func} {c : Code} {pl : List RP} {k : C} {rs : List Rs} {args : List Value} {h : Heap} {R : Value → Heap → Prop}
    (hf : P.funcs[f]? = some fn) (hb : fn.body = some c) (hc : cmpC P fn.ntmps c pl = some (k, [])) (hr : cmpRs P fn.results.toList = some rs) (hn : args.length ≤ fn.ntmps)
    (H : wC P k (endW rs R) (envOf 0 args) h) : CallsH P f args h R := by
  intro w hw
  subst hw
  refine calls_of_wp hf hb ?_
  have ha : Agr fn.ntmps (envOf 0 args) { tmps := args.toArray ++ Array.replicate (fn.ntmps - args.toArray.size) undef, defers := [] } := by
    refine ⟨by simp; omega, rfl, fun s v hs => ?_⟩
    obtain ⟨_, h2⟩ := look_envOf args 0 s v hs
    have hlt : s < args.length := by
      rcases Nat.lt_or_ge s args.length with h | h
      · exact h
      · simp at h2; rw [List.getElem?_eq_none h] at h2; cases h2
    rw [Array.getElem?_append_left (by simpa using hlt)]
    simpa using h2
  refine wp_mono (wC_sound c pl k [] hc _ w _ _ w ha (Same.refl w) H) ?_
  have fin : ∀ σ a w', Agr fn.ntmps σ a → Same w w' → bd (resV w'.heap σ rs) (fun vs => R (one vs) w'.heap) →
      a.defers = [] ∧ ∃ v, (results fn a.tmps).run P w' = .ok v w' ∧ ∃ v', Ending.returned v = .returned v' ∧ R v' w'.heap ∧ Same w w' := by
    intro σ a w' ha hs hb
    obtain ⟨vs, hvs, hR⟩ := bd_elim hb
    refine ⟨ha.defers, one vs, ?_, one vs, rfl, hR, hs⟩
    have := run_results ha w' fn.results.toList rs vs hr hvs
    rw [results_eq, Array.mapM_eq_mapM_toList]
    simp only [Sem.run_bind, Sem.run_map, this, Result.andThen_ok, Sem.run_pure]
    congr 1
    unfold one
    match vs with
    | [] => simp
    | [v] => simp
    | v :: u :: r => simp
  intro e a w' hq
  cases e with
  | normal => obtain ⟨σ, h1, h2, h3⟩ := hq; exact fin σ a w' h1 h2 h3
  | ret => obtain ⟨σ, h1, h2, h3⟩ := hq; exact fin σ a w' h1 h2 h3
  | exit id => obtain ⟨σ, h1, h2, h3⟩ := hq; exact h3.elim
  | goto l => exact hq.elim
  | panic c => exact hq.elim
  | outgrown => exact hq.elim

/-- A function in the small language. -/
def cmpF (P : Program) (fn : Func) (pl : List RP) : Option (C × List Rs) :=
  match fn.body with
  | some c => match cmpC P fn.ntmps c pl, cmpRs P fn.results.toList with
    | some (k, []), some rs => some (k, rs)
    | _, _ => none
  | none => none

theorem fn_ok2 {P : Program} {f : FuncId} {fn : Func} {pl : List RP} {k : C} {rs : List Rs} {args : List Value} {h : Heap} {R : Value → Heap → Prop}
    (hf : P.funcs[f]? = some fn) (hc : cmpF P fn pl = some (k, rs)) (hn : args.length ≤ fn.ntmps) (H : wC P k (endW rs R) (envOf 0 args) h) : CallsH P f args h R := by
  unfold cmpF at hc
  split at hc
  · rename_i c hb
    split at hc
    · rename_i k' rs' h1 h2
      cases hc
      exact fn_ok hf hb h1 h2 hn H
    · cases hc
  · cases hc
end Go.AX
