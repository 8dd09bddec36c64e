/-
  The small instruction language: the operations that leave the heap alone.
-/
import Derived.Test.YtefghfgmkndikaaF2
set_option linter.unusedSimpArgs false
set_option linter.unusedVariables false
namespace Go.AX
open Go

/-! ### '==' of structs of numbers, bools and strings -/

/-- The value of a type whose cells these are. -/
def mkV (P : Program) (t : TypeId) (xs : List Value) : Value :=
  match P.underlying t with
  | some (.struct _) => .agg xs.toArray
  | _ => xs.headD undef

theorem flatT_size {P : Program} {d : Nat} {t : TypeId} {ks : List Kd} (h : flatT P d t = some ks) :
    (∃ fs, P.underlying t = some (.struct fs) ∧ sizeT P t = some ks.length) ∨ (ks.length = 1 ∧ ∃ u, P.underlying t = some u ∧ (isAgg t).run P = fun w => .ok false w) := by
  cases d with
  | zero => cases h
  | succ d =>
    unfold flatT at h
    split at h
    · rename_i hu; cases h; exact .inr ⟨rfl, _, hu, by funext w; simp [isAgg, run_underlying hu]⟩
    · rename_i hu; cases h; exact .inr ⟨rfl, _, hu, by funext w; simp [isAgg, run_underlying hu]⟩
    · rename_i hu; cases h; exact .inr ⟨rfl, _, hu, by funext w; simp [isAgg, run_underlying hu]⟩
    · rename_i hu
      split at h
      · cases h
      · simp only [Option.bind_eq_some_iff] at h
        obtain ⟨a, _, h⟩ := h
        split at h
        · cases h; exact .inl ⟨_, hu, by assumption⟩
        · cases h
    · cases h

theorem run_part_flat {P : Program} {d : Nat} {t : TypeId} {ks : List Kd} (h : flatT P d t = some ks) (xs : List Value) (o : Nat) (hl : o + ks.length ≤ xs.length) (w : World) :
    (part t xs.toArray o).run P w = .ok (mkV P t ((xs.drop o).take ks.length)) w := by
  rcases flatT_size h with ⟨fs, hu, hs⟩ | ⟨h1, u, hu, ha⟩
  · have hagg : (isAgg t).run P w = .ok true w := by simp [isAgg, run_underlying hu]
    simp only [part, Sem.run_bind, hagg, Result.andThen_ok, if_true, run_sizeOf' hs, Sem.run_pure, mkV, hu]
    congr 2
    simp
  · have hlt : o < xs.length := by omega
    have hx : (List.take ks.length (List.drop o xs)) = [xs[o]] := by
      rw [h1, List.drop_eq_getElem_cons hlt]; rfl
    have hget : xs.toArray[o]? = some xs[o] := by simp [hlt]
    have hns : ∀ fs, u ≠ .struct fs := by
      rintro fs rfl
      have := congrFun ha w
      simp [isAgg, run_underlying hu] at this
    simp only [part, Sem.run_bind, ha, Result.andThen_ok, Bool.false_eq_true, if_false, hget, Sem.run_pure, mkV, hu, hx]
    cases u <;> first | rfl | exact absurd rfl (hns _)

theorem eqKds_length : ∀ {ks : List Kd} {xs ys : List Value} {b : Bool}, eqKds ks xs ys = some b → xs.length = ks.length ∧ ys.length = ks.length
  | [], [], [], _, _ => ⟨rfl, rfl⟩
  | [], [], _ :: _, _, h => by cases h
  | [], _ :: _, _, _, h => by cases h
  | _ :: _, [], _, _, h => by cases h
  | _ :: _, _ :: _, [], _, h => by cases h
  | k :: ks, x :: xs, y :: ys, b, h => by
    simp only [eqKds, Option.bind_eq_some_iff, Option.map_eq_some_iff] at h
    obtain ⟨a, _, c, hc, _⟩ := h
    obtain ⟨h1, h2⟩ := eqKds_length hc
    exact ⟨by simp [h1], by simp [h2]⟩

theorem eqKds_append : ∀ (a : List Kd) {ks : List Kd} {xs ys : List Value} {b : Bool}, eqKds (a ++ ks) xs ys = some b →
    ∃ b1 b2, eqKds a (xs.take a.length) (ys.take a.length) = some b1 ∧ eqKds ks (xs.drop a.length) (ys.drop a.length) = some b2 ∧ b = (b1 && b2)
  | [], ks, xs, ys, b, h => ⟨true, b, by simp [eqKds], by simpa using h, by simp⟩
  | k :: a, ks, xs, ys, b, h => by
    match xs, ys, h with
    | x :: xs, y :: ys, h =>
      simp only [List.cons_append, eqKds, Option.bind_eq_some_iff, Option.map_eq_some_iff] at h
      obtain ⟨c, hc, e, he, rfl⟩ := h
      obtain ⟨b1, b2, h1, h2, rfl⟩ := eqKds_append a he
      exact ⟨c && b1, b2, by simp [eqKds, hc, h1], by simpa using h2, by simp [Bool.and_assoc]⟩

theorem eqFields_flat {P : Program} (d D : Nat) (xs ys : List Value) (w : World)
    (ih : ∀ t ks xs ys b, flatT P d t = some ks → eqKds ks xs ys = some b → (Op.equalIn D t (mkV P t xs) (mkV P t ys)).run P w = .ok b w) :
    ∀ (fs : List Field) (o : Nat) (ks : List Kd) (b : Bool), flatFs (flatT P d) o fs = some ks → eqKds ks (xs.drop o) (ys.drop o) = some b →
      (Op.eqFields D xs.toArray ys.toArray fs).run P w = .ok b w
  | [], o, ks, b, h, hb => by
    cases h
    have : b = true := by
      cases hx : xs.drop o <;> cases hy : ys.drop o <;> simp [hx, hy, eqKds] at hb
      exact hb
    subst this
    rfl
  | f :: fs, o, ks, b, h, hb => by
    unfold flatFs at h
    split at h
    · cases h
    · rename_i hno
      have hname : f.name ≠ "_" := fun e => hno (.inl e)
      have hoff : f.offset = o := Classical.byContradiction fun e => hno (.inr e)
      simp only [Option.bind_eq_some_iff] at h
      obtain ⟨a, ha, h⟩ := h
      split at h
      · cases h
      rename_i hpos
      obtain ⟨ks', hks', rfl⟩ := Option.map_eq_some_iff.1 h
      obtain ⟨b1, b2, h1, h2, rfl⟩ := eqKds_append a hb
      obtain ⟨l1, l2⟩ := eqKds_length h1
      rw [List.length_take, List.length_drop] at l1 l2
      have hxl : o + a.length ≤ xs.length := by omega
      have hyl : o + a.length ≤ ys.length := by omega
      have p1 := run_part_flat ha xs o hxl w
      have p2 := run_part_flat ha ys o hyl w
      have he := ih f.type a _ _ b1 ha h1
      simp only [Op.eqFields, hname, ne_eq, not_false_eq_true, if_true, hoff, Sem.run_bind, p1, p2, Result.andThen_ok, he]
      cases b1 with
      | false => simp
      | true =>
        simp only [Bool.not_true, Bool.false_eq_true, if_false, Bool.true_and]
        exact eqFields_flat d D xs ys w ih fs (o + a.length) ks' b2 hks' (by simpa [List.drop_drop, Nat.add_comm] using h2)

theorem equalIn_flat {P : Program} (w : World) : ∀ (d D : Nat), d ≤ D → ∀ (t : TypeId) (ks : List Kd) (xs ys : List Value) (b : Bool), flatT P d t = some ks → eqKds ks xs ys = some b →
    (Op.equalIn D t (mkV P t xs) (mkV P t ys)).run P w = .ok b w
  | 0, _, _, _, _, _, _, _, h, _ => by cases h
  | d + 1, 0, hD, _, _, _, _, _, _, _ => by omega
  | d + 1, D + 1, hD, t, ks, xs, ys, b, h, hb => by
    unfold flatT at h
    split at h
    · rename_i k hu
      cases h
      match xs, ys, hb with
      | x :: xs, y :: ys, hb =>
        simp only [eqKds, Option.bind_eq_some_iff, Option.map_eq_some_iff] at hb
        obtain ⟨a, ha, c, hc, rfl⟩ := hb
        obtain ⟨rfl, rfl⟩ : xs = [] ∧ ys = [] := by have := eqKds_length hc; exact ⟨List.eq_nil_of_length_eq_zero this.1, List.eq_nil_of_length_eq_zero this.2⟩
        cases hc
        cases x <;> cases y <;> simp only [eqKd, reduceCtorEq] at ha
        split at ha
        · rename_i hk; obtain ⟨rfl, rfl⟩ := hk
          cases ha
          simp [mkV, hu, Op.equalIn, run_underlying hu]
        · cases ha
    · rename_i hu
      cases h
      match xs, ys, hb with
      | x :: xs, y :: ys, hb =>
        simp only [eqKds, Option.bind_eq_some_iff, Option.map_eq_some_iff] at hb
        obtain ⟨a, ha, c, hc, rfl⟩ := hb
        obtain ⟨rfl, rfl⟩ : xs = [] ∧ ys = [] := by have := eqKds_length hc; exact ⟨List.eq_nil_of_length_eq_zero this.1, List.eq_nil_of_length_eq_zero this.2⟩
        cases hc
        cases x <;> cases y <;> simp only [eqKd, reduceCtorEq] at ha
        cases ha
        simp [mkV, hu, Op.equalIn, run_underlying hu]
    · rename_i hu
      cases h
      match xs, ys, hb with
      | x :: xs, y :: ys, hb =>
        simp only [eqKds, Option.bind_eq_some_iff, Option.map_eq_some_iff] at hb
        obtain ⟨a, ha, c, hc, rfl⟩ := hb
        obtain ⟨rfl, rfl⟩ : xs = [] ∧ ys = [] := by have := eqKds_length hc; exact ⟨List.eq_nil_of_length_eq_zero this.1, List.eq_nil_of_length_eq_zero this.2⟩
        cases hc
        cases x <;> cases y <;> simp only [eqKd, reduceCtorEq] at ha
        cases ha
        simp [mkV, hu, Op.equalIn, run_underlying hu, beq_toListBytes]
    · rename_i fs hu
      split at h
      · cases h
      · rename_i hst
        simp only [Option.bind_eq_some_iff] at h
        obtain ⟨a, ha, h⟩ := h
        split at h
        · cases h
          simp only [mkV, hu]
          have hf : P.fieldsOf t = fs := by simp [Program.fieldsOf, hu]
          rw [run_equalIn_struct w D t _ _ (by rw [hf]; exact hu) (by simpa using hst), hf]
          exact eqFields_flat d D xs ys w (fun t ks xs ys b h1 h2 => equalIn_flat w d D (by omega) t ks xs ys b h1 h2) fs.toList 0 _ b ha (by simpa using hb)
        · cases h
    · cases h
end Go.AX
