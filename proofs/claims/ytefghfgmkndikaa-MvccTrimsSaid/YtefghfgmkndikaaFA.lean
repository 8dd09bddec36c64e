/-
  What the program's data are, and how they lie in memory.
-/
import Derived.Test.YtefghfgmkndikaaF9
import Derived.Lib.Bytealg
import Derived.Lib.Overlaps
set_option linter.unusedSimpArgs false
set_option linter.unusedVariables false
namespace Go.AX
open Go

/-! ### The data -/
structure Stamp where
  wall : Int
  tie : Int
structure Try4 where
  node : Int
  life : Int
  seq : Int
  attempt : Int
structure Ver where
  at_ : Stamp
  drop : Bool
  data : ByteArray
structure Lck where
  by_ : Try4
  home : Int
  at_ : Stamp
  drop : Bool
  data : ByteArray
structure Cell where
  key : ByteArray
  vers : List Ver
  locked : Bool
  lock : Lck
structure Wri where
  key : ByteArray
  drop : Bool
  data : ByteArray
structure Spn where
  lo : ByteArray
  hi : ByteArray
structure Pai where
  key : ByteArray
  data : ByteArray
deriving instance Inhabited for Stamp, Try4
instance : Inhabited ByteArray := ⟨⟨#[]⟩⟩
deriving instance Inhabited for Ver, Lck, Cell, Wri, Spn, Pai
deriving instance DecidableEq for Stamp, Try4

def eStamp (s : Stamp) : List Value := [vi s.wall, vi s.tie]
def eTry (t : Try4) : List Value := [vi t.node, vi t.life, vi t.seq, vi t.attempt]
def eVer (v : Ver) : List Value := [vi v.at_.wall, vi v.at_.tie, .bool v.drop, .string v.data]
def eLck (l : Lck) : List Value := [vi l.by_.node, vi l.by_.life, vi l.by_.seq, vi l.by_.attempt, vi l.home, vi l.at_.wall, vi l.at_.tie, .bool l.drop, .string l.data]
def eWri (w : Wri) : List Value := [.string w.key, .bool w.drop, .string w.data]
def eSpn (s : Spn) : List Value := [.string s.lo, .string s.hi]
def ePai (p : Pai) : List Value := [.string p.key, .string p.data]

def noLock : Lck := ⟨⟨0, 0, 0, 0⟩, 0, ⟨0, 0⟩, false, ⟨#[]⟩⟩

/-- A cell as it lies in memory: its versions are elsewhere. -/
structure CV where
  key : ByteArray
  va : Option Addr
  vn : Nat
  vc : Nat
  locked : Bool
  lock : Lck
def eCV (c : CV) : List Value := [.string c.key, .slice c.va c.vn c.vc, .bool c.locked, vi c.lock.by_.node, vi c.lock.by_.life, vi c.lock.by_.seq, vi c.lock.by_.attempt, vi c.lock.home, vi c.lock.at_.wall, vi c.lock.at_.tie, .bool c.lock.drop, .string c.lock.data]

theorem eStamp_len (s : Stamp) : (eStamp s).length = 2 := rfl
theorem eTry_len (s : Try4) : (eTry s).length = 4 := rfl
theorem eVer_len (s : Ver) : (eVer s).length = 4 := rfl
theorem eLck_len (s : Lck) : (eLck s).length = 9 := rfl
theorem eWri_len (s : Wri) : (eWri s).length = 3 := rfl
theorem eSpn_len (s : Spn) : (eSpn s).length = 2 := rfl
theorem ePai_len (s : Pai) : (ePai s).length = 2 := rfl
theorem eCV_len (s : CV) : (eCV s).length = 12 := rfl
theorem eVer_one (x : Ver) : ∀ v ∈ eVer x, v.oneCell' = true := by
  intro v hv; simp only [eVer, List.mem_cons, List.not_mem_nil, or_false] at hv
  rcases hv with rfl | rfl | rfl | rfl <;> rfl
theorem eCV_one (x : CV) : ∀ v ∈ eCV x, v.oneCell' = true := by
  intro v hv; simp only [eCV, List.mem_cons, List.not_mem_nil, or_false] at hv
  rcases hv with rfl | rfl | rfl | rfl | rfl | rfl | rfl | rfl | rfl | rfl | rfl | rfl <;> rfl
theorem ePai_one (x : Pai) : ∀ v ∈ ePai x, v.oneCell' = true := by
  intro v hv; simp only [ePai, List.mem_cons, List.not_mem_nil, or_false] at hv
  rcases hv with rfl | rfl <;> rfl
theorem one_flatMap {α : Type} {e : α → List Value} (he : ∀ x, ∀ v ∈ e x, v.oneCell' = true) (ds : List α) : ∀ v ∈ ds.flatMap e, v.oneCell' = true := by
  intro v hv
  obtain ⟨x, _, hx⟩ := List.mem_flatMap.1 hv
  exact he x v hx

/-! ### Slices of data without memory behind it -/
theorem flatMap_length {α : Type} {e : α → List Value} {s : Nat} (he : ∀ x, (e x).length = s) : ∀ ds : List α, (ds.flatMap e).length = ds.length * s
  | [] => by simp
  | d :: ds => by simp [flatMap_length he ds, he, Nat.add_mul, Nat.add_comm]
theorem flatMap_at {α : Type} {e : α → List Value} {s : Nat} (he : ∀ x, (e x).length = s) : ∀ (ds : List α) (i : Nat) (d : α), ds[i]? = some d → ((ds.flatMap e).drop (i * s)).take s = e d
  | [], i, d, h => by simp at h
  | x :: ds, 0, d, h => by
    simp at h; subst h
    simp [List.take_append_of_le_length, he, List.take_of_length_le]
  | x :: ds, i + 1, d, h => by
    have := flatMap_at he ds i d (by simpa using h)
    rw [← this]
    simp only [List.flatMap_cons]
    rw [show (i + 1) * s = s + i * s by rw [Nat.add_mul]; omega, ← List.drop_drop, List.drop_append_of_le_length (by rw [he]; exact Nat.le_refl _)]
    congr 2
    rw [List.drop_of_length_le (by rw [he]; exact Nat.le_refl _), List.nil_append]

/-- A slice at a reads as these data; its block is one of B. -/
def SlF {α : Type} (B : Nat → Prop) (h : Heap) (e : α → List Value) (a : Option Addr) (ds : List α) : Prop :=
  ds ≠ [] → ∃ b o, a = some ⟨b, o, none⟩ ∧ B b ∧ Row h b o (ds.flatMap e)

section
variable {α : Type} {B B' : Nat → Prop} {h h' : Heap} {e : α → List Value} {a : Option Addr} {ds : List α}
theorem SlF.nil : SlF B h e a ([] : List α) := fun h => absurd rfl h
theorem SlF.imp (S : SlF B h e a ds) (hB : ∀ b, B b → B' b) : SlF B' h e a ds := fun hn => let ⟨b, o, h1, h2, h3⟩ := S hn; ⟨b, o, h1, hB b h2, h3⟩
theorem SlF.at_ (S : SlF B h e a ds) (hB : ∀ b, B b → h'[b]? = h[b]?) : SlF B h' e a ds := fun hn => let ⟨b, o, h1, h2, h3⟩ := S hn; ⟨b, o, h1, h2, h3.at_ (hB b h2)⟩
theorem SlF.ext (S : SlF B h e a ds) (x : Ext h h') : SlF B h' e a ds := fun hn => let ⟨b, o, h1, h2, h3⟩ := S hn; ⟨b, o, h1, h2, h3.ext x⟩
theorem SlF.elem (S : SlF B h e a ds) {s : Nat} (he : ∀ x, (e x).length = s) {i : Nat} {d : α} (hi : ds[i]? = some d) : ∃ b o, a = some ⟨b, o, none⟩ ∧ B b ∧ Row h b (o + i * s) (e d) := by
  obtain ⟨b, o, h1, h2, h3⟩ := S (by rintro rfl; simp at hi)
  refine ⟨b, o, h1, h2, ?_⟩
  have := h3.sub (i * s) s
  rwa [flatMap_at he ds i d hi] at this
theorem SlF.of_own {lo t s n c : Nat} (O : Own lo h t s a n c (ds.flatMap e)) (hn : n = ds.length) : SlF (fun b => lo ≤ b ∧ b < h.size ∧ ob a = some b) h e a ds := by
  intro hne
  have hpos : 0 < n := by rw [hn]; exact List.length_pos_iff.2 hne
  obtain ⟨g, rfl, h1, h2⟩ := O.row hpos
  exact ⟨g, 0, rfl, ⟨h1, (O.ob g rfl).2, rfl⟩, h2⟩
end

theorem row_ver {h : Heap} {b o : Nat} {v : Ver} (r : Row h b o (eVer v)) : rd h b o 4 = some (eVer v) ∧ rd h b (o + 0) 2 = some (eStamp v.at_) ∧ cel h b (o + 2) = some (.bool v.drop) ∧ cel h b (o + 3) = some (.string v.data) :=
  ⟨r.rd0 4 (Nat.le_refl _), r.rd 0 2 (by rw [eVer_len]; omega), r 2 (by rw [eVer_len]; omega), r 3 (by rw [eVer_len]; omega)⟩
theorem row_cv {h : Heap} {b o : Nat} {v : CV} (r : Row h b o (eCV v)) : rd h b o 12 = some (eCV v) ∧ cel h b (o + 0) = some (.string v.key) ∧ cel h b (o + 1) = some (.slice v.va v.vn v.vc) ∧ cel h b (o + 2) = some (.bool v.locked) ∧
    rd h b (o + 3) 9 = some (eLck v.lock) ∧ rd h b (o + 3 + 0) 4 = some (eTry v.lock.by_) ∧ rd h b (o + 3 + 5) 2 = some (eStamp v.lock.at_) ∧ cel h b (o + 3 + 7) = some (.bool v.lock.drop) ∧ cel h b (o + 3 + 8) = some (.string v.lock.data) :=
  ⟨r.rd0 12 (Nat.le_refl _), r 0 (by rw [eCV_len]; omega), r 1 (by rw [eCV_len]; omega), r 2 (by rw [eCV_len]; omega), r.rd 3 9 (by rw [eCV_len]; omega), r.rd 3 4 (by rw [eCV_len]; omega), r.rd 8 2 (by rw [eCV_len]; omega),
    r 10 (by rw [eCV_len]; omega), r 11 (by rw [eCV_len]; omega)⟩
/-! ### Cells -/
/-- The cell c lies as v, its versions in a block of B. -/
structure CR (B : Nat → Prop) (h : Heap) (v : CV) (c : Cell) : Prop where
  key : v.key = c.key
  locked : v.locked = c.locked
  lock : v.lock = c.lock
  vn : v.vn = c.vers.length
  cap : v.vn ≤ v.vc
  vers : SlF B h eVer v.va c.vers

theorem CR.imp {B B' : Nat → Prop} {h : Heap} {v : CV} {c : Cell} (r : CR B h v c) (hB : ∀ b, B b → B' b) : CR B' h v c := ⟨r.key, r.locked, r.lock, r.vn, r.cap, r.vers.imp hB⟩
theorem CR.at_ {B : Nat → Prop} {h h' : Heap} {v : CV} {c : Cell} (r : CR B h v c) (hB : ∀ b, B b → h'[b]? = h[b]?) : CR B h' v c := ⟨r.key, r.locked, r.lock, r.vn, r.cap, r.vers.at_ hB⟩
theorem CR.ext {B : Nat → Prop} {h h' : Heap} {v : CV} {c : Cell} (r : CR B h v c) (x : Ext h h') : CR B h' v c := ⟨r.key, r.locked, r.lock, r.vn, r.cap, r.vers.ext x⟩

theorem All2.get {α β : Type} {R : α → β → Prop} : ∀ {l : List α} {m : List β}, All2 R l m → ∀ {i : Nat} {b : β}, m[i]? = some b → ∃ a, l[i]? = some a ∧ R a b
  | _, _, .nil, i, b, h => by simp at h
  | _, _, .cons (a := a) r t, 0, b, h => by simp at h; subst h; exact ⟨a, rfl, r⟩
  | _, _, .cons r t, i + 1, b, h => by obtain ⟨a, h1, h2⟩ := t.get (i := i) (by simpa using h); exact ⟨a, by simpa using h1, h2⟩
theorem All2.length {α β : Type} {R : α → β → Prop} : ∀ {l : List α} {m : List β}, All2 R l m → l.length = m.length
  | _, _, .nil => rfl
  | _, _, .cons _ t => by simp [t.length]
theorem All2.append {α β : Type} {R : α → β → Prop} : ∀ {l : List α} {m : List β} {l' : List α} {m' : List β}, All2 R l m → All2 R l' m' → All2 R (l ++ l') (m ++ m')
  | _, _, _, _, .nil, u => u
  | _, _, _, _, .cons r t, u => .cons r (t.append u)

/-- A slice of cells: its row's block is one of B, the versions' are. -/
def SlC (B : Nat → Prop) (h : Heap) (a : Option Addr) (cs : List Cell) : Prop := ∃ vs : List CV, All2 (CR B h) vs cs ∧ SlF B h eCV a vs

section
variable {B B' : Nat → Prop} {h h' : Heap} {a : Option Addr} {cs : List Cell}
theorem SlC.nil : SlC B h a [] := ⟨[], .nil, .nil⟩
theorem SlC.imp (S : SlC B h a cs) (hB : ∀ b, B b → B' b) : SlC B' h a cs := let ⟨vs, h1, h2⟩ := S; ⟨vs, h1.imp fun _ _ r => r.imp hB, h2.imp hB⟩
theorem SlC.at_ (S : SlC B h a cs) (hB : ∀ b, B b → h'[b]? = h[b]?) : SlC B h' a cs := let ⟨vs, h1, h2⟩ := S; ⟨vs, h1.imp fun _ _ r => r.at_ hB, h2.at_ hB⟩
theorem SlC.ext (S : SlC B h a cs) (x : Ext h h') : SlC B h' a cs := let ⟨vs, h1, h2⟩ := S; ⟨vs, h1.imp fun _ _ r => r.ext x, h2.ext x⟩
theorem SlC.elem (S : SlC B h a cs) {i : Nat} {c : Cell} (hi : cs[i]? = some c) : ∃ b o v, a = some ⟨b, o, none⟩ ∧ B b ∧ Row h b (o + i * 12) (eCV v) ∧ CR B h v c := by
  obtain ⟨vs, h1, h2⟩ := S
  obtain ⟨v, hv, hr⟩ := h1.get hi
  obtain ⟨b, o, e1, e2, e3⟩ := h2.elem eCV_len hv
  exact ⟨b, o, v, e1, e2, e3, hr⟩
end

/-! ### A function of the model's own -/
theorem raw_ext {P : Program} {o : Oper} {σ : Env} {h : Heap} {K : Value → Heap → Prop} {f : FuncId} {fn : Func} {args : Array Operand} {at_ : Array TypeId} {e : Array Value → Sem Value} {vs : List Value} {v : Value}
    (ho : o.op = .call ⟨.value (.func f), args, at_⟩) (hf : P.funcs[f]? = some fn) (hb : fn.body.isNone = true) (hn : (fn.name == "runtime.NumGoroutine") = false) (h1 : (Extern.findNext fn).isNone = true) (h2 : Extern.find fn = some e)
    (hvs : evOs σ args.toList = some vs) (hr : ∀ w : World, w.heap = h → (e vs.toArray).run P w = .ok v w) (hK : K v h) : RawW P o σ h K := by
  have hall : ∀ (xs : List Operand) (vs : List Value), evOs σ xs = some vs → (∀ x ∈ xs, (evO σ x).isSome = true) ∧ xs.map (fun x => (evO σ x).getD undef) = vs := by
    intro xs
    induction xs with
    | nil => intro vs h; cases h; simp
    | cons x xs ih =>
      intro vs h
      simp only [evOs, Option.bind_eq_some_iff, Option.map_eq_some_iff] at h
      obtain ⟨u, hu, us, hus, rfl⟩ := h
      obtain ⟨i1, i2⟩ := ih us hus
      refine ⟨?_, by simp [hu, i2]⟩
      intro y hy
      rcases List.mem_cons.1 hy with rfl | hy
      · rw [hu]; rfl
      · exact i1 y hy
  obtain ⟨a1, a2⟩ := hall _ _ hvs
  refine ⟨?_, ?_, ?_⟩
  · rw [ho]; intro u hu
    simp only [Op.operands, Call.operands, Array.mem_append, List.mem_toArray, List.mem_cons, List.not_mem_nil, or_false] at hu
    rcases hu with rfl | hu
    · rfl
    · exact a1 u (by simpa using hu)
  · rw [ho]; intro cs b hh; cases hh
  · intro w hw
    have hargs : args.map (fun x => (evO σ x).getD undef) = vs.toArray := by apply Array.ext'; simpa using a2
    refine ⟨.value v, v, w, ?_, rfl, Same.refl w, by rw [hw]; exact hK⟩
    have hfn : Extern.findNext fn = none := by simpa using h1
    have hb' : fn.body = none := by simpa using hb
    have hn' : fn.name ≠ "runtime.NumGoroutine" := by simpa using hn
    have hfv : (evO σ (.func f)).getD undef = .func (.func f) #[] #[] := rfl
    simp [execOp, ho, resolve, hfv, Deferred.ofValue, invoke, hargs, callFunc, hf, hb', hn', hfn, h2, hr w hw]

end Go.AX
