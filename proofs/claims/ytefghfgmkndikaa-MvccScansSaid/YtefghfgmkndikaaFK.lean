/-
  Rules for going through code, such that nothing is looked at ahead of its time: what comes behind is a closed word until its value is known.
-/
import Derived.Test.YtefghfgmkndikaaFJ
set_option linter.unusedSimpArgs false
set_option linter.unusedVariables false
namespace Go.AX
open Go
section
variable (P : Program) (m : Option Md) (r : List I) (C : Env → Heap → Prop) (d : Nat) (σ : Env) (h : Heap)
def K1 (v : Value) : Prop := wL P m r 0 C ((d, v) :: σ) h
theorem K1_eq (v : Value) : K1 P m r C d σ h v = wL P m r 0 C ((d, v) :: σ) h := rfl
def Kld1 (q : Nat × Nat) : Prop := ldOk m q.1 ∧ bd (cel (ldHeap m h) q.1 q.2) (K1 P m r C d σ h)
theorem Kld1_eq (b o : Nat) : Kld1 P m r C d σ h (b, o) = (ldOk m b ∧ bd (cel (ldHeap m h) b o) (K1 P m r C d σ h)) := rfl
def Kldn (n : Nat) (q : Nat × Nat) : Prop := ldOk m q.1 ∧ bd ((rd (ldHeap m h) q.1 q.2 n).map fun l => .agg l.toArray) (K1 P m r C d σ h)
theorem Kldn_eq (n b o : Nat) : Kldn P m r C d σ h n (b, o) = (ldOk m b ∧ bd ((rd (ldHeap m h) b o n).map fun l => .agg l.toArray) (K1 P m r C d σ h)) := rfl
def Kiad (sz : Nat) (q : (Nat × Nat × Nat × Nat) × Int) : Prop := 0 ≤ q.2 ∧ q.2 < q.1.2.2.1 ∧ wL P m r 0 C ((d, ptr q.1.1 (q.1.2.1 + q.2.toNat * sz)) :: σ) h
theorem Kiad_eq (sz b o n c : Nat) (k : Int) : Kiad P m r C d σ h sz ((b, o, n, c), k) = (0 ≤ k ∧ k < n ∧ wL P m r 0 C ((d, ptr b (o + k.toNat * sz)) :: σ) h) := rfl
def Ksc (c : Nat) (w : Bool) (n : Nat) (t : Bool) : Prop := br (t == w) (wL P m r 0 C ((c, .bool w) :: σ) h) (wL P m r n C ((c, .bool (!w)) :: σ) h)
theorem Ksc_eq (c : Nat) (w : Bool) (n : Nat) (t : Bool) : Ksc P m r C σ h c w n t = br (t == w) (wL P m r 0 C ((c, .bool w) :: σ) h) (wL P m r n C ((c, .bool (!w)) :: σ) h) := rfl
def KgS (w : Bool) (k : Nat) (d : Option Nat) (v : Value) : Prop := notB v w = true ∧ wL P m r k C (putE σ d undef) h
theorem KgS_eq (w : Bool) (k : Nat) (d : Option Nat) (v : Value) : KgS P m r C σ h w k d v = (notB v w = true ∧ wL P m r k C (putE σ d undef) h) := rfl
@[reducible] def Kret (d : Option Nat) (v : Value) (h' : Heap) : Prop := kpOk m h h' ∧ wL P m r 0 C (putE σ d v) h'
theorem Kret_eq (d : Option Nat) (v : Value) (h' : Heap) : Kret P m r C σ h d v h' = (kpOk m h h' ∧ wL P m r 0 C (putE σ d v) h') := rfl
def Kcall (f : Nat) (d : Option Nat) (vs : List Value) : Prop := CallsH P f vs h (Kret P m r C σ h d)
theorem Kcall_eq (f : Nat) (d : Option Nat) (vs : List Value) : Kcall P m r C σ h f d vs = CallsH P f vs h (Kret P m r C σ h d) := rfl
end
def iadV (x i : Option Value) : Option ((Nat × Nat × Nat × Nat) × Int) := (x.bind asSl).bind fun q => (i.bind asI).map fun k => (q, k)
section
variable {P : Program} {m : Option Md} {C : Env → Heap → Prop} {σ : Env} {h : Heap} {r : List I}
theorem bd_b {α β : Type} (o : Option α) (f : α → Option β) (k : β → Prop) : (bd o fun v => bd (f v) k) = bd (o.bind f) k := by cases o <;> rfl
theorem xL_sc (c : Nat) (w : Bool) (n : Nat) : wL P m (.sc c w n :: r) 0 C σ h = bd ((look σ c).bind asB) (Ksc P m r C σ h c w n) := by rw [← bd_b]; rfl
theorem xL_gS (c : Nat) (w : Bool) (j : J) (k : Nat) : wL P m (.g c w j :: r) (k + 1) C σ h = bd (look σ c) (KgS P m r C σ h w k j.dst) := rfl
theorem xL_mov (d : Nat) (x : Operand) : wL P m (.op (.mov d x) :: r) 0 C σ h = bd (evO σ x) (K1 P m r C d σ h) := rfl
theorem xL_pick (d : Nat) (c a b : Operand) : wL P m (.op (.pick d c a b) :: r) 0 C σ h = bd (((evO σ c).bind asB).bind fun t => evO σ (bif t then a else b)) (K1 P m r C d σ h) := by rw [← bd_b, ← bd_b]; rfl
theorem xL_ld1 (d : Nat) (x : Operand) : wL P m (.op (.ld d none x) :: r) 0 C σ h = bd ((evO σ x).bind asP) (Kld1 P m r C d σ h) := by rw [← bd_b]; rfl
theorem bd_m {α β : Type} (o : Option α) (f : α → β) (k : β → Prop) : (bd o fun v => k (f v)) = bd (o.map f) k := by cases o <;> rfl
theorem xL_ldn (d n : Nat) (x : Operand) : wL P m (.op (.ld d (some n) x) :: r) 0 C σ h = bd ((evO σ x).bind asP) (Kldn P m r C d σ h n) := by
  rw [← bd_b]; unfold Kldn; simp only [← bd_m]; rfl
theorem xL_fad (d off : Nat) (x : Operand) : wL P m (.op (.fad d off x) :: r) 0 C σ h = bd (((evO σ x).bind asP).map fun q => ptr q.1 (q.2 + off)) (K1 P m r C d σ h) := by rw [← bd_m, ← bd_b]; rfl
theorem xL_iad (d sz : Nat) (x i : Operand) : wL P m (.op (.iad d sz x i) :: r) 0 C σ h = bd (iadV (evO σ x) (evO σ i)) (Kiad P m r C d σ h sz) := by
  rw [wL_iad]
  unfold iadV
  cases evO σ x with
  | none => rfl
  | some v =>
    cases evO σ i with
    | none => simp only [bd_some, Option.bind_some, Option.bind_none, Option.map_none]; cases asSl v <;> rfl
    | some u =>
      simp only [bd_some, Option.bind_some]
      cases asSl v with
      | none => rfl
      | some q => cases asI u <;> rfl
theorem xL_ext (d : Nat) (x : Operand) (i : Nat) : wL P m (.op (.ext d x i) :: r) 0 C σ h = bd ((evO σ x).bind (extV i)) (K1 P m r C d σ h) := by rw [← bd_b]; rfl
theorem bd_2 (x y : Option Value) (f : Value → Value → Option Value) (k : Value → Prop) : (bd x fun v => bd y fun u => bd (f v u) k) = bd (x.bind fun v => y.bind fun u => f v u) k := by cases x <;> cases y <;> rfl
theorem xL_bin (d : Nat) (op : BinOp) (x y : Operand) : wL P m (.op (.bin d op x y) :: r) 0 C σ h = bd ((evO σ x).bind fun v => (evO σ y).bind fun u => binV op v u) (K1 P m r C d σ h) := by rw [← bd_2]; rfl
theorem xL_eqb (d : Nat) (neg : Bool) (x y : Operand) : wL P m (.op (.eqb d neg x y) :: r) 0 C σ h = bd ((evO σ x).bind fun v => (evO σ y).bind fun u => eqB neg v u) (K1 P m r C d σ h) := by rw [← bd_2]; rfl
theorem xL_eqn (d : Nat) (s neg : Bool) (x y : Operand) : wL P m (.op (.eqn d s neg x y) :: r) 0 C σ h = bd ((evO σ x).bind fun v => (evO σ y).bind fun u => eqN s neg v u) (K1 P m r C d σ h) := by rw [← bd_2]; rfl
theorem xL_eqa (d : Nat) (neg : Bool) (ks : List Kd) (x y : Operand) : wL P m (.op (.eqa d neg ks x y) :: r) 0 C σ h = bd ((evO σ x).bind fun v => (evO σ y).bind fun u => eqA neg ks v u) (K1 P m r C d σ h) := by rw [← bd_2]; rfl
theorem xL_un (d : Nat) (op : UnOp) (x : Operand) : wL P m (.op (.un d op x) :: r) 0 C σ h = bd ((evO σ x).bind (unV op)) (K1 P m r C d σ h) := by rw [← bd_b]; rfl
theorem xL_len (d : Nat) (s : Bool) (x : Operand) : wL P m (.op (.len d s x) :: r) 0 C σ h = bd ((evO σ x).bind (lenV s)) (K1 P m r C d σ h) := by rw [← bd_b]; rfl
theorem xL_cap (d : Nat) (x : Operand) : wL P m (.op (.cap d x) :: r) 0 C σ h = bd ((evO σ x).bind capV) (K1 P m r C d σ h) := by rw [← bd_b]; rfl
theorem xL_mm (d : Nat) (mx : Bool) (x y : Operand) : wL P m (.op (.mm d mx x y) :: r) 0 C σ h = bd ((evO σ x).bind fun v => (evO σ y).bind fun u => maxV mx v u) (K1 P m r C d σ h) := by rw [← bd_2]; rfl
theorem xL_cvt (d : Nat) (k : IntKind) (x : Operand) : wL P m (.op (.cvt d k x) :: r) 0 C σ h = bd ((evO σ x).bind (cvtV k)) (K1 P m r C d σ h) := by rw [← bd_b]; rfl
theorem xL_bld (d : Nat) (zero : List Value) (parts : List (Nat × Nat × Operand)) : wL P m (.op (.bld d zero parts) :: r) 0 C σ h = bd ((fillL σ zero parts).map fun cs => .agg cs.toArray) (K1 P m r C d σ h) := by rw [← bd_m]; rfl
theorem xL_fn (d f : Nat) (caps : List Operand) : wL P m (.op (.fn d f caps) :: r) 0 C σ h = bd ((evOs σ caps).map fun cs => .func (.func f) #[] cs.toArray) (K1 P m r C d σ h) := by rw [← bd_m]; rfl
theorem xL_call (d : Option Nat) (f : Nat) (args : List Operand) : wL P m (.op (.call d f args) :: r) 0 C σ h = bd (evOs σ args) (Kcall P m r C σ h f d) := rfl
end
theorem iadV_some (b o n c : Nat) (t : IntKind) (k : Int) : iadV (some (.slice (some ⟨b, o, none⟩) n c)) (some (.int t k)) = some ((b, o, n, c), k) := rfl
def Kslc (P : Program) (m : Option Md) (r : List I) (C : Env → Heap → Prop) (d : Nat) (σ : Env) (h : Heap) (sz : Nat) (q : Value × Option Value × Option Value × Option Value) : Prop := slcV sz q.1 q.2.1 q.2.2.1 q.2.2.2 (K1 P m r C d σ h)
theorem Kslc_eq (P : Program) (m : Option Md) (r : List I) (C : Env → Heap → Prop) (d : Nat) (σ : Env) (h : Heap) (sz : Nat) (v : Value) (a b c : Option Value) : Kslc P m r C d σ h sz (v, a, b, c) = slcV sz v a b c (K1 P m r C d σ h) := rfl
theorem xL_slc {P : Program} {m : Option Md} {C : Env → Heap → Prop} {σ : Env} {h : Heap} {r : List I} (d sz : Nat) (x : Operand) (lo hi mx : Option Operand) : wL P m (.op (.slc d sz x lo hi mx) :: r) 0 C σ h =
    bd ((evO σ x).bind fun v => (evOo σ lo).bind fun l => (evOo σ hi).bind fun u => (evOo σ mx).map fun m => (v, l, u, m)) (Kslc P m r C d σ h sz) := by
  rw [wL_slc]
  cases evO σ x with
  | none => rfl
  | some v =>
    cases evOo σ lo with
    | none => rfl
    | some l =>
      cases evOo σ hi with
      | none => rfl
      | some u => cases evOo σ mx <;> rfl
set_option linter.defProp false in
/-- All the rules as one. -/
def AXS := And.intro @bd_some <|
  And.intro @br_true <|
  And.intro @br_false <|
  And.intro @wL_nil <|
  And.intro @wL_kp <|
  And.intro @wL_g <|
  And.intro @wL_kpS <|
  And.intro @wL_scS <|
  And.intro @wL_nch <|
  And.intro @ldOk_none <|
  And.intro @ldHeap_none <|
  And.intro @kpOk_none <|
  And.intro @ldOk_some <|
  And.intro @ldHeap_some <|
  And.intro @then_normal <|
  And.intro @then_exit <|
  And.intro @then_ret <|
  And.intro @inBlock_normal <|
  And.intro @inBlock_ret <|
  And.intro @inBlock_exit <|
  And.intro @endW_ret <|
  And.intro @endW_normal <|
  And.intro @evO_tmp <|
  And.intro @evO_const <|
  And.intro @evO_func <|
  And.intro @look_cons <|
  And.intro @keep_cons <|
  And.intro @keep_nil <|
  And.intro @kc_some <|
  And.intro @evOs_cons <|
  And.intro @evOs_nil <|
  And.intro @evOo_none <|
  And.intro @evOo_some <|
  And.intro @asB_bool <|
  And.intro @asI_int <|
  And.intro @asP_ptr <|
  And.intro @asSl_sl <|
  And.intro @extV_tuple <|
  And.intro @unV_not <|
  And.intro @lenV_sl <|
  And.intro @lenV_str <|
  And.intro @capV_sl <|
  And.intro @eqB_bool <|
  And.intro @cvtV_int <|
  And.intro @maxV_int <|
  And.intro @notB_ft <|
  And.intro @notB_tf <|
  And.intro @br_eqT <|
  And.intro @br_eqF <|
  And.intro @notB_undef <|
  And.intro @putE_some <|
  And.intro @putE_none <|
  And.intro @one_one <|
  And.intro @one_two <|
  And.intro @resV_nil <|
  And.intro @resV_tmp <|
  And.intro @resV_cell <|
  And.intro @envOf_nil <|
  And.intro @envOf_cons <|
  And.intro @fillL_nil <|
  And.intro @fillL_cons <|
  And.intro @putL_nil <|
  And.intro @putL_cons <|
  And.intro @binV_add <|
  And.intro @binV_sub <|
  And.intro @binV_mul <|
  And.intro @binV_eql <|
  And.intro @binV_neq <|
  And.intro @binV_lss <|
  And.intro @binV_leq <|
  And.intro @binV_gtr <|
  And.intro @binV_geq <|
  And.intro @binS_eql <|
  And.intro @binS_neq <|
  And.intro @binS_lss <|
  And.intro @binS_leq <|
  And.intro @binS_gtr <|
  And.intro @binS_geq <|
  And.intro @xL_sc <|
  And.intro @xL_gS <|
  And.intro @xL_mov <|
  And.intro @xL_pick <|
  And.intro @xL_ld1 <|
  And.intro @xL_ldn <|
  And.intro @xL_fad <|
  And.intro @xL_iad <|
  And.intro @xL_ext <|
  And.intro @xL_bin <|
  And.intro @xL_eqb <|
  And.intro @xL_eqn <|
  And.intro @xL_eqa <|
  And.intro @xL_un <|
  And.intro @xL_len <|
  And.intro @xL_cap <|
  And.intro @xL_mm <|
  And.intro @xL_cvt <|
  And.intro @xL_bld <|
  And.intro @xL_fn <|
  And.intro @xL_call <|
  And.intro @xL_slc <|
  And.intro @iadV_some <|
  And.intro @K1_eq <|
  And.intro @Kld1_eq <|
  And.intro @Kldn_eq <|
  And.intro @Kiad_eq <|
  And.intro @Ksc_eq <|
  And.intro @KgS_eq <|
  And.intro @Kret_eq <|
  And.intro @Kcall_eq <|
  @Kslc_eq
end Go.AX
