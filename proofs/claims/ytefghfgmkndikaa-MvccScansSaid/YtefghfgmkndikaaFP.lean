/-
  Openings of structs without memory behind them. By a small program of mine (wip/tools/kds.py).
-/
import Derived.Test.YtefghfgmkndikaaFO
import Derived.Test.YtefghfgmkndikaaWH
set_option linter.unusedSimpArgs false
set_option linter.unusedVariables false
namespace Go.Proofs.Ytefghfgmkndikaa
open Go Go.AX Go.ChangeShapes Go.WideShapes Go.RowKit Go.Deep
theorem kdStamp {cs : List Value} (h0 : All2 kdV [.i .i64, .i .i64] cs) : ∃ x : Stamp, cs = eStamp x := by
  obtain ⟨_, _, rfl, ⟨a0, rfl, _⟩, h1⟩ := all2_cons h0
  obtain ⟨_, _, rfl, ⟨a1, rfl, _⟩, h2⟩ := all2_cons h1
  have := all2_nil h2; subst this
  exact ⟨⟨a0, a1⟩, rfl⟩
theorem str39 : isStr Try.prog 39 = true := by kernel_rfl
theorem flat39 : flatT Try.prog 20 39 = some [.i .i64, .i .i64] := by kernel_rfl
theorem kdTry {cs : List Value} (h0 : All2 kdV [.i .i64, .i .i64, .i .i64, .i .i64] cs) : ∃ x : Try4, cs = eTry x := by
  obtain ⟨_, _, rfl, ⟨a0, rfl, _⟩, h1⟩ := all2_cons h0
  obtain ⟨_, _, rfl, ⟨a1, rfl, _⟩, h2⟩ := all2_cons h1
  obtain ⟨_, _, rfl, ⟨a2, rfl, _⟩, h3⟩ := all2_cons h2
  obtain ⟨_, _, rfl, ⟨a3, rfl, _⟩, h4⟩ := all2_cons h3
  have := all2_nil h4; subst this
  exact ⟨⟨a0, a1, a2, a3⟩, rfl⟩
theorem str37 : isStr Try.prog 37 = true := by kernel_rfl
theorem flat37 : flatT Try.prog 20 37 = some [.i .i64, .i .i64, .i .i64, .i .i64] := by kernel_rfl
theorem kdWri {cs : List Value} (h0 : All2 kdV [.s, .b, .s] cs) : ∃ x : Wri, cs = eWri x := by
  obtain ⟨_, _, rfl, ⟨a0, rfl, _⟩, h1⟩ := all2_cons h0
  obtain ⟨_, _, rfl, ⟨a1, rfl⟩, h2⟩ := all2_cons h1
  obtain ⟨_, _, rfl, ⟨a2, rfl, _⟩, h3⟩ := all2_cons h2
  have := all2_nil h3; subst this
  exact ⟨⟨a0, a1, a2⟩, rfl⟩
theorem str70 : isStr Try.prog 70 = true := by kernel_rfl
theorem flat70 : flatT Try.prog 20 70 = some [.s, .b, .s] := by kernel_rfl
theorem kdSpn {cs : List Value} (h0 : All2 kdV [.s, .s] cs) : ∃ x : Spn, cs = eSpn x := by
  obtain ⟨_, _, rfl, ⟨a0, rfl, _⟩, h1⟩ := all2_cons h0
  obtain ⟨_, _, rfl, ⟨a1, rfl, _⟩, h2⟩ := all2_cons h1
  have := all2_nil h2; subst this
  exact ⟨⟨a0, a1⟩, rfl⟩
theorem str94 : isStr Try.prog 94 = true := by kernel_rfl
theorem flat94 : flatT Try.prog 20 94 = some [.s, .s] := by kernel_rfl
theorem kdVer {cs : List Value} (h0 : All2 kdV [.i .i64, .i .i64, .b, .s] cs) : ∃ x : Ver, cs = eVer x := by
  obtain ⟨_, _, rfl, ⟨a0, rfl, _⟩, h1⟩ := all2_cons h0
  obtain ⟨_, _, rfl, ⟨a1, rfl, _⟩, h2⟩ := all2_cons h1
  obtain ⟨_, _, rfl, ⟨a2, rfl⟩, h3⟩ := all2_cons h2
  obtain ⟨_, _, rfl, ⟨a3, rfl, _⟩, h4⟩ := all2_cons h3
  have := all2_nil h4; subst this
  exact ⟨⟨⟨a0, a1⟩, a2, a3⟩, rfl⟩
theorem str108 : isStr Try.prog 108 = true := by kernel_rfl
theorem flat108 : flatT Try.prog 20 108 = some [.i .i64, .i .i64, .b, .s] := by kernel_rfl
theorem kdLck {cs : List Value} (h0 : All2 kdV [.i .i64, .i .i64, .i .i64, .i .i64, .i .i64, .i .i64, .i .i64, .b, .s] cs) : ∃ x : Lck, cs = eLck x := by
  obtain ⟨_, _, rfl, ⟨a0, rfl, _⟩, h1⟩ := all2_cons h0
  obtain ⟨_, _, rfl, ⟨a1, rfl, _⟩, h2⟩ := all2_cons h1
  obtain ⟨_, _, rfl, ⟨a2, rfl, _⟩, h3⟩ := all2_cons h2
  obtain ⟨_, _, rfl, ⟨a3, rfl, _⟩, h4⟩ := all2_cons h3
  obtain ⟨_, _, rfl, ⟨a4, rfl, _⟩, h5⟩ := all2_cons h4
  obtain ⟨_, _, rfl, ⟨a5, rfl, _⟩, h6⟩ := all2_cons h5
  obtain ⟨_, _, rfl, ⟨a6, rfl, _⟩, h7⟩ := all2_cons h6
  obtain ⟨_, _, rfl, ⟨a7, rfl⟩, h8⟩ := all2_cons h7
  obtain ⟨_, _, rfl, ⟨a8, rfl, _⟩, h9⟩ := all2_cons h8
  have := all2_nil h9; subst this
  exact ⟨⟨⟨a0, a1, a2, a3⟩, a4, ⟨a5, a6⟩, a7, a8⟩, rfl⟩
theorem str72 : isStr Try.prog 72 = true := by kernel_rfl
theorem flat72 : flatT Try.prog 20 72 = some [.i .i64, .i .i64, .i .i64, .i .i64, .i .i64, .i .i64, .i .i64, .b, .s] := by kernel_rfl
theorem kdOp8 {cs : List Value} (h0 : All2 kdV [.i .i64, .s, .b, .s, .i .i64, .i .i64, .i .i64, .i .i64, .i .i64, .i .i64, .i .i64, .b, .s, .b] cs) : ∃ x : Op8, cs = eOp8 x := by
  obtain ⟨_, _, rfl, ⟨a0, rfl, _⟩, h1⟩ := all2_cons h0
  obtain ⟨_, _, rfl, ⟨a1, rfl, _⟩, h2⟩ := all2_cons h1
  obtain ⟨_, _, rfl, ⟨a2, rfl⟩, h3⟩ := all2_cons h2
  obtain ⟨_, _, rfl, ⟨a3, rfl, _⟩, h4⟩ := all2_cons h3
  obtain ⟨_, _, rfl, ⟨a4, rfl, _⟩, h5⟩ := all2_cons h4
  obtain ⟨_, _, rfl, ⟨a5, rfl, _⟩, h6⟩ := all2_cons h5
  obtain ⟨_, _, rfl, ⟨a6, rfl, _⟩, h7⟩ := all2_cons h6
  obtain ⟨_, _, rfl, ⟨a7, rfl, _⟩, h8⟩ := all2_cons h7
  obtain ⟨_, _, rfl, ⟨a8, rfl, _⟩, h9⟩ := all2_cons h8
  obtain ⟨_, _, rfl, ⟨a9, rfl, _⟩, h10⟩ := all2_cons h9
  obtain ⟨_, _, rfl, ⟨a10, rfl, _⟩, h11⟩ := all2_cons h10
  obtain ⟨_, _, rfl, ⟨a11, rfl⟩, h12⟩ := all2_cons h11
  obtain ⟨_, _, rfl, ⟨a12, rfl, _⟩, h13⟩ := all2_cons h12
  obtain ⟨_, _, rfl, ⟨a13, rfl⟩, h14⟩ := all2_cons h13
  have := all2_nil h14; subst this
  exact ⟨⟨a0, ⟨a1, a2, a3⟩, ⟨⟨a4, a5, a6, a7⟩, a8, ⟨a9, a10⟩, a11, a12⟩, a13⟩, rfl⟩
theorem str78 : isStr Try.prog 78 = true := by kernel_rfl
theorem flat78 : flatT Try.prog 20 78 = some [.i .i64, .s, .b, .s, .i .i64, .i .i64, .i .i64, .i .i64, .i .i64, .i .i64, .i .i64, .b, .s, .b] := by kernel_rfl
section
variable {H : Type} {enc : TypeId × Value → H} {w : World} {base : Nat} {t : TypeId} {v : Value} {d : DataW H} {p : List MemPlace}
set_option maxRecDepth 100000 in
/-- A slice of flat structs as an argument. -/
theorem argFlat {α : Type} {e : α → List Value} {s te : TypeId} {ks : List Kd} (ht : Try.prog.underlying t = some (.slice te)) (hk : flatT Try.prog 20 te = some ks) (hs : Try.prog.cellsOf te = s) (hpos : 0 < s)
    (he : ∀ cs, All2 kdV ks cs → ∃ a, cs = e a) (hel : ∀ a, (e a).length = s) (hv : Value.okWide Try.prog w .any base t v) (h : DataW.Trod enc Try.prog w 0 (fun _ => true) true t v d p) :
    ∃ a c ds, v = .slice a ds.length c ∧ ds.length ≤ maxLen ∧ ds.length ≤ c ∧ SlF (fun b => b < w.heap.size) w.heap e a ds := by
  obtain ⟨a0, n0, c0, rfl⟩ := okWide_slice ht hv
  obtain ⟨fuel, hf⟩ := h
  obtain ⟨a, n, c, ds, hcs, hl, hnc, hc, S⟩ := open_flat ht hk hs hpos he hel hf
  have : a0 = a ∧ n0 = n ∧ c0 = c := by simpa [Value.cells] using hcs
  obtain ⟨rfl, rfl, rfl⟩ := this
  subst hl
  exact ⟨_, _, ds, rfl, Nat.le_trans hnc hc, hnc, S⟩
end
theorem und4 : Try.prog.underlying 4 = some .bool := by kernel_rfl
theorem und9 : Try.prog.underlying 9 = some .string := by kernel_rfl
theorem und3 : Try.prog.underlying 3 = some (.int .i64) := by kernel_rfl
theorem und2 : Try.prog.underlying 2 = some (.int .i64) := by kernel_rfl
theorem und68 : Try.prog.underlying 68 = some (.slice 78) := by kernel_rfl


end Go.Proofs.Ytefghfgmkndikaa
