/-
  By a program of mine (wip/tools/gen.py): the code of functions of the seat in the small instruction language, and that it is their code.
-/
import Derived.Test.YtefghfgmkndikaaM2
import Derived.Test.YtefghfgmkndikaaProg
set_option linter.unusedSimpArgs false
set_option linter.unusedVariables false
namespace Go.Proofs.Ytefghfgmkndikaa
open Go.AX
set_option maxRecDepth 100000
/-! ### f13: antipode/antipodelaw8.MvccAny -/
def f13r0 : List I := [.op (.box 9 39 (.tmp 2)),
  .op (.box 10 94 (.tmp 3)),
  .op (.box 11 37 (.tmp 4)),
  .op (.box 13 78 (.tmp 6)),
  .op (.mov 14 (.const (.bool false))),
  .kp [0, 1, 5, 9, 10, 11, 13]]
def f13r1 : List I := [.op (.call (some 17) 35 []),
  .op (.un 18 .not (.tmp 17)),
  .kp [0, 1, 5, 9, 10, 11, 13, 18]]
def f13r2 : List I := [.op (.mov 14 (.const (.bool false))),
  .kp [14]]
def f13r3a : List I := [.op (.mov 27 (.tmp 26)),
  .sc 27 false 4,
  .g 27 false (.ld 28 (some 14) (.tmp 13)),
  .g 27 false (.bsl 29 78 1 [.int .i64 0, .string ⟨#[]⟩, .bool false, .string ⟨#[]⟩, .int .i64 0, .int .i64 0, .int .i64 0, .int .i64 0, .int .i64 0, .int .i64 0, .int .i64 0, .bool false, .string ⟨#[]⟩, .bool false] [(0, 14, (.tmp 28))]),
  .g 27 false (.call (some 30) 36 [(.tmp 29), (.const (.int .i64 1))]),
  .g 27 false (.un 31 .not (.tmp 30)),
  .op (.pick 32 (.tmp 27) (.const (.bool true)) (.tmp 31)),
  .kp [32, 0, 1, 5, 9, 10, 11, 13]]
def f13r3 : List I := .op (.mov 19 (.tmp 0)) ::
  .op (.call (some 20) 50 [(.tmp 19)]) ::
  .op (.un 21 .not (.tmp 20)) ::
  .op (.mov 22 (.tmp 21)) ::
  .sc 22 false 3 ::
  .g 22 false (.mov 23 (.tmp 1)) ::
  .g 22 false (.len 24 false (.tmp 23)) ::
  .g 22 false (.bin 25 .gtr (.tmp 24) (.const (.int .i64 100))) ::
  .op (.pick 26 (.tmp 22) (.const (.bool true)) (.tmp 25)) ::
  .kp [26, 0, 1, 5, 9, 10, 11, 13] ::
  f13r3a
def f13r4 : List I := [.op (.mov 14 (.const (.bool true))),
  .kp [14]]
def f13r5 : List I := [.op (.mov 33 (.tmp 0)),
  .op (.call (some 34) 51 [(.tmp 33)]),
  .op (.un 35 .not (.tmp 34)),
  .kp [0, 1, 5, 9, 10, 11, 13, 35]]
def f13r6 : List I := [.op (.mov 36 (.tmp 0)),
  .op (.call (some 37) 45 [(.tmp 36)]),
  .op (.un 38 .not (.tmp 37)),
  .op (.mov 14 (.tmp 38)),
  .kp [14]]
def f13r7 : List I := [.op (.mov 40 (.tmp 0)),
  .op (.ld 41 (some 14) (.tmp 13)),
  .op (.call (some 42) 37 [(.tmp 40), (.tmp 41)]),
  .op (.mov 39 (.tmp 42)),
  .op (.ext 43 (.tmp 39) 0),
  .op (.ext 44 (.tmp 39) 1),
  .op (.mov 15 (.tmp 43)),
  .op (.mov 16 (.tmp 44)),
  .kp [0, 1, 5, 9, 10, 11, 15, 16]]
def f13r8a : List I := [.op (.mov 14 (.tmp 56)),
  .kp [14]]
def f13r8 : List I := .op (.mov 45 (.tmp 0)) ::
  .op (.mov 46 (.tmp 1)) ::
  .op (.ld 47 (some 2) (.tmp 9)) ::
  .op (.ld 48 (some 2) (.tmp 10)) ::
  .op (.ld 49 (some 4) (.tmp 11)) ::
  .op (.mov 50 (.tmp 5)) ::
  .op (.call (some 51) 49 [(.tmp 45), (.tmp 46), (.tmp 47), (.tmp 48), (.tmp 49), (.tmp 50)]) ::
  .op (.mov 52 (.tmp 51)) ::
  .sc 52 true 3 ::
  .g 52 true (.mov 53 (.tmp 15)) ::
  .g 52 true (.mov 54 (.tmp 16)) ::
  .g 52 true (.call (some 55) 43 [(.tmp 53), (.tmp 54)]) ::
  .op (.pick 56 (.tmp 52) (.tmp 55) (.const (.bool false))) ::
  .kp [56] ::
  f13r8a
def f13c3 : C := (.seq (.reg f13r2) .ret)
def f13c6 : C := (.seq (.reg f13r4) .ret)
def f13c9 : C := (.seq (.reg f13r6) .ret)
def f13c11 : C := (.seq (.reg f13r8) .ret)
def f13c10 : C := (.seq (.reg f13r7) f13c11)
def f13c8 : C := (.seq (.cond (.tmp 35) f13c9 .skip) f13c10)
def f13c7 : C := (.seq (.reg f13r5) f13c8)
def f13c5 : C := (.seq (.cond (.tmp 32) f13c6 .skip) f13c7)
def f13c4 : C := (.seq (.reg f13r3) f13c5)
def f13c2 : C := (.seq (.cond (.tmp 18) f13c3 .skip) f13c4)
def f13c1 : C := (.seq (.reg f13r1) f13c2)
def f13c0 : C := (.seq (.reg f13r0) f13c1)
theorem f13cmp : cmpF Try.prog Try.f13 [.l [.o 0, .o 1, .o 2, .o 3, .o 4, .kp [0, 1, 5, 9, 10, 11, 13]],
  .l [.o 0, .o 1, .kp [0, 1, 5, 9, 10, 11, 13, 18]],
  .l [.o 0, .kp [14]],
  .l [.o 0, .o 1, .o 2, .o 3, .sc 22 false 3, .o 4, .o 5, .o 6, .o 7, .kp [26, 0, 1, 5, 9, 10, 11, 13], .o 8, .sc 27 false 4, .o 9, .o 10, .o 11, .o 12, .o 13, .kp [32, 0, 1, 5, 9, 10, 11, 13]],
  .l [.o 0, .kp [14]],
  .l [.o 0, .o 1, .o 2, .kp [0, 1, 5, 9, 10, 11, 13, 35]],
  .l [.o 0, .o 1, .o 2, .o 3, .kp [14]],
  .l [.o 0, .o 1, .o 2, .o 3, .o 4, .o 5, .o 6, .o 7, .kp [0, 1, 5, 9, 10, 11, 15, 16]],
  .l [.o 0, .o 1, .o 2, .o 3, .o 4, .o 5, .o 6, .o 7, .sc 52 true 3, .o 8, .o 9, .o 10, .o 11, .kp [56], .o 12, .kp [14]]] = some (f13c0, [.tmp 14]) := by kernel_rfl
theorem f13ok {args : List Value} {h : Heap} {R : Value → Heap → Prop} (hn : args.length ≤ 57) (H : wC Try.prog f13c0 (endW [.tmp 14] R) (envOf 0 args) h) : CallsH Try.prog 13 args h R :=
  fn_ok2 Try.func13 f13cmp hn H
theorem f13cal : callable Try.prog 13 = true := by kernel_rfl
section
variable {Q : X → Env → Heap → Prop} {σ : Env} {h : Heap}
theorem f13c3_eq : wC Try.prog f13c3 Q σ h = (wL Try.prog none f13r2 0 (fun σ h => Q .ret σ h) σ h) := rfl
theorem f13c6_eq : wC Try.prog f13c6 Q σ h = (wL Try.prog none f13r4 0 (fun σ h => Q .ret σ h) σ h) := rfl
theorem f13c9_eq : wC Try.prog f13c9 Q σ h = (wL Try.prog none f13r6 0 (fun σ h => Q .ret σ h) σ h) := rfl
theorem f13c11_eq : wC Try.prog f13c11 Q σ h = (wL Try.prog none f13r8 0 (fun σ h => Q .ret σ h) σ h) := rfl
theorem f13c10_eq : wC Try.prog f13c10 Q σ h = (wL Try.prog none f13r7 0 (fun σ h => wC Try.prog f13c11 Q σ h) σ h) := rfl
theorem f13c8_eq : wC Try.prog f13c8 Q σ h = (bd (evO σ (.tmp 35)) fun v => bd (asB v) fun t => br t (wC Try.prog f13c9 (X.then (fun σ h => wC Try.prog f13c10 Q σ h) Q) σ h) (wC Try.prog f13c10 Q σ h)) := rfl
theorem f13c7_eq : wC Try.prog f13c7 Q σ h = (wL Try.prog none f13r5 0 (fun σ h => wC Try.prog f13c8 Q σ h) σ h) := rfl
theorem f13c5_eq : wC Try.prog f13c5 Q σ h = (bd (evO σ (.tmp 32)) fun v => bd (asB v) fun t => br t (wC Try.prog f13c6 (X.then (fun σ h => wC Try.prog f13c7 Q σ h) Q) σ h) (wC Try.prog f13c7 Q σ h)) := rfl
theorem f13c4_eq : wC Try.prog f13c4 Q σ h = (wL Try.prog none f13r3 0 (fun σ h => wC Try.prog f13c5 Q σ h) σ h) := rfl
theorem f13c2_eq : wC Try.prog f13c2 Q σ h = (bd (evO σ (.tmp 18)) fun v => bd (asB v) fun t => br t (wC Try.prog f13c3 (X.then (fun σ h => wC Try.prog f13c4 Q σ h) Q) σ h) (wC Try.prog f13c4 Q σ h)) := rfl
theorem f13c1_eq : wC Try.prog f13c1 Q σ h = (wL Try.prog none f13r1 0 (fun σ h => wC Try.prog f13c2 Q σ h) σ h) := rfl
theorem f13c0_eq : wC Try.prog f13c0 Q σ h = (wL Try.prog none f13r0 0 (fun σ h => wC Try.prog f13c1 Q σ h) σ h) := rfl
end
end Go.Proofs.Ytefghfgmkndikaa
