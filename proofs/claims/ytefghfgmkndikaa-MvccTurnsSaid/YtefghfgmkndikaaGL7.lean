/-
  By a program of mine (wip/tools/gen.py): the code of functions of the seat in the small instruction language, and that it is their code.
-/
import Derived.Test.YtefghfgmkndikaaFM
import Derived.Test.YtefghfgmkndikaaProg
set_option linter.unusedSimpArgs false
set_option linter.unusedVariables false
namespace Go.Proofs.Ytefghfgmkndikaa
open Go.AX
set_option maxRecDepth 100000
/-! ### f7: antipode/antipodelaw8.MvccTurns -/
def f7r0 : List I := [.op (.box 6 37 (.tmp 1)),
  .op (.box 7 37 (.tmp 2)),
  .op (.mov 10 (.const (.bool false))),
  .kp [0, 3, 4, 6, 7]]
def f7r1 : List I := [.op (.call (some 13) 35 []),
  .op (.un 14 .not (.tmp 13)),
  .kp [0, 3, 4, 6, 7, 14]]
def f7r2 : List I := [.op (.mov 10 (.const (.bool false))),
  .kp [10]]
def f7r3 : List I := [.op (.mov 15 (.tmp 0)),
  .op (.call (some 16) 36 [(.tmp 15), (.const (.int .i64 40))]),
  .op (.un 17 .not (.tmp 16)),
  .op (.mov 18 (.tmp 17)),
  .sc 18 false 3,
  .g 18 false (.ld 19 (some 4) (.tmp 6)),
  .g 18 false (.ld 20 (some 4) (.tmp 7)),
  .g 18 false (.eqa 21 false [.i .i64, .i .i64, .i .i64, .i .i64] (.tmp 19) (.tmp 20)),
  .op (.pick 22 (.tmp 18) (.const (.bool true)) (.tmp 21)),
  .kp [22, 0, 3, 4, 6, 7]]
def f7r4 : List I := [.op (.mov 10 (.const (.bool true))),
  .kp [10]]
def f7r5 : List I := [.op (.mov 11 (.const (.slice none 0 0))),
  .kp [0, 3, 4, 6, 7, 11]]
def f7r6 : List I := [.op (.mov 12 (.const (.int .i64 0))),
  .kp [0, 3, 4, 6, 7, 11, 12]]
def f7r7 : List I := [.op (.mov 23 (.tmp 12)),
  .op (.mov 24 (.tmp 0)),
  .op (.len 25 true (.tmp 24)),
  .op (.bin 26 .lss (.tmp 23) (.tmp 25)),
  .kp [0, 3, 4, 6, 7, 11, 12, 26]]
def f7r8 : List I := [.op (.mov 30 (.tmp 11)),
  .op (.mov 31 (.tmp 0)),
  .op (.mov 32 (.tmp 12)),
  .op (.iad 33 14 (.tmp 31) (.tmp 32)),
  .op (.ld 34 (some 14) (.tmp 33)),
  .op (.call (some 35) 37 [(.tmp 30), (.tmp 34)]),
  .op (.mov 29 (.tmp 35)),
  .op (.ext 36 (.tmp 29) 0),
  .op (.ext 37 (.tmp 29) 1),
  .op (.mov 11 (.tmp 36)),
  .kp [0, 3, 4, 6, 7, 11, 12]]
def f7r9 : List I := [.op (.mov 27 (.tmp 12)),
  .op (.bin 28 .add (.tmp 27) (.const (.int .i64 1))),
  .op (.mov 12 (.tmp 28)),
  .kp [0, 3, 4, 6, 7, 11, 12]]
def f7r10a : List I := [.op (.mov 10 (.tmp 67)),
  .kp [10]]
def f7r10 : List I := .op (.mov 38 (.tmp 11)) ::
  .op (.ld 39 (some 4) (.tmp 6)) ::
  .op (.mov 40 (.tmp 3)) ::
  .op (.ld 42 (some 4) (.tmp 7)) ::
  .op (.mov 43 (.tmp 4)) ::
  .op (.mov 45 (.tmp 11)) ::
  .op (.ld 46 (some 4) (.tmp 7)) ::
  .op (.mov 47 (.tmp 4)) ::
  .op (.ld 49 (some 4) (.tmp 6)) ::
  .op (.mov 50 (.tmp 3)) ::
  .kp [3, 6, 11, 38, 39, 40, 42, 43, 45, 46, 47, 49, 50] ::
  .op (.call (some 41) 39 [(.tmp 38), (.tmp 39), (.tmp 40)]) ::
  .op (.call (some 44) 39 [(.tmp 41), (.tmp 42), (.tmp 43)]) ::
  .op (.call (some 48) 39 [(.tmp 45), (.tmp 46), (.tmp 47)]) ::
  .op (.call (some 51) 39 [(.tmp 48), (.tmp 49), (.tmp 50)]) ::
  .op (.call (some 52) 43 [(.tmp 44), (.tmp 51)]) ::
  .op (.mov 53 (.tmp 52)) ::
  .sc 53 true 13 ::
  .g 53 true (.mov 54 (.tmp 11)) ::
  .g 53 true (.ld 55 (some 4) (.tmp 6)) ::
  .g 53 true (.mov 56 (.tmp 3)) ::
  .g 53 true (.ld 58 (some 4) (.tmp 6)) ::
  .g 53 true (.mov 59 (.tmp 3)) ::
  .g 53 true (.un 60 .not (.tmp 59)) ::
  .g 53 true (.mov 62 (.tmp 11)) ::
  .g 53 true (.ld 63 (some 4) (.tmp 6)) ::
  .g 53 true (.mov 64 (.tmp 3)) ::
  .g 53 true (.call (some 57) 39 [(.tmp 54), (.tmp 55), (.tmp 56)]) ::
  .g 53 true (.call (some 61) 39 [(.tmp 57), (.tmp 58), (.tmp 60)]) ::
  .g 53 true (.call (some 65) 39 [(.tmp 62), (.tmp 63), (.tmp 64)]) ::
  .g 53 true (.call (some 66) 43 [(.tmp 61), (.tmp 65)]) ::
  .op (.pick 67 (.tmp 53) (.tmp 66) (.const (.bool false))) ::
  .kp [67] ::
  f7r10a
def f7c3 : C := (.seq (.reg f7r2) .ret)
def f7c6 : C := (.seq (.reg f7r4) .ret)
def f7c13 : C := (.reg f7r8)
def f7c14 : C := (.reg f7r9)
def f7c12 : C := (.seq (.block 1 f7c13) f7c14)
def f7c11 : C := (.seq (.cond (.tmp 26) .skip (.exit 0)) f7c12)
def f7c10 : C := (.seq (.reg f7r7) f7c11)
def f7c15 : C := (.seq (.drw f7r10) .ret)
def f7c9 : C := (.seq (.block 0 (.loop f7c10)) f7c15)
def f7c8 : C := (.seq (.reg f7r6) f7c9)
def f7c7 : C := (.seq (.reg f7r5) f7c8)
def f7c5 : C := (.seq (.cond (.tmp 22) f7c6 .skip) f7c7)
def f7c4 : C := (.seq (.reg f7r3) f7c5)
def f7c2 : C := (.seq (.cond (.tmp 14) f7c3 .skip) f7c4)
def f7c1 : C := (.seq (.reg f7r1) f7c2)
def f7c0 : C := (.seq (.reg f7r0) f7c1)
theorem f7cmp : cmpF Try.prog Try.f7 [.l [.o 0, .o 1, .o 2, .kp [0, 3, 4, 6, 7]],
  .l [.o 0, .o 1, .kp [0, 3, 4, 6, 7, 14]],
  .l [.o 0, .kp [10]],
  .l [.o 0, .o 1, .o 2, .o 3, .sc 18 false 3, .o 4, .o 5, .o 6, .o 7, .kp [22, 0, 3, 4, 6, 7]],
  .l [.o 0, .kp [10]],
  .l [.o 0, .kp [0, 3, 4, 6, 7, 11]],
  .l [.o 0, .kp [0, 3, 4, 6, 7, 11, 12]],
  .l [.o 0, .o 1, .o 2, .o 3, .kp [0, 3, 4, 6, 7, 11, 12, 26]],
  .l [.o 0, .o 1, .o 2, .o 3, .o 4, .o 5, .o 6, .o 7, .o 8, .o 9, .kp [0, 3, 4, 6, 7, 11, 12]],
  .l [.o 0, .o 1, .o 2, .kp [0, 3, 4, 6, 7, 11, 12]],
  .l [.o 0, .o 1, .o 2, .o 4, .o 5, .o 7, .o 8, .o 9, .o 11, .o 12, .kp [3, 6, 11, 38, 39, 40, 42, 43, 45, 46, 47, 49, 50], .o 3, .o 6, .o 10, .o 13, .o 14, .o 15, .sc 53 true 13, .o 16, .o 17, .o 18, .o 20, .o 21, .o 22, .o 24, .o 25, .o 26, .o 19, .o 23, .o 27, .o 28, .o 29, .kp [67], .o 30, .kp [10]]] = some (f7c0, [.tmp 10]) := by kernel_rfl
theorem f7ok {args : List Value} {h : Heap} {R : Value → Heap → Prop} (hn : args.length ≤ 68) (H : wC Try.prog f7c0 (endW [.tmp 10] R) (envOf 0 args) h) : CallsH Try.prog 7 args h R :=
  fn_ok2 Try.func7 f7cmp hn H
theorem f7cal : callable Try.prog 7 = true := by kernel_rfl
section
variable {Q : X → Env → Heap → Prop} {σ : Env} {h : Heap}
theorem f7c3_eq : wC Try.prog f7c3 Q σ h = (wL Try.prog none f7r2 0 (fun σ h => Q .ret σ h) σ h) := rfl
theorem f7c6_eq : wC Try.prog f7c6 Q σ h = (wL Try.prog none f7r4 0 (fun σ h => Q .ret σ h) σ h) := rfl
theorem f7c13_eq : wC Try.prog f7c13 Q σ h = (wL Try.prog none f7r8 0 (fun σ h => Q .normal σ h) σ h) := rfl
theorem f7c14_eq : wC Try.prog f7c14 Q σ h = (wL Try.prog none f7r9 0 (fun σ h => Q .normal σ h) σ h) := rfl
theorem f7c12_eq : wC Try.prog f7c12 Q σ h = (wC Try.prog f7c13 (X.inBlock 1 (X.then (fun σ h => wC Try.prog f7c14 Q σ h) Q)) σ h) := rfl
theorem f7c11_eq : wC Try.prog f7c11 Q σ h = (bd (evO σ (.tmp 26)) fun v => bd (asB v) fun t => br t (wC Try.prog f7c12 Q σ h) (Q (.exit 0) σ h)) := rfl
theorem f7c10_eq : wC Try.prog f7c10 Q σ h = (wL Try.prog none f7r7 0 (fun σ h => wC Try.prog f7c11 Q σ h) σ h) := rfl
theorem f7c15_eq : wC Try.prog f7c15 Q σ h = (drwW Try.prog f7r10 (fun σ h => Q .ret σ h) σ h) := rfl
theorem f7c9_eq : wC Try.prog f7c9 Q σ h = (loopW (wC Try.prog f7c10) (X.inBlock 0 (X.then (fun σ h => wC Try.prog f7c15 Q σ h) Q)) σ h) := rfl
theorem f7c8_eq : wC Try.prog f7c8 Q σ h = (wL Try.prog none f7r6 0 (fun σ h => wC Try.prog f7c9 Q σ h) σ h) := rfl
theorem f7c7_eq : wC Try.prog f7c7 Q σ h = (wL Try.prog none f7r5 0 (fun σ h => wC Try.prog f7c8 Q σ h) σ h) := rfl
theorem f7c5_eq : wC Try.prog f7c5 Q σ h = (bd (evO σ (.tmp 22)) fun v => bd (asB v) fun t => br t (wC Try.prog f7c6 (X.then (fun σ h => wC Try.prog f7c7 Q σ h) Q) σ h) (wC Try.prog f7c7 Q σ h)) := rfl
theorem f7c4_eq : wC Try.prog f7c4 Q σ h = (wL Try.prog none f7r3 0 (fun σ h => wC Try.prog f7c5 Q σ h) σ h) := rfl
theorem f7c2_eq : wC Try.prog f7c2 Q σ h = (bd (evO σ (.tmp 14)) fun v => bd (asB v) fun t => br t (wC Try.prog f7c3 (X.then (fun σ h => wC Try.prog f7c4 Q σ h) Q) σ h) (wC Try.prog f7c4 Q σ h)) := rfl
theorem f7c1_eq : wC Try.prog f7c1 Q σ h = (wL Try.prog none f7r1 0 (fun σ h => wC Try.prog f7c2 Q σ h) σ h) := rfl
theorem f7c0_eq : wC Try.prog f7c0 Q σ h = (wL Try.prog none f7r0 0 (fun σ h => wC Try.prog f7c1 Q σ h) σ h) := rfl
end
end Go.Proofs.Ytefghfgmkndikaa
