/-
  By a program of mine (wip/tools/gen.py): the code of functions of the seat in the small instruction language, and that it is their code.
-/
import Derived.Test.YtefghfgmkndikaaFM
import Derived.Test.YtefghfgmkndikaaProg
set_option linter.unusedSimpArgs false
set_option linter.unusedVariables false
namespace Go.Proofs.Ytefghfgmkndikaa
open Go.AX
set_option maxRecDepth 100000
/-! ### f6: antipode/antipodelaw8.MvccPast -/
def f6r0 : List I := [.op (.box 6 70 (.tmp 1)),
  .op (.box 7 72 (.tmp 2)),
  .op (.box 9 39 (.tmp 4)),
  .op (.mov 10 (.const (.bool false))),
  .kp [0, 3, 6, 7, 9]]
def f6r1 : List I := [.op (.call (some 20) 35 []),
  .op (.un 21 .not (.tmp 20)),
  .kp [0, 3, 6, 7, 9, 21]]
def f6r2 : List I := [.op (.mov 10 (.const (.bool false))),
  .kp [10]]
def f6r3a : List I := [.op (.mov 31 (.tmp 30)),
  .sc 31 false 4,
  .g 31 false (.fad 32 2 (.tmp 6)),
  .g 31 false (.ld 33 none (.tmp 32)),
  .g 31 false (.len 34 false (.tmp 33)),
  .g 31 false (.bin 35 .gtr (.tmp 34) (.const (.int .i64 200))),
  .op (.pick 36 (.tmp 31) (.const (.bool true)) (.tmp 35)),
  .kp [36, 0, 3, 6, 7, 9]]
def f6r3 : List I := .op (.mov 22 (.tmp 0)) ::
  .op (.call (some 23) 36 [(.tmp 22), (.const (.int .i64 40))]) ::
  .op (.un 24 .not (.tmp 23)) ::
  .op (.mov 25 (.tmp 24)) ::
  .sc 25 false 4 ::
  .g 25 false (.fad 26 0 (.tmp 6)) ::
  .g 25 false (.ld 27 none (.tmp 26)) ::
  .g 25 false (.len 28 false (.tmp 27)) ::
  .g 25 false (.bin 29 .gtr (.tmp 28) (.const (.int .i64 50))) ::
  .op (.pick 30 (.tmp 25) (.const (.bool true)) (.tmp 29)) ::
  .kp [30, 0, 3, 6, 7, 9] ::
  f6r3a
def f6r4 : List I := [.op (.mov 10 (.const (.bool true))),
  .kp [10]]
def f6r5 : List I := [.op (.mov 11 (.const (.slice none 0 0))),
  .kp [0, 3, 6, 7, 9, 11]]
def f6r6 : List I := [.op (.mov 12 (.const (.int .i64 0))),
  .kp [0, 3, 6, 7, 9, 11, 12]]
def f6r7 : List I := [.op (.mov 37 (.tmp 12)),
  .op (.mov 38 (.tmp 0)),
  .op (.len 39 true (.tmp 38)),
  .op (.bin 40 .lss (.tmp 37) (.tmp 39)),
  .kp [0, 3, 6, 7, 9, 11, 12, 40]]
def f6r8 : List I := [.op (.mov 44 (.tmp 11)),
  .op (.mov 45 (.tmp 0)),
  .op (.mov 46 (.tmp 12)),
  .op (.iad 47 14 (.tmp 45) (.tmp 46)),
  .op (.ld 48 (some 14) (.tmp 47)),
  .op (.call (some 49) 37 [(.tmp 44), (.tmp 48)]),
  .op (.mov 43 (.tmp 49)),
  .op (.ext 50 (.tmp 43) 0),
  .op (.ext 51 (.tmp 43) 1),
  .op (.mov 11 (.tmp 50)),
  .kp [0, 3, 6, 7, 9, 11, 12]]
def f6r9 : List I := [.op (.mov 41 (.tmp 12)),
  .op (.bin 42 .add (.tmp 41) (.const (.int .i64 1))),
  .op (.mov 12 (.tmp 42)),
  .kp [0, 3, 6, 7, 9, 11, 12]]
def f6r10 : List I := [.op (.mov 52 (.tmp 11)),
  .op (.fad 53 0 (.tmp 7)),
  .op (.ld 54 (some 4) (.tmp 53)),
  .op (.call (some 55) 38 [(.tmp 52), (.tmp 54)]),
  .kp [3, 6, 7, 9, 11, 55]]
def f6r11 : List I := [.op (.mov 10 (.const (.bool true))),
  .kp [10]]
def f6r12 : List I := [.op (.mov 56 (.tmp 11)),
  .op (.ld 57 (some 3) (.tmp 6)),
  .op (.ld 58 (some 9) (.tmp 7)),
  .op (.fad 60 0 (.tmp 7)),
  .op (.ld 61 (some 4) (.tmp 60)),
  .op (.mov 62 (.tmp 3)),
  .op (.call (some 59) 40 [(.tmp 56), (.tmp 57), (.tmp 58)]),
  .op (.call (some 63) 39 [(.tmp 59), (.tmp 61), (.tmp 62)]),
  .op (.mov 13 (.tmp 63)),
  .kp [3, 6, 7, 9, 11, 13]]
def f6r13 : List I := [.op (.mov 65 (.tmp 11)),
  .op (.fad 66 0 (.tmp 6)),
  .op (.ld 67 none (.tmp 66)),
  .op (.ld 68 (some 2) (.tmp 9)),
  .op (.call (some 69) 41 [(.tmp 65), (.tmp 67), (.tmp 68)]),
  .op (.mov 64 (.tmp 69)),
  .op (.ext 70 (.tmp 64) 0),
  .op (.ext 71 (.tmp 64) 1),
  .op (.mov 14 (.tmp 70)),
  .op (.mov 15 (.tmp 71)),
  .kp [3, 6, 7, 9, 13, 14, 15]]
def f6r14 : List I := [.op (.mov 73 (.tmp 13)),
  .op (.fad 74 0 (.tmp 6)),
  .op (.ld 75 none (.tmp 74)),
  .op (.ld 76 (some 2) (.tmp 9)),
  .op (.call (some 77) 41 [(.tmp 73), (.tmp 75), (.tmp 76)]),
  .op (.mov 72 (.tmp 77)),
  .op (.ext 78 (.tmp 72) 0),
  .op (.ext 79 (.tmp 72) 1),
  .op (.mov 16 (.tmp 78)),
  .op (.mov 17 (.tmp 79)),
  .kp [3, 6, 7, 9, 13, 14, 15, 16, 17]]
def f6r15 : List I := [.op (.ld 80 (some 2) (.tmp 9)),
  .op (.fad 81 5 (.tmp 7)),
  .op (.ld 82 (some 2) (.tmp 81)),
  .op (.call (some 83) 42 [(.tmp 80), (.tmp 82)]),
  .op (.mov 84 (.tmp 83)),
  .sc 84 false 2,
  .g 84 false (.mov 85 (.tmp 3)),
  .g 84 false (.un 86 .not (.tmp 85)),
  .op (.pick 87 (.tmp 84) (.const (.bool true)) (.tmp 86)),
  .kp [87, 6, 7, 13, 14, 15, 16, 17]]
def f6r16a : List I := [.op (.mov 10 (.tmp 95)),
  .kp [10]]
def f6r16 : List I := .op (.mov 88 (.tmp 14)) ::
  .op (.mov 89 (.tmp 16)) ::
  .op (.bin 90 .eql (.tmp 88) (.tmp 89)) ::
  .op (.mov 91 (.tmp 90)) ::
  .sc 91 true 3 ::
  .g 91 true (.mov 92 (.tmp 15)) ::
  .g 91 true (.mov 93 (.tmp 17)) ::
  .g 91 true (.eqb 94 false (.tmp 92) (.tmp 93)) ::
  .op (.pick 95 (.tmp 91) (.tmp 94) (.const (.bool false))) ::
  .kp [95] ::
  f6r16a
def f6r17 : List I := [.op (.mov 97 (.tmp 13)),
  .op (.fad 98 0 (.tmp 6)),
  .op (.ld 99 none (.tmp 98)),
  .op (.fad 100 5 (.tmp 7)),
  .op (.ld 101 (some 2) (.tmp 100)),
  .op (.call (some 102) 41 [(.tmp 97), (.tmp 99), (.tmp 101)]),
  .op (.mov 96 (.tmp 102)),
  .op (.ext 103 (.tmp 96) 0),
  .op (.ext 104 (.tmp 96) 1),
  .op (.mov 18 (.tmp 103)),
  .kp [6, 18, 104],
  .op (.mov 19 (.tmp 104)),
  .kp [6, 18, 19]]
def f6r18a : List I := [.op (.mov 10 (.tmp 119)),
  .kp [10]]
def f6r18 : List I := .op (.mov 105 (.tmp 19)) ::
  .op (.fad 106 1 (.tmp 6)) ::
  .op (.ld 107 none (.tmp 106)) ::
  .op (.un 108 .not (.tmp 107)) ::
  .op (.eqb 109 false (.tmp 105) (.tmp 108)) ::
  .op (.mov 110 (.tmp 109)) ::
  .sc 110 true 9 ::
  .g 110 true (.fad 111 1 (.tmp 6)) ::
  .g 110 true (.ld 112 none (.tmp 111)) ::
  .g 110 true (.mov 113 (.tmp 112)) ::
  .sc 113 false 4 ::
  .g 113 false (.mov 114 (.tmp 18)) ::
  .g 113 false (.fad 115 2 (.tmp 6)) ::
  .g 113 false (.ld 116 none (.tmp 115)) ::
  .g 113 false (.bin 117 .eql (.tmp 114) (.tmp 116)) ::
  .g 110 true (.pick 118 (.tmp 113) (.const (.bool true)) (.tmp 117)) ::
  .op (.pick 119 (.tmp 110) (.tmp 118) (.const (.bool false))) ::
  .kp [119] ::
  f6r18a
def f6c3 : C := (.seq (.reg f6r2) .ret)
def f6c6 : C := (.seq (.reg f6r4) .ret)
def f6c13 : C := (.reg f6r8)
def f6c14 : C := (.reg f6r9)
def f6c12 : C := (.seq (.block 1 f6c13) f6c14)
def f6c11 : C := (.seq (.cond (.tmp 40) .skip (.exit 0)) f6c12)
def f6c10 : C := (.seq (.reg f6r7) f6c11)
def f6c17 : C := (.seq (.reg f6r11) .ret)
def f6c23 : C := (.seq (.reg f6r16) .ret)
def f6c25 : C := (.seq (.reg f6r18) .ret)
def f6c24 : C := (.seq (.reg f6r17) f6c25)
def f6c22 : C := (.seq (.cond (.tmp 87) f6c23 .skip) f6c24)
def f6c21 : C := (.seq (.reg f6r15) f6c22)
def f6c20 : C := (.seq (.reg f6r14) f6c21)
def f6c19 : C := (.seq (.reg f6r13) f6c20)
def f6c18 : C := (.seq (.drw f6r12) f6c19)
def f6c16 : C := (.seq (.cond (.tmp 55) f6c17 .skip) f6c18)
def f6c15 : C := (.seq (.reg f6r10) f6c16)
def f6c9 : C := (.seq (.block 0 (.loop f6c10)) f6c15)
def f6c8 : C := (.seq (.reg f6r6) f6c9)
def f6c7 : C := (.seq (.reg f6r5) f6c8)
def f6c5 : C := (.seq (.cond (.tmp 36) f6c6 .skip) f6c7)
def f6c4 : C := (.seq (.reg f6r3) f6c5)
def f6c2 : C := (.seq (.cond (.tmp 21) f6c3 .skip) f6c4)
def f6c1 : C := (.seq (.reg f6r1) f6c2)
def f6c0 : C := (.seq (.reg f6r0) f6c1)
theorem f6cmp : cmpF Try.prog Try.f6 [.l [.o 0, .o 1, .o 2, .o 3, .kp [0, 3, 6, 7, 9]],
  .l [.o 0, .o 1, .kp [0, 3, 6, 7, 9, 21]],
  .l [.o 0, .kp [10]],
  .l [.o 0, .o 1, .o 2, .o 3, .sc 25 false 4, .o 4, .o 5, .o 6, .o 7, .o 8, .kp [30, 0, 3, 6, 7, 9], .o 9, .sc 31 false 4, .o 10, .o 11, .o 12, .o 13, .o 14, .kp [36, 0, 3, 6, 7, 9]],
  .l [.o 0, .kp [10]],
  .l [.o 0, .kp [0, 3, 6, 7, 9, 11]],
  .l [.o 0, .kp [0, 3, 6, 7, 9, 11, 12]],
  .l [.o 0, .o 1, .o 2, .o 3, .kp [0, 3, 6, 7, 9, 11, 12, 40]],
  .l [.o 0, .o 1, .o 2, .o 3, .o 4, .o 5, .o 6, .o 7, .o 8, .o 9, .kp [0, 3, 6, 7, 9, 11, 12]],
  .l [.o 0, .o 1, .o 2, .kp [0, 3, 6, 7, 9, 11, 12]],
  .l [.o 0, .o 1, .o 2, .o 3, .kp [3, 6, 7, 9, 11, 55]],
  .l [.o 0, .kp [10]],
  .l [.o 0, .o 1, .o 2, .o 4, .o 5, .o 6, .o 3, .o 7, .o 8, .kp [3, 6, 7, 9, 11, 13]],
  .l [.o 0, .o 1, .o 2, .o 3, .o 4, .o 5, .o 6, .o 7, .o 8, .o 9, .kp [3, 6, 7, 9, 13, 14, 15]],
  .l [.o 0, .o 1, .o 2, .o 3, .o 4, .o 5, .o 6, .o 7, .o 8, .o 9, .kp [3, 6, 7, 9, 13, 14, 15, 16, 17]],
  .l [.o 0, .o 1, .o 2, .o 3, .o 4, .sc 84 false 2, .o 5, .o 6, .o 7, .kp [87, 6, 7, 13, 14, 15, 16, 17]],
  .l [.o 0, .o 1, .o 2, .o 3, .sc 91 true 3, .o 4, .o 5, .o 6, .o 7, .kp [95], .o 8, .kp [10]],
  .l [.o 0, .o 1, .o 2, .o 3, .o 4, .o 5, .o 6, .o 7, .o 8, .o 9, .kp [6, 18, 104], .o 10, .kp [6, 18, 19]],
  .l [.o 0, .o 1, .o 2, .o 3, .o 4, .o 5, .sc 110 true 9, .o 6, .o 7, .o 8, .sc 113 false 4, .o 9, .o 10, .o 11, .o 12, .o 13, .o 14, .kp [119], .o 15, .kp [10]]] = some (f6c0, [.tmp 10]) := by kernel_rfl
theorem f6ok {args : List Value} {h : Heap} {R : Value → Heap → Prop} (hn : args.length ≤ 120) (H : wC Try.prog f6c0 (endW [.tmp 10] R) (envOf 0 args) h) : CallsH Try.prog 6 args h R :=
  fn_ok2 Try.func6 f6cmp hn H
theorem f6cal : callable Try.prog 6 = true := by kernel_rfl
section
variable {Q : X → Env → Heap → Prop} {σ : Env} {h : Heap}
theorem f6c3_eq : wC Try.prog f6c3 Q σ h = (wL Try.prog none f6r2 0 (fun σ h => Q .ret σ h) σ h) := rfl
theorem f6c6_eq : wC Try.prog f6c6 Q σ h = (wL Try.prog none f6r4 0 (fun σ h => Q .ret σ h) σ h) := rfl
theorem f6c13_eq : wC Try.prog f6c13 Q σ h = (wL Try.prog none f6r8 0 (fun σ h => Q .normal σ h) σ h) := rfl
theorem f6c14_eq : wC Try.prog f6c14 Q σ h = (wL Try.prog none f6r9 0 (fun σ h => Q .normal σ h) σ h) := rfl
theorem f6c12_eq : wC Try.prog f6c12 Q σ h = (wC Try.prog f6c13 (X.inBlock 1 (X.then (fun σ h => wC Try.prog f6c14 Q σ h) Q)) σ h) := rfl
theorem f6c11_eq : wC Try.prog f6c11 Q σ h = (bd (evO σ (.tmp 40)) fun v => bd (asB v) fun t => br t (wC Try.prog f6c12 Q σ h) (Q (.exit 0) σ h)) := rfl
theorem f6c10_eq : wC Try.prog f6c10 Q σ h = (wL Try.prog none f6r7 0 (fun σ h => wC Try.prog f6c11 Q σ h) σ h) := rfl
theorem f6c17_eq : wC Try.prog f6c17 Q σ h = (wL Try.prog none f6r11 0 (fun σ h => Q .ret σ h) σ h) := rfl
theorem f6c23_eq : wC Try.prog f6c23 Q σ h = (wL Try.prog none f6r16 0 (fun σ h => Q .ret σ h) σ h) := rfl
theorem f6c25_eq : wC Try.prog f6c25 Q σ h = (wL Try.prog none f6r18 0 (fun σ h => Q .ret σ h) σ h) := rfl
theorem f6c24_eq : wC Try.prog f6c24 Q σ h = (wL Try.prog none f6r17 0 (fun σ h => wC Try.prog f6c25 Q σ h) σ h) := rfl
theorem f6c22_eq : wC Try.prog f6c22 Q σ h = (bd (evO σ (.tmp 87)) fun v => bd (asB v) fun t => br t (wC Try.prog f6c23 (X.then (fun σ h => wC Try.prog f6c24 Q σ h) Q) σ h) (wC Try.prog f6c24 Q σ h)) := rfl
theorem f6c21_eq : wC Try.prog f6c21 Q σ h = (wL Try.prog none f6r15 0 (fun σ h => wC Try.prog f6c22 Q σ h) σ h) := rfl
theorem f6c20_eq : wC Try.prog f6c20 Q σ h = (wL Try.prog none f6r14 0 (fun σ h => wC Try.prog f6c21 Q σ h) σ h) := rfl
theorem f6c19_eq : wC Try.prog f6c19 Q σ h = (wL Try.prog none f6r13 0 (fun σ h => wC Try.prog f6c20 Q σ h) σ h) := rfl
theorem f6c18_eq : wC Try.prog f6c18 Q σ h = (drwW Try.prog f6r12 (fun σ h => wC Try.prog f6c19 Q σ h) σ h) := rfl
theorem f6c16_eq : wC Try.prog f6c16 Q σ h = (bd (evO σ (.tmp 55)) fun v => bd (asB v) fun t => br t (wC Try.prog f6c17 (X.then (fun σ h => wC Try.prog f6c18 Q σ h) Q) σ h) (wC Try.prog f6c18 Q σ h)) := rfl
theorem f6c15_eq : wC Try.prog f6c15 Q σ h = (wL Try.prog none f6r10 0 (fun σ h => wC Try.prog f6c16 Q σ h) σ h) := rfl
theorem f6c9_eq : wC Try.prog f6c9 Q σ h = (loopW (wC Try.prog f6c10) (X.inBlock 0 (X.then (fun σ h => wC Try.prog f6c15 Q σ h) Q)) σ h) := rfl
theorem f6c8_eq : wC Try.prog f6c8 Q σ h = (wL Try.prog none f6r6 0 (fun σ h => wC Try.prog f6c9 Q σ h) σ h) := rfl
theorem f6c7_eq : wC Try.prog f6c7 Q σ h = (wL Try.prog none f6r5 0 (fun σ h => wC Try.prog f6c8 Q σ h) σ h) := rfl
theorem f6c5_eq : wC Try.prog f6c5 Q σ h = (bd (evO σ (.tmp 36)) fun v => bd (asB v) fun t => br t (wC Try.prog f6c6 (X.then (fun σ h => wC Try.prog f6c7 Q σ h) Q) σ h) (wC Try.prog f6c7 Q σ h)) := rfl
theorem f6c4_eq : wC Try.prog f6c4 Q σ h = (wL Try.prog none f6r3 0 (fun σ h => wC Try.prog f6c5 Q σ h) σ h) := rfl
theorem f6c2_eq : wC Try.prog f6c2 Q σ h = (bd (evO σ (.tmp 21)) fun v => bd (asB v) fun t => br t (wC Try.prog f6c3 (X.then (fun σ h => wC Try.prog f6c4 Q σ h) Q) σ h) (wC Try.prog f6c4 Q σ h)) := rfl
theorem f6c1_eq : wC Try.prog f6c1 Q σ h = (wL Try.prog none f6r1 0 (fun σ h => wC Try.prog f6c2 Q σ h) σ h) := rfl
theorem f6c0_eq : wC Try.prog f6c0 Q σ h = (wL Try.prog none f6r0 0 (fun σ h => wC Try.prog f6c1 Q σ h) σ h) := rfl
end
end Go.Proofs.Ytefghfgmkndikaa
