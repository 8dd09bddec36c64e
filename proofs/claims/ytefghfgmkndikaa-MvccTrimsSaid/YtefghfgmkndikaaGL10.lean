/-
  By a program of mine (wip/tools/gen.py): the code of functions of the seat in the small instruction language, and that it is their code.
-/
import Derived.Test.YtefghfgmkndikaaFM
import Derived.Test.YtefghfgmkndikaaProg
set_option linter.unusedSimpArgs false
set_option linter.unusedVariables false
namespace Go.Proofs.Ytefghfgmkndikaa
open Go.AX
set_option maxRecDepth 100000
/-! ### f10: antipode/antipodelaw8.MvccTrims -/
def f10r0 : List I := [.op (.box 5 39 (.tmp 1)),
  .op (.box 6 39 (.tmp 2)),
  .op (.box 7 94 (.tmp 3)),
  .op (.mov 8 (.const (.bool false))),
  .kp [0, 5, 6, 7]]
def f10r1 : List I := [.op (.call (some 17) 35 []),
  .op (.un 18 .not (.tmp 17)),
  .kp [0, 5, 6, 7, 18]]
def f10r2 : List I := [.op (.mov 8 (.const (.bool false))),
  .kp [8]]
def f10r3a : List I := [.op (.mov 28 (.tmp 27)),
  .sc 28 false 4,
  .g 28 false (.fad 29 1 (.tmp 7)),
  .g 28 false (.ld 30 none (.tmp 29)),
  .g 28 false (.len 31 false (.tmp 30)),
  .g 28 false (.bin 32 .gtr (.tmp 31) (.const (.int .i64 200))),
  .op (.pick 33 (.tmp 28) (.const (.bool true)) (.tmp 32)),
  .kp [33, 0, 5, 6, 7]]
def f10r3 : List I := .op (.mov 19 (.tmp 0)) ::
  .op (.call (some 20) 36 [(.tmp 19), (.const (.int .i64 60))]) ::
  .op (.un 21 .not (.tmp 20)) ::
  .op (.mov 22 (.tmp 21)) ::
  .sc 22 false 4 ::
  .g 22 false (.fad 23 0 (.tmp 7)) ::
  .g 22 false (.ld 24 none (.tmp 23)) ::
  .g 22 false (.len 25 false (.tmp 24)) ::
  .g 22 false (.bin 26 .gtr (.tmp 25) (.const (.int .i64 200))) ::
  .op (.pick 27 (.tmp 22) (.const (.bool true)) (.tmp 26)) ::
  .kp [27, 0, 5, 6, 7] ::
  f10r3a
def f10r4 : List I := [.op (.mov 8 (.const (.bool true))),
  .kp [8]]
def f10r5 : List I := [.op (.mov 9 (.const (.slice none 0 0))),
  .kp [0, 5, 6, 7, 9]]
def f10r6 : List I := [.op (.mov 10 (.const (.int .i64 0))),
  .kp [0, 5, 6, 7, 9, 10]]
def f10r7 : List I := [.op (.mov 34 (.tmp 10)),
  .op (.mov 35 (.tmp 0)),
  .op (.len 36 true (.tmp 35)),
  .op (.bin 37 .lss (.tmp 34) (.tmp 36)),
  .kp [0, 5, 6, 7, 9, 10, 37]]
def f10r8 : List I := [.op (.mov 41 (.tmp 9)),
  .op (.mov 42 (.tmp 0)),
  .op (.mov 43 (.tmp 10)),
  .op (.iad 44 14 (.tmp 42) (.tmp 43)),
  .op (.ld 45 (some 14) (.tmp 44)),
  .op (.call (some 46) 37 [(.tmp 41), (.tmp 45)]),
  .op (.mov 40 (.tmp 46)),
  .op (.ext 47 (.tmp 40) 0),
  .op (.ext 48 (.tmp 40) 1),
  .op (.mov 9 (.tmp 47)),
  .kp [0, 5, 6, 7, 9, 10]]
def f10r9 : List I := [.op (.mov 38 (.tmp 10)),
  .op (.bin 39 .add (.tmp 38) (.const (.int .i64 1))),
  .op (.mov 10 (.tmp 39)),
  .kp [0, 5, 6, 7, 9, 10]]
def f10r10 : List I := [.op (.mov 49 (.tmp 9)),
  .op (.ld 50 (some 2) (.tmp 5)),
  .op (.call (some 51) 46 [(.tmp 49), (.tmp 50)]),
  .op (.mov 11 (.tmp 51)),
  .kp [5, 6, 7, 9, 11]]
def f10r11 : List I := [.op (.ld 52 (some 2) (.tmp 6)),
  .op (.ld 53 (some 2) (.tmp 5)),
  .op (.call (some 54) 42 [(.tmp 52), (.tmp 53)]),
  .kp [5, 6, 7, 9, 11, 54]]
def f10r12 : List I := [.op (.ld 55 (some 2) (.tmp 5)),
  .op (.st 2 (.tmp 6) (.tmp 55)),
  .kp [5, 6, 7, 9, 11]]
def f10r13 : List I := [.op (.mov 57 (.tmp 9)),
  .op (.ld 58 (some 2) (.tmp 7)),
  .op (.ld 59 (some 2) (.tmp 6)),
  .op (.call (some 60) 47 [(.tmp 57), (.tmp 58), (.tmp 59), (.const (.int .i64 1000))]),
  .op (.mov 56 (.tmp 60)),
  .op (.ext 61 (.tmp 56) 0),
  .op (.ext 62 (.tmp 56) 1),
  .op (.mov 12 (.tmp 61)),
  .op (.mov 13 (.tmp 62)),
  .kp [5, 6, 7, 11, 12, 13]]
def f10r14 : List I := [.op (.mov 64 (.tmp 11)),
  .op (.ld 65 (some 2) (.tmp 7)),
  .op (.ld 66 (some 2) (.tmp 6)),
  .op (.call (some 67) 47 [(.tmp 64), (.tmp 65), (.tmp 66), (.const (.int .i64 1000))]),
  .op (.mov 63 (.tmp 67)),
  .op (.ext 68 (.tmp 63) 0),
  .op (.ext 69 (.tmp 63) 1),
  .op (.mov 14 (.tmp 68)),
  .op (.mov 15 (.tmp 69)),
  .kp [5, 11, 12, 13, 14, 15]]
def f10r15a : List I := [.op (.mov 80 (.tmp 79)),
  .sc 80 false 3,
  .g 80 false (.mov 81 (.tmp 11)),
  .g 80 false (.call (some 82) 45 [(.tmp 81)]),
  .g 80 false (.un 83 .not (.tmp 82)),
  .op (.pick 84 (.tmp 80) (.const (.bool true)) (.tmp 83)),
  .kp [84, 5, 11, 12, 14]]
def f10r15 : List I := .op (.mov 70 (.tmp 13)) ::
  .op (.mov 71 (.tmp 15)) ::
  .op (.bin 72 .neq (.tmp 70) (.tmp 71)) ::
  .op (.mov 73 (.tmp 72)) ::
  .sc 73 false 5 ::
  .g 73 false (.mov 74 (.tmp 12)) ::
  .g 73 false (.len 75 true (.tmp 74)) ::
  .g 73 false (.mov 76 (.tmp 14)) ::
  .g 73 false (.len 77 true (.tmp 76)) ::
  .g 73 false (.bin 78 .neq (.tmp 75) (.tmp 77)) ::
  .op (.pick 79 (.tmp 73) (.const (.bool true)) (.tmp 78)) ::
  .kp [79, 5, 11, 12, 14] ::
  f10r15a
def f10r16 : List I := [.op (.mov 8 (.const (.bool false))),
  .kp [8]]
def f10r17 : List I := [.op (.mov 16 (.const (.int .i64 0))),
  .kp [5, 11, 12, 14, 16]]
def f10r18 : List I := [.op (.mov 85 (.tmp 16)),
  .op (.mov 86 (.tmp 12)),
  .op (.len 87 true (.tmp 86)),
  .op (.bin 88 .lss (.tmp 85) (.tmp 87)),
  .kp [5, 11, 12, 14, 16, 88]]
def f10r19 : List I := [.op (.mov 91 (.tmp 12)),
  .op (.mov 92 (.tmp 16)),
  .op (.iad 93 2 (.tmp 91) (.tmp 92)),
  .op (.ld 94 (some 2) (.tmp 93)),
  .op (.mov 95 (.tmp 14)),
  .op (.mov 96 (.tmp 16)),
  .op (.iad 97 2 (.tmp 95) (.tmp 96)),
  .op (.ld 98 (some 2) (.tmp 97)),
  .op (.eqa 99 true [.s, .s] (.tmp 94) (.tmp 98)),
  .kp [5, 11, 12, 14, 16, 99]]
def f10r20 : List I := [.op (.mov 8 (.const (.bool false))),
  .kp [8]]
def f10r21 : List I := [.op (.mov 89 (.tmp 16)),
  .op (.bin 90 .add (.tmp 89) (.const (.int .i64 1))),
  .op (.mov 16 (.tmp 90)),
  .kp [5, 11, 12, 14, 16]]
def f10r22 : List I := [.op (.mov 100 (.tmp 11)),
  .op (.ld 101 (some 2) (.tmp 5)),
  .op (.call (some 102) 46 [(.tmp 100), (.tmp 101)]),
  .op (.mov 103 (.tmp 11)),
  .op (.call (some 104) 43 [(.tmp 102), (.tmp 103)]),
  .op (.mov 8 (.tmp 104)),
  .kp [8]]
def f10c3 : C := (.seq (.reg f10r2) .ret)
def f10c6 : C := (.seq (.reg f10r4) .ret)
def f10c13 : C := (.reg f10r8)
def f10c14 : C := (.reg f10r9)
def f10c12 : C := (.seq (.block 1 f10c13) f10c14)
def f10c11 : C := (.seq (.cond (.tmp 37) .skip (.exit 0)) f10c12)
def f10c10 : C := (.seq (.reg f10r7) f10c11)
def f10c18 : C := (.reg f10r12)
def f10c23 : C := (.seq (.reg f10r16) .ret)
def f10c31 : C := (.seq (.reg f10r20) .ret)
def f10c30 : C := (.cond (.tmp 99) f10c31 .skip)
def f10c29 : C := (.seq (.drw f10r19) f10c30)
def f10c32 : C := (.reg f10r21)
def f10c28 : C := (.seq (.block 3 f10c29) f10c32)
def f10c27 : C := (.seq (.cond (.tmp 88) .skip (.exit 2)) f10c28)
def f10c26 : C := (.seq (.reg f10r18) f10c27)
def f10c33 : C := (.seq (.reg f10r22) .ret)
def f10c25 : C := (.seq (.block 2 (.loop f10c26)) f10c33)
def f10c24 : C := (.seq (.reg f10r17) f10c25)
def f10c22 : C := (.seq (.cond (.tmp 84) f10c23 .skip) f10c24)
def f10c21 : C := (.seq (.reg f10r15) f10c22)
def f10c20 : C := (.seq (.reg f10r14) f10c21)
def f10c19 : C := (.seq (.reg f10r13) f10c20)
def f10c17 : C := (.seq (.cond (.tmp 54) f10c18 .skip) f10c19)
def f10c16 : C := (.seq (.reg f10r11) f10c17)
def f10c15 : C := (.seq (.reg f10r10) f10c16)
def f10c9 : C := (.seq (.block 0 (.loop f10c10)) f10c15)
def f10c8 : C := (.seq (.reg f10r6) f10c9)
def f10c7 : C := (.seq (.reg f10r5) f10c8)
def f10c5 : C := (.seq (.cond (.tmp 33) f10c6 .skip) f10c7)
def f10c4 : C := (.seq (.reg f10r3) f10c5)
def f10c2 : C := (.seq (.cond (.tmp 18) f10c3 .skip) f10c4)
def f10c1 : C := (.seq (.reg f10r1) f10c2)
def f10c0 : C := (.seq (.reg f10r0) f10c1)
theorem f10cmp : cmpF Try.prog Try.f10 [.l [.o 0, .o 1, .o 2, .o 3, .kp [0, 5, 6, 7]],
  .l [.o 0, .o 1, .kp [0, 5, 6, 7, 18]],
  .l [.o 0, .kp [8]],
  .l [.o 0, .o 1, .o 2, .o 3, .sc 22 false 4, .o 4, .o 5, .o 6, .o 7, .o 8, .kp [27, 0, 5, 6, 7], .o 9, .sc 28 false 4, .o 10, .o 11, .o 12, .o 13, .o 14, .kp [33, 0, 5, 6, 7]],
  .l [.o 0, .kp [8]],
  .l [.o 0, .kp [0, 5, 6, 7, 9]],
  .l [.o 0, .kp [0, 5, 6, 7, 9, 10]],
  .l [.o 0, .o 1, .o 2, .o 3, .kp [0, 5, 6, 7, 9, 10, 37]],
  .l [.o 0, .o 1, .o 2, .o 3, .o 4, .o 5, .o 6, .o 7, .o 8, .o 9, .kp [0, 5, 6, 7, 9, 10]],
  .l [.o 0, .o 1, .o 2, .kp [0, 5, 6, 7, 9, 10]],
  .l [.o 0, .o 1, .o 2, .o 3, .kp [5, 6, 7, 9, 11]],
  .l [.o 0, .o 1, .o 2, .kp [5, 6, 7, 9, 11, 54]],
  .l [.o 0, .o 1, .kp [5, 6, 7, 9, 11]],
  .l [.o 0, .o 1, .o 2, .o 3, .o 4, .o 5, .o 6, .o 7, .o 8, .kp [5, 6, 7, 11, 12, 13]],
  .l [.o 0, .o 1, .o 2, .o 3, .o 4, .o 5, .o 6, .o 7, .o 8, .kp [5, 11, 12, 13, 14, 15]],
  .l [.o 0, .o 1, .o 2, .o 3, .sc 73 false 5, .o 4, .o 5, .o 6, .o 7, .o 8, .o 9, .kp [79, 5, 11, 12, 14], .o 10, .sc 80 false 3, .o 11, .o 12, .o 13, .o 14, .kp [84, 5, 11, 12, 14]],
  .l [.o 0, .kp [8]],
  .l [.o 0, .kp [5, 11, 12, 14, 16]],
  .l [.o 0, .o 1, .o 2, .o 3, .kp [5, 11, 12, 14, 16, 88]],
  .l [.o 0, .o 1, .o 2, .o 3, .o 4, .o 5, .o 6, .o 7, .o 8, .kp [5, 11, 12, 14, 16, 99]],
  .l [.o 0, .kp [8]],
  .l [.o 0, .o 1, .o 2, .kp [5, 11, 12, 14, 16]],
  .l [.o 0, .o 1, .o 2, .o 3, .o 4, .o 5, .kp [8]]] = some (f10c0, [.tmp 8]) := by kernel_rfl
theorem f10ok {args : List Value} {h : Heap} {R : Value → Heap → Prop} (hn : args.length ≤ 105) (H : wC Try.prog f10c0 (endW [.tmp 8] R) (envOf 0 args) h) : CallsH Try.prog 10 args h R :=
  fn_ok2 Try.func10 f10cmp hn H
theorem f10cal : callable Try.prog 10 = true := by kernel_rfl
section
variable {Q : X → Env → Heap → Prop} {σ : Env} {h : Heap}
theorem f10c3_eq : wC Try.prog f10c3 Q σ h = (wL Try.prog none f10r2 0 (fun σ h => Q .ret σ h) σ h) := rfl
theorem f10c6_eq : wC Try.prog f10c6 Q σ h = (wL Try.prog none f10r4 0 (fun σ h => Q .ret σ h) σ h) := rfl
theorem f10c13_eq : wC Try.prog f10c13 Q σ h = (wL Try.prog none f10r8 0 (fun σ h => Q .normal σ h) σ h) := rfl
theorem f10c14_eq : wC Try.prog f10c14 Q σ h = (wL Try.prog none f10r9 0 (fun σ h => Q .normal σ h) σ h) := rfl
theorem f10c12_eq : wC Try.prog f10c12 Q σ h = (wC Try.prog f10c13 (X.inBlock 1 (X.then (fun σ h => wC Try.prog f10c14 Q σ h) Q)) σ h) := rfl
theorem f10c11_eq : wC Try.prog f10c11 Q σ h = (bd (evO σ (.tmp 37)) fun v => bd (asB v) fun t => br t (wC Try.prog f10c12 Q σ h) (Q (.exit 0) σ h)) := rfl
theorem f10c10_eq : wC Try.prog f10c10 Q σ h = (wL Try.prog none f10r7 0 (fun σ h => wC Try.prog f10c11 Q σ h) σ h) := rfl
theorem f10c18_eq : wC Try.prog f10c18 Q σ h = (wL Try.prog none f10r12 0 (fun σ h => Q .normal σ h) σ h) := rfl
theorem f10c23_eq : wC Try.prog f10c23 Q σ h = (wL Try.prog none f10r16 0 (fun σ h => Q .ret σ h) σ h) := rfl
theorem f10c31_eq : wC Try.prog f10c31 Q σ h = (wL Try.prog none f10r20 0 (fun σ h => Q .ret σ h) σ h) := rfl
theorem f10c30_eq : wC Try.prog f10c30 Q σ h = (bd (evO σ (.tmp 99)) fun v => bd (asB v) fun t => br t (wC Try.prog f10c31 Q σ h) (Q .normal σ h)) := rfl
theorem f10c29_eq : wC Try.prog f10c29 Q σ h = (drwW Try.prog f10r19 (fun σ h => wC Try.prog f10c30 Q σ h) σ h) := rfl
theorem f10c32_eq : wC Try.prog f10c32 Q σ h = (wL Try.prog none f10r21 0 (fun σ h => Q .normal σ h) σ h) := rfl
theorem f10c28_eq : wC Try.prog f10c28 Q σ h = (wC Try.prog f10c29 (X.inBlock 3 (X.then (fun σ h => wC Try.prog f10c32 Q σ h) Q)) σ h) := rfl
theorem f10c27_eq : wC Try.prog f10c27 Q σ h = (bd (evO σ (.tmp 88)) fun v => bd (asB v) fun t => br t (wC Try.prog f10c28 Q σ h) (Q (.exit 2) σ h)) := rfl
theorem f10c26_eq : wC Try.prog f10c26 Q σ h = (wL Try.prog none f10r18 0 (fun σ h => wC Try.prog f10c27 Q σ h) σ h) := rfl
theorem f10c33_eq : wC Try.prog f10c33 Q σ h = (wL Try.prog none f10r22 0 (fun σ h => Q .ret σ h) σ h) := rfl
theorem f10c25_eq : wC Try.prog f10c25 Q σ h = (loopW (wC Try.prog f10c26) (X.inBlock 2 (X.then (fun σ h => wC Try.prog f10c33 Q σ h) Q)) σ h) := rfl
theorem f10c24_eq : wC Try.prog f10c24 Q σ h = (wL Try.prog none f10r17 0 (fun σ h => wC Try.prog f10c25 Q σ h) σ h) := rfl
theorem f10c22_eq : wC Try.prog f10c22 Q σ h = (bd (evO σ (.tmp 84)) fun v => bd (asB v) fun t => br t (wC Try.prog f10c23 (X.then (fun σ h => wC Try.prog f10c24 Q σ h) Q) σ h) (wC Try.prog f10c24 Q σ h)) := rfl
theorem f10c21_eq : wC Try.prog f10c21 Q σ h = (wL Try.prog none f10r15 0 (fun σ h => wC Try.prog f10c22 Q σ h) σ h) := rfl
theorem f10c20_eq : wC Try.prog f10c20 Q σ h = (wL Try.prog none f10r14 0 (fun σ h => wC Try.prog f10c21 Q σ h) σ h) := rfl
theorem f10c19_eq : wC Try.prog f10c19 Q σ h = (wL Try.prog none f10r13 0 (fun σ h => wC Try.prog f10c20 Q σ h) σ h) := rfl
theorem f10c17_eq : wC Try.prog f10c17 Q σ h = (bd (evO σ (.tmp 54)) fun v => bd (asB v) fun t => br t (wC Try.prog f10c18 (X.then (fun σ h => wC Try.prog f10c19 Q σ h) Q) σ h) (wC Try.prog f10c19 Q σ h)) := rfl
theorem f10c16_eq : wC Try.prog f10c16 Q σ h = (wL Try.prog none f10r11 0 (fun σ h => wC Try.prog f10c17 Q σ h) σ h) := rfl
theorem f10c15_eq : wC Try.prog f10c15 Q σ h = (wL Try.prog none f10r10 0 (fun σ h => wC Try.prog f10c16 Q σ h) σ h) := rfl
theorem f10c9_eq : wC Try.prog f10c9 Q σ h = (loopW (wC Try.prog f10c10) (X.inBlock 0 (X.then (fun σ h => wC Try.prog f10c15 Q σ h) Q)) σ h) := rfl
theorem f10c8_eq : wC Try.prog f10c8 Q σ h = (wL Try.prog none f10r6 0 (fun σ h => wC Try.prog f10c9 Q σ h) σ h) := rfl
theorem f10c7_eq : wC Try.prog f10c7 Q σ h = (wL Try.prog none f10r5 0 (fun σ h => wC Try.prog f10c8 Q σ h) σ h) := rfl
theorem f10c5_eq : wC Try.prog f10c5 Q σ h = (bd (evO σ (.tmp 33)) fun v => bd (asB v) fun t => br t (wC Try.prog f10c6 (X.then (fun σ h => wC Try.prog f10c7 Q σ h) Q) σ h) (wC Try.prog f10c7 Q σ h)) := rfl
theorem f10c4_eq : wC Try.prog f10c4 Q σ h = (wL Try.prog none f10r3 0 (fun σ h => wC Try.prog f10c5 Q σ h) σ h) := rfl
theorem f10c2_eq : wC Try.prog f10c2 Q σ h = (bd (evO σ (.tmp 18)) fun v => bd (asB v) fun t => br t (wC Try.prog f10c3 (X.then (fun σ h => wC Try.prog f10c4 Q σ h) Q) σ h) (wC Try.prog f10c4 Q σ h)) := rfl
theorem f10c1_eq : wC Try.prog f10c1 Q σ h = (wL Try.prog none f10r1 0 (fun σ h => wC Try.prog f10c2 Q σ h) σ h) := rfl
theorem f10c0_eq : wC Try.prog f10c0 Q σ h = (wL Try.prog none f10r0 0 (fun σ h => wC Try.prog f10c1 Q σ h) σ h) := rfl
end
end Go.Proofs.Ytefghfgmkndikaa
