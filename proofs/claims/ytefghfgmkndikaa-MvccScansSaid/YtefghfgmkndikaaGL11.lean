/-
  By a program of mine (wip/tools/gen.py): the code of functions of the seat in the small instruction language, and that it is their code.
-/
import Derived.Test.YtefghfgmkndikaaFM
import Derived.Test.YtefghfgmkndikaaProg
set_option linter.unusedSimpArgs false
set_option linter.unusedVariables false
namespace Go.Proofs.Ytefghfgmkndikaa
open Go.AX
set_option maxRecDepth 100000
/-! ### f11: antipode/antipodelaw8.MvccScans -/
def f11r0 : List I := [.op (.box 4 94 (.tmp 1)),
  .op (.box 5 39 (.tmp 2)),
  .op (.mov 6 (.const (.bool false))),
  .kp [0, 4, 5]]
def f11r1 : List I := [.op (.call (some 17) 35 []),
  .op (.un 18 .not (.tmp 17)),
  .kp [0, 4, 5, 18]]
def f11r2 : List I := [.op (.mov 6 (.const (.bool false))),
  .kp [6]]
def f11r3a : List I := [.op (.mov 28 (.tmp 27)),
  .sc 28 false 4,
  .g 28 false (.fad 29 1 (.tmp 4)),
  .g 28 false (.ld 30 none (.tmp 29)),
  .g 28 false (.len 31 false (.tmp 30)),
  .g 28 false (.bin 32 .gtr (.tmp 31) (.const (.int .i64 200))),
  .op (.pick 33 (.tmp 28) (.const (.bool true)) (.tmp 32)),
  .kp [33, 0, 4, 5]]
def f11r3 : List I := .op (.mov 19 (.tmp 0)) ::
  .op (.call (some 20) 36 [(.tmp 19), (.const (.int .i64 60))]) ::
  .op (.un 21 .not (.tmp 20)) ::
  .op (.mov 22 (.tmp 21)) ::
  .sc 22 false 4 ::
  .g 22 false (.fad 23 0 (.tmp 4)) ::
  .g 22 false (.ld 24 none (.tmp 23)) ::
  .g 22 false (.len 25 false (.tmp 24)) ::
  .g 22 false (.bin 26 .gtr (.tmp 25) (.const (.int .i64 200))) ::
  .op (.pick 27 (.tmp 22) (.const (.bool true)) (.tmp 26)) ::
  .kp [27, 0, 4, 5] ::
  f11r3a
def f11r4 : List I := [.op (.mov 6 (.const (.bool true))),
  .kp [6]]
def f11r5 : List I := [.op (.mov 7 (.const (.slice none 0 0))),
  .kp [0, 4, 5, 7]]
def f11r6 : List I := [.op (.mov 8 (.const (.int .i64 0))),
  .kp [0, 4, 5, 7, 8]]
def f11r7 : List I := [.op (.mov 34 (.tmp 8)),
  .op (.mov 35 (.tmp 0)),
  .op (.len 36 true (.tmp 35)),
  .op (.bin 37 .lss (.tmp 34) (.tmp 36)),
  .kp [0, 4, 5, 7, 8, 37]]
def f11r8 : List I := [.op (.mov 41 (.tmp 7)),
  .op (.mov 42 (.tmp 0)),
  .op (.mov 43 (.tmp 8)),
  .op (.iad 44 14 (.tmp 42) (.tmp 43)),
  .op (.ld 45 (some 14) (.tmp 44)),
  .op (.call (some 46) 37 [(.tmp 41), (.tmp 45)]),
  .op (.mov 40 (.tmp 46)),
  .op (.ext 47 (.tmp 40) 0),
  .op (.ext 48 (.tmp 40) 1),
  .op (.mov 7 (.tmp 47)),
  .kp [0, 4, 5, 7, 8]]
def f11r9 : List I := [.op (.mov 38 (.tmp 8)),
  .op (.bin 39 .add (.tmp 38) (.const (.int .i64 1))),
  .op (.mov 8 (.tmp 39)),
  .kp [0, 4, 5, 7, 8]]
def f11r10 : List I := [.op (.mov 50 (.tmp 7)),
  .op (.ld 51 (some 2) (.tmp 4)),
  .op (.ld 52 (some 2) (.tmp 5)),
  .op (.call (some 53) 47 [(.tmp 50), (.tmp 51), (.tmp 52), (.const (.int .i64 1000))]),
  .op (.mov 49 (.tmp 53)),
  .op (.ext 54 (.tmp 49) 0),
  .op (.ext 55 (.tmp 49) 1),
  .op (.mov 9 (.tmp 54)),
  .op (.mov 10 (.tmp 55)),
  .kp [4, 5, 7, 9, 10]]
def f11r11 : List I := [.op (.mov 56 (.tmp 10)),
  .op (.bin 57 .neq (.tmp 56) (.const (.int .i64 0))),
  .kp [4, 5, 7, 9, 57]]
def f11r12 : List I := [.op (.mov 6 (.const (.bool false))),
  .kp [6]]
def f11r13 : List I := [.op (.mov 11 (.const (.int .i64 0))),
  .kp [4, 5, 7, 9, 11]]
def f11r14 : List I := [.op (.mov 12 (.const (.int .i64 0))),
  .kp [4, 5, 7, 9, 11, 12]]
def f11r15 : List I := [.op (.mov 58 (.tmp 12)),
  .op (.mov 59 (.tmp 7)),
  .op (.len 60 true (.tmp 59)),
  .op (.bin 61 .lss (.tmp 58) (.tmp 60)),
  .kp [4, 5, 7, 9, 11, 12, 61]]
def f11r16 : List I := [.op (.mov 65 (.tmp 7)),
  .op (.mov 66 (.tmp 7)),
  .op (.mov 67 (.tmp 12)),
  .op (.iad 68 12 (.tmp 66) (.tmp 67)),
  .op (.fad 69 0 (.tmp 68)),
  .op (.ld 70 none (.tmp 69)),
  .op (.ld 71 (some 2) (.tmp 5)),
  .op (.call (some 72) 41 [(.tmp 65), (.tmp 70), (.tmp 71)]),
  .op (.mov 64 (.tmp 72)),
  .op (.ext 73 (.tmp 64) 0),
  .kp [4, 5, 7, 9, 11, 12, 64, 73],
  .op (.ext 74 (.tmp 64) 1),
  .op (.mov 13 (.tmp 73)),
  .op (.mov 14 (.tmp 74)),
  .kp [4, 5, 7, 9, 11, 12, 13, 14]]
def f11r17a : List I := [.op (.mov 87 (.tmp 86)),
  .sc 87 false 8,
  .g 87 false (.mov 88 (.tmp 7)),
  .g 87 false (.mov 89 (.tmp 12)),
  .g 87 false (.iad 90 12 (.tmp 88) (.tmp 89)),
  .g 87 false (.fad 91 0 (.tmp 90)),
  .g 87 false (.ld 92 none (.tmp 91)),
  .g 87 false (.fad 93 1 (.tmp 4)),
  .g 87 false (.ld 94 none (.tmp 93)),
  .g 87 false (.bin 95 .geq (.tmp 92) (.tmp 94)),
  .op (.pick 96 (.tmp 87) (.const (.bool true)) (.tmp 95)),
  .kp [96, 4, 5, 7, 9, 11, 12, 13]]
def f11r17 : List I := .op (.mov 75 (.tmp 14)) ::
  .op (.un 76 .not (.tmp 75)) ::
  .op (.mov 77 (.tmp 76)) ::
  .sc 77 false 8 ::
  .g 77 false (.mov 78 (.tmp 7)) ::
  .g 77 false (.mov 79 (.tmp 12)) ::
  .g 77 false (.iad 80 12 (.tmp 78) (.tmp 79)) ::
  .g 77 false (.fad 81 0 (.tmp 80)) ::
  .g 77 false (.ld 82 none (.tmp 81)) ::
  .g 77 false (.fad 83 0 (.tmp 4)) ::
  .g 77 false (.ld 84 none (.tmp 83)) ::
  .g 77 false (.bin 85 .lss (.tmp 82) (.tmp 84)) ::
  .op (.pick 86 (.tmp 77) (.const (.bool true)) (.tmp 85)) ::
  .kp [86, 4, 5, 7, 9, 11, 12, 13] ::
  f11r17a
def f11r18 : List I := [.op (.mov 97 (.tmp 11)),
  .op (.mov 98 (.tmp 9)),
  .op (.len 99 true (.tmp 98)),
  .op (.bin 100 .geq (.tmp 97) (.tmp 99)),
  .op (.mov 101 (.tmp 100)),
  .sc 101 false 12,
  .g 101 false (.mov 102 (.tmp 9)),
  .g 101 false (.mov 103 (.tmp 11)),
  .g 101 false (.iad 104 2 (.tmp 102) (.tmp 103)),
  .g 101 false (.ld 105 (some 2) (.tmp 104)),
  .g 101 false (.mov 106 (.tmp 7)),
  .g 101 false (.mov 107 (.tmp 12)),
  .g 101 false (.iad 108 12 (.tmp 106) (.tmp 107)),
  .g 101 false (.fad 109 0 (.tmp 108)),
  .g 101 false (.ld 110 none (.tmp 109)),
  .g 101 false (.mov 111 (.tmp 13)),
  .g 101 false (.bld 112 [.string ⟨#[]⟩, .string ⟨#[]⟩] [(0, 1, (.tmp 110)), (1, 1, (.tmp 111))]),
  .g 101 false (.eqa 113 true [.s, .s] (.tmp 105) (.tmp 112)),
  .op (.pick 114 (.tmp 101) (.const (.bool true)) (.tmp 113)),
  .kp [114, 4, 5, 7, 9, 11, 12]]
def f11r19 : List I := [.op (.mov 6 (.const (.bool false))),
  .kp [6]]
def f11r20 : List I := [.op (.mov 115 (.tmp 11)),
  .op (.bin 116 .add (.tmp 115) (.const (.int .i64 1))),
  .op (.mov 11 (.tmp 116)),
  .kp [4, 5, 7, 9, 11, 12]]
def f11r21 : List I := [.op (.mov 62 (.tmp 12)),
  .op (.bin 63 .add (.tmp 62) (.const (.int .i64 1))),
  .op (.mov 12 (.tmp 63)),
  .kp [4, 5, 7, 9, 11, 12]]
def f11r22 : List I := [.op (.mov 118 (.tmp 7)),
  .op (.ld 119 (some 2) (.tmp 4)),
  .op (.ld 120 (some 2) (.tmp 5)),
  .op (.mov 121 (.tmp 11)),
  .op (.bin 122 .sub (.tmp 121) (.const (.int .i64 1))),
  .op (.call (some 123) 47 [(.tmp 118), (.tmp 119), (.tmp 120), (.tmp 122)]),
  .op (.mov 117 (.tmp 123)),
  .op (.ext 124 (.tmp 117) 0),
  .op (.ext 125 (.tmp 117) 1),
  .op (.mov 15 (.tmp 124)),
  .kp [9, 11, 125],
  .op (.mov 16 (.tmp 125)),
  .kp [9, 11, 16]]
def f11r23a : List I := [.op (.mov 6 (.tmp 137)),
  .kp [6]]
def f11r23 : List I := .op (.mov 126 (.tmp 11)) ::
  .op (.mov 127 (.tmp 9)) ::
  .op (.len 128 true (.tmp 127)) ::
  .op (.bin 129 .eql (.tmp 126) (.tmp 128)) ::
  .op (.mov 130 (.tmp 129)) ::
  .sc 130 true 7 ::
  .g 130 true (.mov 131 (.tmp 11)) ::
  .g 130 true (.bin 132 .eql (.tmp 131) (.const (.int .i64 0))) ::
  .g 130 true (.mov 133 (.tmp 132)) ::
  .sc 133 false 2 ::
  .g 133 false (.mov 134 (.tmp 16)) ::
  .g 133 false (.bin 135 .eql (.tmp 134) (.const (.int .i64 3))) ::
  .g 130 true (.pick 136 (.tmp 133) (.const (.bool true)) (.tmp 135)) ::
  .op (.pick 137 (.tmp 130) (.tmp 136) (.const (.bool false))) ::
  .kp [137] ::
  f11r23a
def f11c3 : C := (.seq (.reg f11r2) .ret)
def f11c6 : C := (.seq (.reg f11r4) .ret)
def f11c13 : C := (.reg f11r8)
def f11c14 : C := (.reg f11r9)
def f11c12 : C := (.seq (.block 1 f11c13) f11c14)
def f11c11 : C := (.seq (.cond (.tmp 37) .skip (.exit 0)) f11c12)
def f11c10 : C := (.seq (.reg f11r7) f11c11)
def f11c18 : C := (.seq (.reg f11r12) .ret)
def f11c30 : C := (.seq (.reg f11r19) .ret)
def f11c31 : C := (.reg f11r20)
def f11c29 : C := (.seq (.cond (.tmp 114) f11c30 .skip) f11c31)
def f11c28 : C := (.seq (.drw f11r18) f11c29)
def f11c27 : C := (.seq (.cond (.tmp 96) (.exit 3) .skip) f11c28)
def f11c26 : C := (.seq (.drw f11r17) f11c27)
def f11c25 : C := (.seq (.drw f11r16) f11c26)
def f11c32 : C := (.reg f11r21)
def f11c24 : C := (.seq (.block 3 f11c25) f11c32)
def f11c23 : C := (.seq (.cond (.tmp 61) .skip (.exit 2)) f11c24)
def f11c22 : C := (.seq (.reg f11r15) f11c23)
def f11c34 : C := (.seq (.reg f11r23) .ret)
def f11c33 : C := (.seq (.reg f11r22) f11c34)
def f11c21 : C := (.seq (.block 2 (.loop f11c22)) f11c33)
def f11c20 : C := (.seq (.reg f11r14) f11c21)
def f11c19 : C := (.seq (.reg f11r13) f11c20)
def f11c17 : C := (.seq (.cond (.tmp 57) f11c18 .skip) f11c19)
def f11c16 : C := (.seq (.reg f11r11) f11c17)
def f11c15 : C := (.seq (.reg f11r10) f11c16)
def f11c9 : C := (.seq (.block 0 (.loop f11c10)) f11c15)
def f11c8 : C := (.seq (.reg f11r6) f11c9)
def f11c7 : C := (.seq (.reg f11r5) f11c8)
def f11c5 : C := (.seq (.cond (.tmp 33) f11c6 .skip) f11c7)
def f11c4 : C := (.seq (.reg f11r3) f11c5)
def f11c2 : C := (.seq (.cond (.tmp 18) f11c3 .skip) f11c4)
def f11c1 : C := (.seq (.reg f11r1) f11c2)
def f11c0 : C := (.seq (.reg f11r0) f11c1)
theorem f11cmp : cmpF Try.prog Try.f11 [.l [.o 0, .o 1, .o 2, .kp [0, 4, 5]],
  .l [.o 0, .o 1, .kp [0, 4, 5, 18]],
  .l [.o 0, .kp [6]],
  .l [.o 0, .o 1, .o 2, .o 3, .sc 22 false 4, .o 4, .o 5, .o 6, .o 7, .o 8, .kp [27, 0, 4, 5], .o 9, .sc 28 false 4, .o 10, .o 11, .o 12, .o 13, .o 14, .kp [33, 0, 4, 5]],
  .l [.o 0, .kp [6]],
  .l [.o 0, .kp [0, 4, 5, 7]],
  .l [.o 0, .kp [0, 4, 5, 7, 8]],
  .l [.o 0, .o 1, .o 2, .o 3, .kp [0, 4, 5, 7, 8, 37]],
  .l [.o 0, .o 1, .o 2, .o 3, .o 4, .o 5, .o 6, .o 7, .o 8, .o 9, .kp [0, 4, 5, 7, 8]],
  .l [.o 0, .o 1, .o 2, .kp [0, 4, 5, 7, 8]],
  .l [.o 0, .o 1, .o 2, .o 3, .o 4, .o 5, .o 6, .o 7, .o 8, .kp [4, 5, 7, 9, 10]],
  .l [.o 0, .o 1, .kp [4, 5, 7, 9, 57]],
  .l [.o 0, .kp [6]],
  .l [.o 0, .kp [4, 5, 7, 9, 11]],
  .l [.o 0, .kp [4, 5, 7, 9, 11, 12]],
  .l [.o 0, .o 1, .o 2, .o 3, .kp [4, 5, 7, 9, 11, 12, 61]],
  .l [.o 0, .o 1, .o 2, .o 3, .o 4, .o 5, .o 6, .o 7, .o 8, .o 9, .kp [4, 5, 7, 9, 11, 12, 64, 73], .o 10, .o 11, .o 12, .kp [4, 5, 7, 9, 11, 12, 13, 14]],
  .l [.o 0, .o 1, .o 2, .sc 77 false 8, .o 3, .o 4, .o 5, .o 6, .o 7, .o 8, .o 9, .o 10, .o 11, .kp [86, 4, 5, 7, 9, 11, 12, 13], .o 12, .sc 87 false 8, .o 13, .o 14, .o 15, .o 16, .o 17, .o 18, .o 19, .o 20, .o 21, .kp [96, 4, 5, 7, 9, 11, 12, 13]],
  .l [.o 0, .o 1, .o 2, .o 3, .o 4, .sc 101 false 12, .o 5, .o 6, .o 7, .o 8, .o 9, .o 10, .o 11, .o 12, .o 13, .o 14, .o 15, .o 16, .o 17, .kp [114, 4, 5, 7, 9, 11, 12]],
  .l [.o 0, .kp [6]],
  .l [.o 0, .o 1, .o 2, .kp [4, 5, 7, 9, 11, 12]],
  .l [.o 0, .o 1, .o 2, .kp [4, 5, 7, 9, 11, 12]],
  .l [.o 0, .o 1, .o 2, .o 3, .o 4, .o 5, .o 6, .o 7, .o 8, .o 9, .kp [9, 11, 125], .o 10, .kp [9, 11, 16]],
  .l [.o 0, .o 1, .o 2, .o 3, .o 4, .sc 130 true 7, .o 5, .o 6, .o 7, .sc 133 false 2, .o 8, .o 9, .o 10, .o 11, .kp [137], .o 12, .kp [6]]] = some (f11c0, [.tmp 6]) := by kernel_rfl
theorem f11ok {args : List Value} {h : Heap} {R : Value → Heap → Prop} (hn : args.length ≤ 138) (H : wC Try.prog f11c0 (endW [.tmp 6] R) (envOf 0 args) h) : CallsH Try.prog 11 args h R :=
  fn_ok2 Try.func11 f11cmp hn H
theorem f11cal : callable Try.prog 11 = true := by kernel_rfl
section
variable {Q : X → Env → Heap → Prop} {σ : Env} {h : Heap}
theorem f11c3_eq : wC Try.prog f11c3 Q σ h = (wL Try.prog none f11r2 0 (fun σ h => Q .ret σ h) σ h) := rfl
theorem f11c6_eq : wC Try.prog f11c6 Q σ h = (wL Try.prog none f11r4 0 (fun σ h => Q .ret σ h) σ h) := rfl
theorem f11c13_eq : wC Try.prog f11c13 Q σ h = (wL Try.prog none f11r8 0 (fun σ h => Q .normal σ h) σ h) := rfl
theorem f11c14_eq : wC Try.prog f11c14 Q σ h = (wL Try.prog none f11r9 0 (fun σ h => Q .normal σ h) σ h) := rfl
theorem f11c12_eq : wC Try.prog f11c12 Q σ h = (wC Try.prog f11c13 (X.inBlock 1 (X.then (fun σ h => wC Try.prog f11c14 Q σ h) Q)) σ h) := rfl
theorem f11c11_eq : wC Try.prog f11c11 Q σ h = (bd (evO σ (.tmp 37)) fun v => bd (asB v) fun t => br t (wC Try.prog f11c12 Q σ h) (Q (.exit 0) σ h)) := rfl
theorem f11c10_eq : wC Try.prog f11c10 Q σ h = (wL Try.prog none f11r7 0 (fun σ h => wC Try.prog f11c11 Q σ h) σ h) := rfl
theorem f11c18_eq : wC Try.prog f11c18 Q σ h = (wL Try.prog none f11r12 0 (fun σ h => Q .ret σ h) σ h) := rfl
theorem f11c30_eq : wC Try.prog f11c30 Q σ h = (wL Try.prog none f11r19 0 (fun σ h => Q .ret σ h) σ h) := rfl
theorem f11c31_eq : wC Try.prog f11c31 Q σ h = (wL Try.prog none f11r20 0 (fun σ h => Q .normal σ h) σ h) := rfl
theorem f11c29_eq : wC Try.prog f11c29 Q σ h = (bd (evO σ (.tmp 114)) fun v => bd (asB v) fun t => br t (wC Try.prog f11c30 (X.then (fun σ h => wC Try.prog f11c31 Q σ h) Q) σ h) (wC Try.prog f11c31 Q σ h)) := rfl
theorem f11c28_eq : wC Try.prog f11c28 Q σ h = (drwW Try.prog f11r18 (fun σ h => wC Try.prog f11c29 Q σ h) σ h) := rfl
theorem f11c27_eq : wC Try.prog f11c27 Q σ h = (bd (evO σ (.tmp 96)) fun v => bd (asB v) fun t => br t (Q (.exit 3) σ h) (wC Try.prog f11c28 Q σ h)) := rfl
theorem f11c26_eq : wC Try.prog f11c26 Q σ h = (drwW Try.prog f11r17 (fun σ h => wC Try.prog f11c27 Q σ h) σ h) := rfl
theorem f11c25_eq : wC Try.prog f11c25 Q σ h = (drwW Try.prog f11r16 (fun σ h => wC Try.prog f11c26 Q σ h) σ h) := rfl
theorem f11c32_eq : wC Try.prog f11c32 Q σ h = (wL Try.prog none f11r21 0 (fun σ h => Q .normal σ h) σ h) := rfl
theorem f11c24_eq : wC Try.prog f11c24 Q σ h = (wC Try.prog f11c25 (X.inBlock 3 (X.then (fun σ h => wC Try.prog f11c32 Q σ h) Q)) σ h) := rfl
theorem f11c23_eq : wC Try.prog f11c23 Q σ h = (bd (evO σ (.tmp 61)) fun v => bd (asB v) fun t => br t (wC Try.prog f11c24 Q σ h) (Q (.exit 2) σ h)) := rfl
theorem f11c22_eq : wC Try.prog f11c22 Q σ h = (wL Try.prog none f11r15 0 (fun σ h => wC Try.prog f11c23 Q σ h) σ h) := rfl
theorem f11c34_eq : wC Try.prog f11c34 Q σ h = (wL Try.prog none f11r23 0 (fun σ h => Q .ret σ h) σ h) := rfl
theorem f11c33_eq : wC Try.prog f11c33 Q σ h = (wL Try.prog none f11r22 0 (fun σ h => wC Try.prog f11c34 Q σ h) σ h) := rfl
theorem f11c21_eq : wC Try.prog f11c21 Q σ h = (loopW (wC Try.prog f11c22) (X.inBlock 2 (X.then (fun σ h => wC Try.prog f11c33 Q σ h) Q)) σ h) := rfl
theorem f11c20_eq : wC Try.prog f11c20 Q σ h = (wL Try.prog none f11r14 0 (fun σ h => wC Try.prog f11c21 Q σ h) σ h) := rfl
theorem f11c19_eq : wC Try.prog f11c19 Q σ h = (wL Try.prog none f11r13 0 (fun σ h => wC Try.prog f11c20 Q σ h) σ h) := rfl
theorem f11c17_eq : wC Try.prog f11c17 Q σ h = (bd (evO σ (.tmp 57)) fun v => bd (asB v) fun t => br t (wC Try.prog f11c18 (X.then (fun σ h => wC Try.prog f11c19 Q σ h) Q) σ h) (wC Try.prog f11c19 Q σ h)) := rfl
theorem f11c16_eq : wC Try.prog f11c16 Q σ h = (wL Try.prog none f11r11 0 (fun σ h => wC Try.prog f11c17 Q σ h) σ h) := rfl
theorem f11c15_eq : wC Try.prog f11c15 Q σ h = (wL Try.prog none f11r10 0 (fun σ h => wC Try.prog f11c16 Q σ h) σ h) := rfl
theorem f11c9_eq : wC Try.prog f11c9 Q σ h = (loopW (wC Try.prog f11c10) (X.inBlock 0 (X.then (fun σ h => wC Try.prog f11c15 Q σ h) Q)) σ h) := rfl
theorem f11c8_eq : wC Try.prog f11c8 Q σ h = (wL Try.prog none f11r6 0 (fun σ h => wC Try.prog f11c9 Q σ h) σ h) := rfl
theorem f11c7_eq : wC Try.prog f11c7 Q σ h = (wL Try.prog none f11r5 0 (fun σ h => wC Try.prog f11c8 Q σ h) σ h) := rfl
theorem f11c5_eq : wC Try.prog f11c5 Q σ h = (bd (evO σ (.tmp 33)) fun v => bd (asB v) fun t => br t (wC Try.prog f11c6 (X.then (fun σ h => wC Try.prog f11c7 Q σ h) Q) σ h) (wC Try.prog f11c7 Q σ h)) := rfl
theorem f11c4_eq : wC Try.prog f11c4 Q σ h = (wL Try.prog none f11r3 0 (fun σ h => wC Try.prog f11c5 Q σ h) σ h) := rfl
theorem f11c2_eq : wC Try.prog f11c2 Q σ h = (bd (evO σ (.tmp 18)) fun v => bd (asB v) fun t => br t (wC Try.prog f11c3 (X.then (fun σ h => wC Try.prog f11c4 Q σ h) Q) σ h) (wC Try.prog f11c4 Q σ h)) := rfl
theorem f11c1_eq : wC Try.prog f11c1 Q σ h = (wL Try.prog none f11r1 0 (fun σ h => wC Try.prog f11c2 Q σ h) σ h) := rfl
theorem f11c0_eq : wC Try.prog f11c0 Q σ h = (wL Try.prog none f11r0 0 (fun σ h => wC Try.prog f11c1 Q σ h) σ h) := rfl
end
end Go.Proofs.Ytefghfgmkndikaa
