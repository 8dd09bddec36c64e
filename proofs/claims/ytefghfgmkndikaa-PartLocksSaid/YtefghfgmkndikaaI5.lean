/-
  The walks and plain laws under the laws of one package: texts of mine put together, what they do not use left out (wip/tools/prune.py).
-/
import Derived.Test.YtefghfgmkndikaaI4
set_option linter.unusedSimpArgs false
set_option linter.unusedVariables false
namespace Go.Proofs.Ytefghfgmkndikaa
open Go.AX
set_option maxRecDepth 100000
def f94r0 : List I := [.op (.box 1 43 (.tmp 0)),
  .op (.mov 2 (.const (.bool false))),
  .kp [1]]
def f94r1 : List I := [.op (.mov 3 (.const (.int .i64 0))),
  .kp [1, 3]]
def f94r2 : List I := [.op (.mov 4 (.const (.int .i64 0))),
  .kp [1, 3, 4]]
def f94r3 : List I := [.op (.mov 6 (.tmp 4)),
  .op (.fad 7 12 (.tmp 1)),
  .op (.ld 8 none (.tmp 7)),
  .op (.len 9 true (.tmp 8)),
  .op (.bin 10 .lss (.tmp 6) (.tmp 9)),
  .op (.mov 11 (.tmp 10)),
  .sc 11 true 2,
  .g 11 true (.mov 12 (.tmp 3)),
  .g 11 true (.bin 13 .lss (.tmp 12) (.const (.int .i64 16384))),
  .op (.pick 14 (.tmp 11) (.tmp 13) (.const (.bool false))),
  .kp [14, 1, 3, 4]]
def f94r4 : List I := [.op (.fad 17 12 (.tmp 1)),
  .op (.ld 18 none (.tmp 17)),
  .op (.mov 19 (.tmp 4)),
  .op (.iad 20 2 (.tmp 18) (.tmp 19)),
  .op (.fad 21 0 (.tmp 20)),
  .op (.ld 22 none (.tmp 21)),
  .op (.len 23 false (.tmp 22)),
  .op (.bin 24 .gtr (.tmp 23) (.const (.int .i64 8192))),
  .op (.mov 25 (.tmp 24)),
  .sc 25 false 8,
  .g 25 false (.fad 26 12 (.tmp 1)),
  .g 25 false (.ld 27 none (.tmp 26)),
  .g 25 false (.mov 28 (.tmp 4)),
  .g 25 false (.iad 29 2 (.tmp 27) (.tmp 28)),
  .g 25 false (.fad 30 1 (.tmp 29)),
  .g 25 false (.ld 31 none (.tmp 30)),
  .g 25 false (.len 32 false (.tmp 31)),
  .g 25 false (.bin 33 .gtr (.tmp 32) (.const (.int .i64 8192))),
  .op (.pick 34 (.tmp 25) (.const (.bool true)) (.tmp 33)),
  .kp [34, 1, 3, 4]]
def f94r5 : List I := [.op (.mov 2 (.const (.bool false))),
  .kp [2]]
def f94r6 : List I := [.op (.mov 35 (.tmp 3)),
  .op (.fad 36 12 (.tmp 1)),
  .op (.ld 37 none (.tmp 36)),
  .op (.mov 38 (.tmp 4)),
  .op (.iad 39 2 (.tmp 37) (.tmp 38)),
  .op (.fad 40 0 (.tmp 39)),
  .op (.ld 41 none (.tmp 40)),
  .op (.len 42 false (.tmp 41)),
  .op (.bin 43 .add (.tmp 35) (.tmp 42)),
  .op (.fad 44 12 (.tmp 1)),
  .kp [1, 4, 43, 44],
  .op (.ld 45 none (.tmp 44)),
  .op (.mov 46 (.tmp 4)),
  .op (.iad 47 2 (.tmp 45) (.tmp 46)),
  .op (.fad 48 1 (.tmp 47)),
  .op (.ld 49 none (.tmp 48)),
  .op (.len 50 false (.tmp 49)),
  .op (.bin 51 .add (.tmp 43) (.tmp 50)),
  .op (.mov 3 (.tmp 51)),
  .kp [1, 3, 4]]
def f94r7 : List I := [.op (.mov 15 (.tmp 4)),
  .op (.bin 16 .add (.tmp 15) (.const (.int .i64 1))),
  .op (.mov 4 (.tmp 16)),
  .kp [1, 3, 4]]
def f94r8 : List I := [.op (.mov 5 (.const (.int .i64 0))),
  .kp [1, 3, 5]]
def f94r9 : List I := [.op (.mov 52 (.tmp 5)),
  .op (.fad 53 13 (.tmp 1)),
  .op (.ld 54 none (.tmp 53)),
  .op (.len 55 true (.tmp 54)),
  .op (.bin 56 .lss (.tmp 52) (.tmp 55)),
  .op (.mov 57 (.tmp 56)),
  .sc 57 true 2,
  .g 57 true (.mov 58 (.tmp 3)),
  .g 57 true (.bin 59 .lss (.tmp 58) (.const (.int .i64 16384))),
  .op (.pick 60 (.tmp 57) (.tmp 59) (.const (.bool false))),
  .kp [60, 1, 3, 5]]
def f94r10 : List I := [.op (.fad 63 13 (.tmp 1)),
  .op (.ld 64 none (.tmp 63)),
  .op (.mov 65 (.tmp 5)),
  .op (.iad 66 3 (.tmp 64) (.tmp 65)),
  .op (.fad 67 0 (.tmp 66)),
  .op (.ld 68 none (.tmp 67)),
  .op (.len 69 false (.tmp 68)),
  .op (.bin 70 .gtr (.tmp 69) (.const (.int .i64 8192))),
  .op (.mov 71 (.tmp 70)),
  .sc 71 false 8,
  .g 71 false (.fad 72 13 (.tmp 1)),
  .g 71 false (.ld 73 none (.tmp 72)),
  .g 71 false (.mov 74 (.tmp 5)),
  .g 71 false (.iad 75 3 (.tmp 73) (.tmp 74)),
  .g 71 false (.fad 76 2 (.tmp 75)),
  .g 71 false (.ld 77 none (.tmp 76)),
  .g 71 false (.len 78 false (.tmp 77)),
  .g 71 false (.bin 79 .gtr (.tmp 78) (.const (.int .i64 8192))),
  .op (.pick 80 (.tmp 71) (.const (.bool true)) (.tmp 79)),
  .kp [80, 1, 3, 5]]
def f94r11 : List I := [.op (.mov 2 (.const (.bool false))),
  .kp [2]]
def f94r12 : List I := [.op (.mov 81 (.tmp 3)),
  .op (.fad 82 13 (.tmp 1)),
  .op (.ld 83 none (.tmp 82)),
  .op (.mov 84 (.tmp 5)),
  .op (.iad 85 3 (.tmp 83) (.tmp 84)),
  .op (.fad 86 0 (.tmp 85)),
  .op (.ld 87 none (.tmp 86)),
  .op (.len 88 false (.tmp 87)),
  .op (.bin 89 .add (.tmp 81) (.tmp 88)),
  .op (.fad 90 13 (.tmp 1)),
  .kp [1, 5, 89, 90],
  .op (.ld 91 none (.tmp 90)),
  .op (.mov 92 (.tmp 5)),
  .op (.iad 93 3 (.tmp 91) (.tmp 92)),
  .op (.fad 94 2 (.tmp 93)),
  .op (.ld 95 none (.tmp 94)),
  .op (.len 96 false (.tmp 95)),
  .op (.bin 97 .add (.tmp 89) (.tmp 96)),
  .op (.mov 3 (.tmp 97)),
  .kp [1, 3, 5]]
def f94r13 : List I := [.op (.mov 61 (.tmp 5)),
  .op (.bin 62 .add (.tmp 61) (.const (.int .i64 1))),
  .op (.mov 5 (.tmp 62)),
  .kp [1, 3, 5]]
def f94r14b : List I := [.op (.mov 2 (.tmp 111)),
  .kp [2]]
def f94r14a : List I := .op (.mov 106 (.tmp 105)) ::
  .sc 106 true 4 ::
  .g 106 true (.fad 107 13 (.tmp 1)) ::
  .g 106 true (.ld 108 none (.tmp 107)) ::
  .g 106 true (.len 109 true (.tmp 108)) ::
  .g 106 true (.bin 110 .lss (.tmp 109) (.const (.int .i64 100))) ::
  .op (.pick 111 (.tmp 106) (.tmp 110) (.const (.bool false))) ::
  .kp [111] ::
  f94r14b
def f94r14 : List I := .op (.mov 98 (.tmp 3)) ::
  .op (.bin 99 .lss (.tmp 98) (.const (.int .i64 8192))) ::
  .op (.mov 100 (.tmp 99)) ::
  .sc 100 true 4 ::
  .g 100 true (.fad 101 12 (.tmp 1)) ::
  .g 100 true (.ld 102 none (.tmp 101)) ::
  .g 100 true (.len 103 true (.tmp 102)) ::
  .g 100 true (.bin 104 .lss (.tmp 103) (.const (.int .i64 100))) ::
  .op (.pick 105 (.tmp 100) (.tmp 104) (.const (.bool false))) ::
  .kp [105, 1] ::
  f94r14a
def f94c9 : C := (.seq (.reg f94r5) .ret)
def f94c10 : C := (.drw f94r6)
def f94c8 : C := (.seq (.cond (.tmp 34) f94c9 .skip) f94c10)
def f94c7 : C := (.seq (.reg f94r4) f94c8)
def f94c11 : C := (.reg f94r7)
def f94c6 : C := (.seq (.block 1 f94c7) f94c11)
def f94c5 : C := (.seq (.cond (.tmp 14) .skip (.exit 0)) f94c6)
def f94c4 : C := (.seq (.reg f94r3) f94c5)
def f94c19 : C := (.seq (.reg f94r11) .ret)
def f94c20 : C := (.drw f94r12)
def f94c18 : C := (.seq (.cond (.tmp 80) f94c19 .skip) f94c20)
def f94c17 : C := (.seq (.reg f94r10) f94c18)
def f94c21 : C := (.reg f94r13)
def f94c16 : C := (.seq (.block 3 f94c17) f94c21)
def f94c15 : C := (.seq (.cond (.tmp 60) .skip (.exit 2)) f94c16)
def f94c14 : C := (.seq (.reg f94r9) f94c15)
def f94c22 : C := (.seq (.reg f94r14) .ret)
def f94c13 : C := (.seq (.block 2 (.loop f94c14)) f94c22)
def f94c12 : C := (.seq (.reg f94r8) f94c13)
def f94c3 : C := (.seq (.block 0 (.loop f94c4)) f94c12)
def f94c2 : C := (.seq (.reg f94r2) f94c3)
def f94c1 : C := (.seq (.reg f94r1) f94c2)
def f94c0 : C := (.seq (.reg f94r0) f94c1)
theorem f94cmp : cmpF Try.prog Try.f94 [.l [.o 0, .o 1, .kp [1]],
  .l [.o 0, .kp [1, 3]],
  .l [.o 0, .kp [1, 3, 4]],
  .l [.o 0, .o 1, .o 2, .o 3, .o 4, .o 5, .sc 11 true 2, .o 6, .o 7, .o 8, .kp [14, 1, 3, 4]],
  .l [.o 0, .o 1, .o 2, .o 3, .o 4, .o 5, .o 6, .o 7, .o 8, .sc 25 false 8, .o 9, .o 10, .o 11, .o 12, .o 13, .o 14, .o 15, .o 16, .o 17, .kp [34, 1, 3, 4]],
  .l [.o 0, .kp [2]],
  .l [.o 0, .o 1, .o 2, .o 3, .o 4, .o 5, .o 6, .o 7, .o 8, .o 9, .kp [1, 4, 43, 44], .o 10, .o 11, .o 12, .o 13, .o 14, .o 15, .o 16, .o 17, .kp [1, 3, 4]],
  .l [.o 0, .o 1, .o 2, .kp [1, 3, 4]],
  .l [.o 0, .kp [1, 3, 5]],
  .l [.o 0, .o 1, .o 2, .o 3, .o 4, .o 5, .sc 57 true 2, .o 6, .o 7, .o 8, .kp [60, 1, 3, 5]],
  .l [.o 0, .o 1, .o 2, .o 3, .o 4, .o 5, .o 6, .o 7, .o 8, .sc 71 false 8, .o 9, .o 10, .o 11, .o 12, .o 13, .o 14, .o 15, .o 16, .o 17, .kp [80, 1, 3, 5]],
  .l [.o 0, .kp [2]],
  .l [.o 0, .o 1, .o 2, .o 3, .o 4, .o 5, .o 6, .o 7, .o 8, .o 9, .kp [1, 5, 89, 90], .o 10, .o 11, .o 12, .o 13, .o 14, .o 15, .o 16, .o 17, .kp [1, 3, 5]],
  .l [.o 0, .o 1, .o 2, .kp [1, 3, 5]],
  .l [.o 0, .o 1, .o 2, .sc 100 true 4, .o 3, .o 4, .o 5, .o 6, .o 7, .kp [105, 1], .o 8, .sc 106 true 4, .o 9, .o 10, .o 11, .o 12, .o 13, .kp [111], .o 14, .kp [2]]] = some (f94c0, [.tmp 2]) := by kernel_rfl
theorem f94ok {args : List Value} {h : Heap} {R : Value → Heap → Prop} (hn : args.length ≤ 112) (H : wC Try.prog f94c0 (endW [.tmp 2] R) (envOf 0 args) h) : CallsH Try.prog 94 args h R :=
  fn_ok2 Try.func94 f94cmp hn H
section
variable {Q : X → Env → Heap → Prop} {σ : Env} {h : Heap}
theorem f94c9_eq : wC Try.prog f94c9 Q σ h = (wL Try.prog none f94r5 0 (fun σ h => Q .ret σ h) σ h) := rfl
theorem f94c10_eq : wC Try.prog f94c10 Q σ h = (drwW Try.prog f94r6 (fun σ h => Q .normal σ h) σ h) := rfl
theorem f94c8_eq : wC Try.prog f94c8 Q σ h = (bd (evO σ (.tmp 34)) fun v => bd (asB v) fun t => br t (wC Try.prog f94c9 (X.then (fun σ h => wC Try.prog f94c10 Q σ h) Q) σ h) (wC Try.prog f94c10 Q σ h)) := rfl
theorem f94c7_eq : wC Try.prog f94c7 Q σ h = (wL Try.prog none f94r4 0 (fun σ h => wC Try.prog f94c8 Q σ h) σ h) := rfl
theorem f94c11_eq : wC Try.prog f94c11 Q σ h = (wL Try.prog none f94r7 0 (fun σ h => Q .normal σ h) σ h) := rfl
theorem f94c6_eq : wC Try.prog f94c6 Q σ h = (wC Try.prog f94c7 (X.inBlock 1 (X.then (fun σ h => wC Try.prog f94c11 Q σ h) Q)) σ h) := rfl
theorem f94c5_eq : wC Try.prog f94c5 Q σ h = (bd (evO σ (.tmp 14)) fun v => bd (asB v) fun t => br t (wC Try.prog f94c6 Q σ h) (Q (.exit 0) σ h)) := rfl
theorem f94c4_eq : wC Try.prog f94c4 Q σ h = (wL Try.prog none f94r3 0 (fun σ h => wC Try.prog f94c5 Q σ h) σ h) := rfl
theorem f94c19_eq : wC Try.prog f94c19 Q σ h = (wL Try.prog none f94r11 0 (fun σ h => Q .ret σ h) σ h) := rfl
theorem f94c20_eq : wC Try.prog f94c20 Q σ h = (drwW Try.prog f94r12 (fun σ h => Q .normal σ h) σ h) := rfl
theorem f94c18_eq : wC Try.prog f94c18 Q σ h = (bd (evO σ (.tmp 80)) fun v => bd (asB v) fun t => br t (wC Try.prog f94c19 (X.then (fun σ h => wC Try.prog f94c20 Q σ h) Q) σ h) (wC Try.prog f94c20 Q σ h)) := rfl
theorem f94c17_eq : wC Try.prog f94c17 Q σ h = (wL Try.prog none f94r10 0 (fun σ h => wC Try.prog f94c18 Q σ h) σ h) := rfl
theorem f94c21_eq : wC Try.prog f94c21 Q σ h = (wL Try.prog none f94r13 0 (fun σ h => Q .normal σ h) σ h) := rfl
theorem f94c16_eq : wC Try.prog f94c16 Q σ h = (wC Try.prog f94c17 (X.inBlock 3 (X.then (fun σ h => wC Try.prog f94c21 Q σ h) Q)) σ h) := rfl
theorem f94c15_eq : wC Try.prog f94c15 Q σ h = (bd (evO σ (.tmp 60)) fun v => bd (asB v) fun t => br t (wC Try.prog f94c16 Q σ h) (Q (.exit 2) σ h)) := rfl
theorem f94c14_eq : wC Try.prog f94c14 Q σ h = (wL Try.prog none f94r9 0 (fun σ h => wC Try.prog f94c15 Q σ h) σ h) := rfl
theorem f94c22_eq : wC Try.prog f94c22 Q σ h = (wL Try.prog none f94r14 0 (fun σ h => Q .ret σ h) σ h) := rfl
theorem f94c13_eq : wC Try.prog f94c13 Q σ h = (loopW (wC Try.prog f94c14) (X.inBlock 2 (X.then (fun σ h => wC Try.prog f94c22 Q σ h) Q)) σ h) := rfl
theorem f94c12_eq : wC Try.prog f94c12 Q σ h = (wL Try.prog none f94r8 0 (fun σ h => wC Try.prog f94c13 Q σ h) σ h) := rfl
theorem f94c3_eq : wC Try.prog f94c3 Q σ h = (loopW (wC Try.prog f94c4) (X.inBlock 0 (X.then (fun σ h => wC Try.prog f94c12 Q σ h) Q)) σ h) := rfl
theorem f94c2_eq : wC Try.prog f94c2 Q σ h = (wL Try.prog none f94r2 0 (fun σ h => wC Try.prog f94c3 Q σ h) σ h) := rfl
theorem f94c1_eq : wC Try.prog f94c1 Q σ h = (wL Try.prog none f94r1 0 (fun σ h => wC Try.prog f94c2 Q σ h) σ h) := rfl
theorem f94c0_eq : wC Try.prog f94c0 Q σ h = (wL Try.prog none f94r0 0 (fun σ h => wC Try.prog f94c1 Q σ h) σ h) := rfl
end
def f53r0 : List I := [.op (.mov 4 (.const (.bool false))),
  .kp [0, 1]]
def f53r1 : List I := [.op (.mov 6 (.tmp 0)),
  .op (.len 7 true (.tmp 6)),
  .op (.mov 8 (.tmp 1)),
  .op (.bin 9 .gtr (.tmp 7) (.tmp 8)),
  .kp [0, 9]]
def f53r2 : List I := [.op (.mov 4 (.const (.bool false))),
  .kp [4]]
def f53r3 : List I := [.op (.mov 5 (.const (.int .i64 0))),
  .kp [0, 5]]
def f53r4 : List I := [.op (.mov 10 (.tmp 5)),
  .op (.mov 11 (.tmp 0)),
  .op (.len 12 true (.tmp 11)),
  .op (.bin 13 .lss (.tmp 10) (.tmp 12)),
  .kp [0, 5, 13]]
def f53r5 : List I := [.op (.mov 16 (.tmp 0)),
  .op (.mov 17 (.tmp 5)),
  .op (.iad 18 14 (.tmp 16) (.tmp 17)),
  .op (.ld 19 (some 14) (.tmp 18)),
  .op (.call (some 20) 94 [(.tmp 19)]),
  .op (.un 21 .not (.tmp 20)),
  .kp [0, 5, 21]]
def f53r6 : List I := [.op (.mov 4 (.const (.bool false))),
  .kp [4]]
def f53r7 : List I := [.op (.mov 14 (.tmp 5)),
  .op (.bin 15 .add (.tmp 14) (.const (.int .i64 1))),
  .op (.mov 5 (.tmp 15)),
  .kp [0, 5]]
def f53r8 : List I := [.op (.mov 4 (.const (.bool true))),
  .kp [4]]
def f53c3 : C := (.seq (.reg f53r2) .ret)
def f53c11 : C := (.seq (.reg f53r6) .ret)
def f53c10 : C := (.cond (.tmp 21) f53c11 .skip)
def f53c9 : C := (.seq (.reg f53r5) f53c10)
def f53c12 : C := (.reg f53r7)
def f53c8 : C := (.seq (.block 1 f53c9) f53c12)
def f53c7 : C := (.seq (.cond (.tmp 13) .skip (.exit 0)) f53c8)
def f53c6 : C := (.seq (.reg f53r4) f53c7)
def f53c13 : C := (.seq (.reg f53r8) .ret)
def f53c5 : C := (.seq (.block 0 (.loop f53c6)) f53c13)
def f53c4 : C := (.seq (.reg f53r3) f53c5)
def f53c2 : C := (.seq (.cond (.tmp 9) f53c3 .skip) f53c4)
def f53c1 : C := (.seq (.reg f53r1) f53c2)
def f53c0 : C := (.seq (.reg f53r0) f53c1)
theorem f53cmp : cmpF Try.prog Try.f53 [.l [.o 0, .kp [0, 1]],
  .l [.o 0, .o 1, .o 2, .o 3, .kp [0, 9]],
  .l [.o 0, .kp [4]],
  .l [.o 0, .kp [0, 5]],
  .l [.o 0, .o 1, .o 2, .o 3, .kp [0, 5, 13]],
  .l [.o 0, .o 1, .o 2, .o 3, .o 4, .o 5, .kp [0, 5, 21]],
  .l [.o 0, .kp [4]],
  .l [.o 0, .o 1, .o 2, .kp [0, 5]],
  .l [.o 0, .kp [4]]] = some (f53c0, [.tmp 4]) := by kernel_rfl
theorem f53ok {args : List Value} {h : Heap} {R : Value → Heap → Prop} (hn : args.length ≤ 22) (H : wC Try.prog f53c0 (endW [.tmp 4] R) (envOf 0 args) h) : CallsH Try.prog 53 args h R :=
  fn_ok2 Try.func53 f53cmp hn H
section
variable {Q : X → Env → Heap → Prop} {σ : Env} {h : Heap}
theorem f53c3_eq : wC Try.prog f53c3 Q σ h = (wL Try.prog none f53r2 0 (fun σ h => Q .ret σ h) σ h) := rfl
theorem f53c11_eq : wC Try.prog f53c11 Q σ h = (wL Try.prog none f53r6 0 (fun σ h => Q .ret σ h) σ h) := rfl
theorem f53c10_eq : wC Try.prog f53c10 Q σ h = (bd (evO σ (.tmp 21)) fun v => bd (asB v) fun t => br t (wC Try.prog f53c11 Q σ h) (Q .normal σ h)) := rfl
theorem f53c9_eq : wC Try.prog f53c9 Q σ h = (wL Try.prog none f53r5 0 (fun σ h => wC Try.prog f53c10 Q σ h) σ h) := rfl
theorem f53c12_eq : wC Try.prog f53c12 Q σ h = (wL Try.prog none f53r7 0 (fun σ h => Q .normal σ h) σ h) := rfl
theorem f53c8_eq : wC Try.prog f53c8 Q σ h = (wC Try.prog f53c9 (X.inBlock 1 (X.then (fun σ h => wC Try.prog f53c12 Q σ h) Q)) σ h) := rfl
theorem f53c7_eq : wC Try.prog f53c7 Q σ h = (bd (evO σ (.tmp 13)) fun v => bd (asB v) fun t => br t (wC Try.prog f53c8 Q σ h) (Q (.exit 0) σ h)) := rfl
theorem f53c6_eq : wC Try.prog f53c6 Q σ h = (wL Try.prog none f53r4 0 (fun σ h => wC Try.prog f53c7 Q σ h) σ h) := rfl
theorem f53c13_eq : wC Try.prog f53c13 Q σ h = (wL Try.prog none f53r8 0 (fun σ h => Q .ret σ h) σ h) := rfl
theorem f53c5_eq : wC Try.prog f53c5 Q σ h = (loopW (wC Try.prog f53c6) (X.inBlock 0 (X.then (fun σ h => wC Try.prog f53c13 Q σ h) Q)) σ h) := rfl
theorem f53c4_eq : wC Try.prog f53c4 Q σ h = (wL Try.prog none f53r3 0 (fun σ h => wC Try.prog f53c5 Q σ h) σ h) := rfl
theorem f53c2_eq : wC Try.prog f53c2 Q σ h = (bd (evO σ (.tmp 9)) fun v => bd (asB v) fun t => br t (wC Try.prog f53c3 (X.then (fun σ h => wC Try.prog f53c4 Q σ h) Q) σ h) (wC Try.prog f53c4 Q σ h)) := rfl
theorem f53c1_eq : wC Try.prog f53c1 Q σ h = (wL Try.prog none f53r1 0 (fun σ h => wC Try.prog f53c2 Q σ h) σ h) := rfl
theorem f53c0_eq : wC Try.prog f53c0 Q σ h = (wL Try.prog none f53r0 0 (fun σ h => wC Try.prog f53c1 Q σ h) σ h) := rfl
end
def f54r0 : List I := [.op (.box 3 116 (.tmp 0)),
  .op (.box 4 43 (.tmp 1)),
  .op (.new 6 43 [.int .i64 0, .int .i64 0, .int .i64 0, .int .i64 0, .int .i64 0, .int .i64 0, .int .i64 0, .int .i64 0, .int .i64 0, .int .i64 0, .int .i64 0, .bool false, .slice none 0 0, .slice none 0 0]),
  .kp [2, 3, 4, 6]]
def f54r1 : List I := [.op (.mov 7 (.tmp 2)),
  .op (.un 8 .not (.tmp 7)),
  .kp [3, 4, 6, 8]]
def f54r2 : List I := [.op (.fad 9 0 (.tmp 3)),
  .op (.ld 10 none (.tmp 9)),
  .op (.fad 11 1 (.tmp 4)),
  .op (.st 1 (.tmp 11) (.tmp 10)),
  .kp [4, 6]]
def f54r3 : List I := [.op (.fad 12 0 (.tmp 4)),
  .op (.ld 13 none (.tmp 12)),
  .op (.bin 14 .eql (.tmp 13) (.const (.int .i64 1))),
  .kp [4, 6, 14]]
def f54r4 : List I := [.op (.fad 15 1 (.tmp 4)),
  .op (.ld 16 none (.tmp 15)),
  .op (.bin 17 .add (.tmp 16) (.const (.int .i64 1))),
  .op (.fad 18 1 (.tmp 4)),
  .op (.st 1 (.tmp 18) (.tmp 17)),
  .kp [4, 6]]
def f54r5 : List I := [.op (.ld 19 (some 14) (.tmp 4)),
  .op (.st 14 (.tmp 6) (.tmp 19)),
  .kp [6]]
def f54c6 : C := (.reg f54r4)
def f54c5 : C := (.cond (.tmp 14) f54c6 .skip)
def f54c4 : C := (.seq (.reg f54r3) f54c5)
def f54c3 : C := (.seq (.reg f54r2) f54c4)
def f54c7 : C := (.seq (.reg f54r5) .ret)
def f54c2 : C := (.seq (.cond (.tmp 8) f54c3 .skip) f54c7)
def f54c1 : C := (.seq (.reg f54r1) f54c2)
def f54c0 : C := (.seq (.reg f54r0) f54c1)
theorem f54cmp : cmpF Try.prog Try.f54 [.l [.o 0, .o 1, .o 2, .kp [2, 3, 4, 6]],
  .l [.o 0, .o 1, .kp [3, 4, 6, 8]],
  .l [.o 0, .o 1, .o 2, .o 3, .kp [4, 6]],
  .l [.o 0, .o 1, .o 2, .kp [4, 6, 14]],
  .l [.o 0, .o 1, .o 2, .o 3, .o 4, .kp [4, 6]],
  .l [.o 0, .o 1, .kp [6]]] = some (f54c0, [.cell 6 14]) := by kernel_rfl
theorem f54ok {args : List Value} {h : Heap} {R : Value → Heap → Prop} (hn : args.length ≤ 20) (H : wC Try.prog f54c0 (endW [.cell 6 14] R) (envOf 0 args) h) : CallsH Try.prog 54 args h R :=
  fn_ok2 Try.func54 f54cmp hn H
section
variable {Q : X → Env → Heap → Prop} {σ : Env} {h : Heap}
theorem f54c6_eq : wC Try.prog f54c6 Q σ h = (wL Try.prog none f54r4 0 (fun σ h => Q .normal σ h) σ h) := rfl
theorem f54c5_eq : wC Try.prog f54c5 Q σ h = (bd (evO σ (.tmp 14)) fun v => bd (asB v) fun t => br t (wC Try.prog f54c6 Q σ h) (Q .normal σ h)) := rfl
theorem f54c4_eq : wC Try.prog f54c4 Q σ h = (wL Try.prog none f54r3 0 (fun σ h => wC Try.prog f54c5 Q σ h) σ h) := rfl
theorem f54c3_eq : wC Try.prog f54c3 Q σ h = (wL Try.prog none f54r2 0 (fun σ h => wC Try.prog f54c4 Q σ h) σ h) := rfl
theorem f54c7_eq : wC Try.prog f54c7 Q σ h = (wL Try.prog none f54r5 0 (fun σ h => Q .ret σ h) σ h) := rfl
theorem f54c2_eq : wC Try.prog f54c2 Q σ h = (bd (evO σ (.tmp 8)) fun v => bd (asB v) fun t => br t (wC Try.prog f54c3 (X.then (fun σ h => wC Try.prog f54c7 Q σ h) Q) σ h) (wC Try.prog f54c7 Q σ h)) := rfl
theorem f54c1_eq : wC Try.prog f54c1 Q σ h = (wL Try.prog none f54r1 0 (fun σ h => wC Try.prog f54c2 Q σ h) σ h) := rfl
theorem f54c0_eq : wC Try.prog f54c0 Q σ h = (wL Try.prog none f54r0 0 (fun σ h => wC Try.prog f54c1 Q σ h) σ h) := rfl
end
section
variable {Q : X → Env → Heap → Prop} {σ : Env} {h : Heap}
end
def f52r0 : List I := [.op (.mov 0 (.const (.bool false))),
  .kp []]
def f52r1 : List I := [.op (.bld 8 [.int .i64 0, .int .i64 0, .int .i64 0, .int .i64 0, .int .i64 0, .int .i64 0, .slice none 0 0, .slice none 0 0, .slice none 0 0] []),
  .op (.bld 9 [.int .i64 0, .int .i64 0, .int .i64 0, .int .i64 0, .int .i64 0, .int .i64 0, .int .i64 0, .int .i64 0, .int .i64 0, .int .i64 0, .int .i64 0, .bool false, .slice none 0 0, .slice none 0 0] [(0, 1, (.const (.int .i64 1))), (1, 1, (.const (.int .i64 1))), (2, 1, (.const (.int .i64 2)))]),
  .op (.call (some 10) 56 [(.tmp 8), (.tmp 9)]),
  .op (.mov 7 (.tmp 10)),
  .op (.ext 11 (.tmp 7) 0),
  .op (.ext 12 (.tmp 7) 1),
  .op (.new 1 116 [.int .i64 0, .int .i64 0, .int .i64 0, .int .i64 0, .int .i64 0, .int .i64 0, .slice none 0 0, .slice none 0 0, .slice none 0 0]),
  .op (.new 2 47 [.int .i64 0, .slice none 0 0, .int .i64 0, .int .i64 0, .int .i64 0, .int .i64 0, .int .i64 0, .int .i64 0, .int .i64 0, .int .i64 0, .bool false]),
  .op (.st 9 (.tmp 1) (.tmp 11)),
  .op (.st 11 (.tmp 2) (.tmp 12)),
  .kp [1, 2]]
def f52r2 : List I := [.op (.ld 14 (some 9) (.tmp 1)),
  .op (.bld 15 [.int .i64 0, .int .i64 0, .int .i64 0, .int .i64 0] [(0, 1, (.const (.int .i64 1)))]),
  .op (.bld 16 [.int .i64 0, .int .i64 0] [(0, 1, (.const (.int .i64 5)))]),
  .op (.bld 17 [.string ⟨#[]⟩, .bool false, .string ⟨#[]⟩] [(0, 1, (.const (.string ⟨#[107]⟩))), (2, 1, (.const (.string ⟨#[120]⟩)))]),
  .op (.bsl 18 70 1 [.string ⟨#[]⟩, .bool false, .string ⟨#[]⟩] [(0, 3, (.tmp 17))]),
  .op (.bld 19 [.int .i64 0, .int .i64 0, .int .i64 0, .int .i64 0, .int .i64 0, .int .i64 0, .int .i64 0, .int .i64 0, .int .i64 0, .int .i64 0, .int .i64 0, .bool false, .slice none 0 0, .slice none 0 0] [(0, 1, (.const (.int .i64 3))), (1, 1, (.const (.int .i64 1))), (4, 4, (.tmp 15)), (8, 2, (.tmp 16)), (13, 1, (.tmp 18))]),
  .op (.call (some 20) 56 [(.tmp 14), (.tmp 19)]),
  .op (.mov 13 (.tmp 20)),
  .op (.ext 21 (.tmp 13) 0),
  .op (.ext 22 (.tmp 13) 1),
  .kp [1, 2, 21, 22],
  .op (.new 3 116 [.int .i64 0, .int .i64 0, .int .i64 0, .int .i64 0, .int .i64 0, .int .i64 0, .slice none 0 0, .slice none 0 0, .slice none 0 0]),
  .op (.new 4 47 [.int .i64 0, .slice none 0 0, .int .i64 0, .int .i64 0, .int .i64 0, .int .i64 0, .int .i64 0, .int .i64 0, .int .i64 0, .int .i64 0, .bool false]),
  .op (.st 9 (.tmp 3) (.tmp 21)),
  .op (.st 11 (.tmp 4) (.tmp 22)),
  .kp [1, 2, 3, 4]]
def f52r3 : List I := [.op (.ld 24 (some 9) (.tmp 3)),
  .op (.bld 25 [.int .i64 0, .int .i64 0] [(0, 1, (.const (.int .i64 9)))]),
  .op (.bld 26 [.string ⟨#[]⟩, .string ⟨#[]⟩] [(0, 1, (.const (.string ⟨#[97]⟩))), (1, 1, (.const (.string ⟨#[122]⟩)))]),
  .op (.bsl 27 94 1 [.string ⟨#[]⟩, .string ⟨#[]⟩] [(0, 2, (.tmp 26))]),
  .op (.bld 28 [.int .i64 0, .int .i64 0, .int .i64 0, .int .i64 0, .int .i64 0, .int .i64 0, .int .i64 0, .int .i64 0, .int .i64 0, .int .i64 0, .int .i64 0, .bool false, .slice none 0 0, .slice none 0 0] [(0, 1, (.const (.int .i64 2))), (1, 1, (.const (.int .i64 1))), (8, 2, (.tmp 25)), (12, 1, (.tmp 27))]),
  .op (.call (some 29) 56 [(.tmp 24), (.tmp 28)]),
  .op (.mov 23 (.tmp 29)),
  .op (.ext 30 (.tmp 23) 0),
  .op (.ext 31 (.tmp 23) 1),
  .op (.new 5 116 [.int .i64 0, .int .i64 0, .int .i64 0, .int .i64 0, .int .i64 0, .int .i64 0, .slice none 0 0, .slice none 0 0, .slice none 0 0]),
  .kp [1, 2, 3, 4, 5, 30, 31],
  .op (.new 6 47 [.int .i64 0, .slice none 0 0, .int .i64 0, .int .i64 0, .int .i64 0, .int .i64 0, .int .i64 0, .int .i64 0, .int .i64 0, .int .i64 0, .bool false]),
  .op (.st 9 (.tmp 5) (.tmp 30)),
  .op (.st 11 (.tmp 6) (.tmp 31)),
  .kp [1, 2, 3, 4, 6]]
def f52r4d : List I := [.op (.mov 0 (.tmp 53)),
  .kp [0]]
def f52r4c : List I := .op (.mov 50 (.tmp 49)) ::
  .sc 50 true 2 ::
  .g 50 true (.ld 51 (some 9) (.tmp 3)) ::
  .g 50 true (.call (some 52) 60 [(.tmp 51)]) ::
  .op (.pick 53 (.tmp 50) (.tmp 52) (.const (.bool false))) ::
  .kp [53] ::
  f52r4d
def f52r4b : List I := .op (.mov 45 (.tmp 44)) ::
  .sc 45 true 3 ::
  .g 45 true (.fad 46 0 (.tmp 6)) ::
  .g 45 true (.ld 47 none (.tmp 46)) ::
  .g 45 true (.bin 48 .eql (.tmp 47) (.const (.int .i64 20))) ::
  .op (.pick 49 (.tmp 45) (.tmp 48) (.const (.bool false))) ::
  .kp [49, 3] ::
  f52r4c
def f52r4a : List I := .op (.mov 40 (.tmp 39)) ::
  .sc 40 true 3 ::
  .g 40 true (.fad 41 0 (.tmp 4)) ::
  .g 40 true (.ld 42 none (.tmp 41)) ::
  .g 40 true (.bin 43 .eql (.tmp 42) (.const (.int .i64 0))) ::
  .op (.pick 44 (.tmp 40) (.tmp 43) (.const (.bool false))) ::
  .kp [44, 3, 6] ::
  f52r4b
def f52r4 : List I := .op (.fad 32 0 (.tmp 2)) ::
  .op (.ld 33 none (.tmp 32)) ::
  .op (.bin 34 .eql (.tmp 33) (.const (.int .i64 0))) ::
  .op (.mov 35 (.tmp 34)) ::
  .sc 35 true 3 ::
  .g 35 true (.fad 36 1 (.tmp 1)) ::
  .g 35 true (.ld 37 none (.tmp 36)) ::
  .g 35 true (.bin 38 .eql (.tmp 37) (.const (.int .i64 2))) ::
  .op (.pick 39 (.tmp 35) (.tmp 38) (.const (.bool false))) ::
  .kp [39, 3, 4, 6] ::
  f52r4a
def f52c4 : C := (.seq (.reg f52r4) .ret)
def f52c3 : C := (.seq (.reg f52r3) f52c4)
def f52c2 : C := (.seq (.reg f52r2) f52c3)
def f52c1 : C := (.seq (.reg f52r1) f52c2)
def f52c0 : C := (.seq (.reg f52r0) f52c1)
theorem f52cmp : cmpF Try.prog Try.f52 [.l [.o 0, .kp []],
  .l [.o 0, .o 1, .o 2, .o 3, .o 4, .o 5, .o 6, .o 7, .o 8, .o 9, .kp [1, 2]],
  .l [.o 0, .o 1, .o 2, .o 3, .o 4, .o 5, .o 6, .o 7, .o 8, .o 9, .kp [1, 2, 21, 22], .o 10, .o 11, .o 12, .o 13, .kp [1, 2, 3, 4]],
  .l [.o 0, .o 1, .o 2, .o 3, .o 4, .o 5, .o 6, .o 7, .o 8, .o 9, .kp [1, 2, 3, 4, 5, 30, 31], .o 10, .o 11, .o 12, .kp [1, 2, 3, 4, 6]],
  .l [.o 0, .o 1, .o 2, .o 3, .sc 35 true 3, .o 4, .o 5, .o 6, .o 7, .kp [39, 3, 4, 6], .o 8, .sc 40 true 3, .o 9, .o 10, .o 11, .o 12, .kp [44, 3, 6], .o 13, .sc 45 true 3, .o 14, .o 15, .o 16, .o 17, .kp [49, 3], .o 18, .sc 50 true 2, .o 19, .o 20, .o 21, .kp [53], .o 22, .kp [0]]] = some (f52c0, [.tmp 0]) := by kernel_rfl
theorem f52ok {args : List Value} {h : Heap} {R : Value → Heap → Prop} (hn : args.length ≤ 54) (H : wC Try.prog f52c0 (endW [.tmp 0] R) (envOf 0 args) h) : CallsH Try.prog 52 args h R :=
  fn_ok2 Try.func52 f52cmp hn H
section
variable {Q : X → Env → Heap → Prop} {σ : Env} {h : Heap}
theorem f52c4_eq : wC Try.prog f52c4 Q σ h = (wL Try.prog none f52r4 0 (fun σ h => Q .ret σ h) σ h) := rfl
theorem f52c3_eq : wC Try.prog f52c3 Q σ h = (wL Try.prog none f52r3 0 (fun σ h => wC Try.prog f52c4 Q σ h) σ h) := rfl
theorem f52c2_eq : wC Try.prog f52c2 Q σ h = (wL Try.prog none f52r2 0 (fun σ h => wC Try.prog f52c3 Q σ h) σ h) := rfl
theorem f52c1_eq : wC Try.prog f52c1 Q σ h = (wL Try.prog none f52r1 0 (fun σ h => wC Try.prog f52c2 Q σ h) σ h) := rfl
theorem f52c0_eq : wC Try.prog f52c0 Q σ h = (wL Try.prog none f52r0 0 (fun σ h => wC Try.prog f52c1 Q σ h) σ h) := rfl
end
end Go.Proofs.Ytefghfgmkndikaa
namespace Go.AX
open Go
/-- A slice of commands. -/
def SlM (B : Nat → Prop) (h : Heap) (a : Option Addr) (cs : List Cmd) : Prop := ∃ vs : List CmV, All2 (CmR B h) vs cs ∧ SlF B h eCm a vs
theorem SlM.ext {B : Nat → Prop} {h h' : Heap} {a : Option Addr} {cs : List Cmd} (S : SlM B h a cs) (x : Ext h h') : SlM B h' a cs := let ⟨vs, h1, h2⟩ := S; ⟨vs, h1.imp fun _ _ r => r.ext x, h2.ext x⟩
theorem SlM.elem {B : Nat → Prop} {h : Heap} {a : Option Addr} {cs : List Cmd} (S : SlM B h a cs) {i : Nat} {c : Cmd} (hi : cs[i]? = some c) : ∃ b o v, a = some ⟨b, o, none⟩ ∧ B b ∧ Row h b (o + i * 14) (eCm v) ∧ CmR B h v c := by
  obtain ⟨vs, h1, h2⟩ := S
  obtain ⟨v, hv, hr⟩ := h1.get hi
  obtain ⟨b, o, e1, e2, e3⟩ := h2.elem eCm_len hv
  exact ⟨b, o, v, e1, e2, e3, hr⟩
theorem row_cm {h : Heap} {b o : Nat} {v : CmV} (r : Row h b o (eCm v)) : rd h b o 14 = some (eCm v) := r.rd0 14 (Nat.le_refl _)
end Go.AX
namespace Go.Proofs.Ytefghfgmkndikaa
open Go Go.AX
def emptyP : Prt := ⟨⟨0, 0, ⟨0, 0⟩, 0, 0⟩, [], [], []⟩
/-- A command whose epoch is the part's, or the next one. -/
def ownM (p : Prt) (c : Cmd) : Cmd := { c with s := { c.s with epoch := if c.s.kind = 1 then p.s.epoch + 1 else p.s.epoch } }
def stepP (p : Prt) (c : Cmd) : Prt := (applyP p (ownM p c)).1
def runP (l : List Cmd) : Prt := l.foldl stepP emptyP
/-- A command that is not too great. -/
def Lt100 (c : Cmd) : Prop := c.spans.length < 100 ∧ c.writes.length < 100
/-- A state that is not too great, its epoch in its bounds. -/
structure GdP (n : Nat) (p : Prt) : Prop where
  sz : SzP n p
  e0 : 0 ≤ p.s.epoch
  e1 : p.s.epoch ≤ mostEpoch
theorem GdP.mono {n m : Nat} {p : Prt} (g : GdP n p) (h : n ≤ m) : GdP m p := ⟨g.sz.mono h, g.e0, g.e1⟩
theorem lockG' {n : Nat} {cs : List Cell} (g : Gd n cs) (w : Wri) (l : Lck) : Gd (n + 1) (lockL cs w l) := ⟨lock_good w l g.good, lock_sz w l g.sz⟩
theorem settleG' {n : Nat} {cs : List Cell} (g : Gd n cs) (b : Try4) (y : Bool) : Gd (n + 1) (settleL cs b y) := ⟨settle_good b y g.good, settle_sz b y g.good g.sz⟩
theorem trimG' {n : Nat} {cs : List Cell} (g : Gd n cs) (t : Stamp) : Gd n (trimL cs t) := ⟨trim_good t g.good, trim_sz t g.sz⟩
theorem locksG {l : Lck} : ∀ (ws : List Wri) {n : Nat} {cs : List Cell}, Gd n cs → Gd (n + ws.length) (ws.foldl (fun cs w => lockL cs w l) cs)
  | [], _, _, g => g
  | w :: ws, n, cs, g => by
    have := locksG (l := l) ws (lockG' g w l)
    rw [List.foldl_cons, List.length_cons, show n + (ws.length + 1) = n + 1 + ws.length by omega]
    exact this
theorem readP_1 (p : Prt) (c : Cmd) : (readP p c).1 = p ∨ (readP p c).1 = { p with s := { p.s with floor := maxS p.s.floor c.s.at_ } } := by
  unfold readP
  split
  · exact .inl rfl
  · split
    · exact .inl rfl
    · dsimp only
      split
      · exact .inr rfl
      · exact .inl rfl
theorem prepP_1 (p : Prt) (c : Cmd) : (prepP p c).1 = p ∨ (prepP p c).1 = { p with cells := c.writes.foldl (fun cs w => lockL cs w (lkC c)) p.cells } := by
  unfold prepP
  split
  · exact .inl rfl
  · split
    · exact .inl rfl
    · split
      · exact .inl rfl
      · split
        · exact .inl rfl
        · split
          · exact .inl rfl
          · exact .inr rfl
theorem doesG {n : Nat} {p : Prt} {c : Cmd} (g : GdP n p) (hc : Lt100 c) : GdP (n + 100) (doesP p c).1 := by
  have g' := g.mono (Nat.le_add_right n 100)
  obtain ⟨⟨g1, g2, g3⟩, e0, e1⟩ := g
  obtain ⟨_, hw⟩ := hc
  unfold doesP
  split
  · rcases readP_1 p c with h | h <;> rw [h]
    · exact g'
    · exact ⟨⟨g1.mono (by omega), by show p.records.length ≤ _; omega, by show p.done.length ≤ _; omega⟩, e0, e1⟩
  split
  · rcases prepP_1 p c with h | h <;> rw [h]
    · exact g'
    · exact ⟨⟨(locksG c.writes g1).mono (by omega), by show p.records.length ≤ _; omega, by show p.done.length ≤ _; omega⟩, e0, e1⟩
  split
  · split
    · exact g'
    · exact ⟨⟨g1.mono (by omega), by show (p.records ++ [_]).length ≤ _; simp; omega, by show p.done.length ≤ _; omega⟩, e0, e1⟩
  split
  · refine ⟨⟨(settleG' g1 _ _).mono (by omega), by show p.records.length ≤ _; omega, ?_⟩, e0, e1⟩
    show List.length (match findO p.done c.s.by_ with | some _ => p.done | none => p.done ++ [outC c]) ≤ _
    split
    · omega
    · simp; omega
  split
  · exact ⟨⟨g1.mono (by omega), by show p.records.length ≤ _; omega, by show p.done.length ≤ _; omega⟩, e0, e1⟩
  split
  · exact ⟨⟨(trimG' g1 _).mono (by omega), by show p.records.length ≤ _; omega, by show p.done.length ≤ _; omega⟩, e0, e1⟩
  · exact g'
theorem leaseG {n : Nat} {p : Prt} {c : Cmd} (g : GdP n p) : GdP n (leaseP p c).1 := by
  unfold leaseP
  split
  · exact g
  · rename_i h
    have h0 := g.e0
    refine ⟨⟨g.sz.cells, g.sz.records, g.sz.done⟩, ?_, ?_⟩
    · show 0 ≤ c.s.epoch; omega
    · show c.s.epoch ≤ mostEpoch; omega
theorem applyG {n : Nat} {p : Prt} {c : Cmd} (g : GdP n p) (hc : Lt100 c) : GdP (n + 100) (applyP p c).1 := by
  have g' := g.mono (Nat.le_add_right n 100)
  have key : ∀ r : Prt × Rep, GdP (n + 100) r.1 → GdP (n + 100) (if r.2.s.err = 0 then r else (p, r.2)).1 := by
    intro r hr
    split
    · exact hr
    · exact g'
  unfold applyP
  refine key _ ?_
  split
  · exact (leaseG g).mono (by omega)
  · split
    · exact g'
    · exact doesG g hc
theorem ownM_lt {p : Prt} {c : Cmd} (h : Lt100 c) : Lt100 (ownM p c) := h
theorem runG : ∀ (l : List Cmd) {n : Nat} {p : Prt}, GdP n p → (∀ c ∈ l, Lt100 c) → GdP (n + 100 * l.length) (l.foldl stepP p)
  | [], _, _, g, _ => g
  | c :: l, n, p, g, h => by
    have := runG l (applyG g (ownM_lt (p := p) (h c (List.mem_cons_self ..)))) (fun x hx => h x (List.mem_cons_of_mem _ hx))
    rw [List.foldl_cons, List.length_cons, show n + 100 * (l.length + 1) = n + 100 + 100 * l.length by omega]
    exact this
theorem emptyG : GdP 0 emptyP := ⟨⟨⟨(gdRun []).good, (gdRun []).sz⟩, Nat.le_refl _, Nat.le_refl _⟩, by decide, by decide⟩
theorem own_okP (pv : PrV) (p : Prt) (cv : CmV) (c : Cmd) (other : Bool) (h : Heap) {B : Nat → Prop} (hp : pv.s = p.s) (C : CmR B h cv c) (e0 : 0 ≤ p.s.epoch) (e1 : p.s.epoch ≤ mostEpoch) {R : Value → Heap → Prop}
    (hR : ∀ cv' h', CmR B h' cv' (if other then c else ownM p c) → Ext h h' → R (.agg (eCm cv').toArray) h') : CallsH Try.prog 54 [.agg (ePr pv).toArray, .agg (eCm cv).toArray, .bool other] h R := by
  have hm : mostEpoch = 1099511627776 := rfl
  have hcs := C.s
  refine f54ok (by simp) ?_
  (try simp (config := { maxSteps := 1000000 }) (disch := first | exact Nat.le_of_ble_eq_true rfl | omega) only [AXS, AXB, J.dst, reduceIte, Nat.reduceEqDiff, Nat.reduceAdd, Nat.reduceMul, Nat.reduceLT, Nat.reduceLeDiff]); rw [f54c0_eq]; (try simp (config := { maxSteps := 1000000 }) (disch := first | exact Nat.le_of_ble_eq_true rfl | omega) only [AXS, AXB, J.dst, reduceIte, Nat.reduceEqDiff, Nat.reduceAdd, Nat.reduceMul, Nat.reduceLT, Nat.reduceLeDiff, f54r0])
  refine wL_boxN rfl ?_; rintro b3 h1 x1 s1 hb3 (B3 : Blk _ _ _ (ePr pv))
  refine wL_boxN rfl ?_; rintro b4 h2 x2 s2 hb4 (B4 : Blk _ _ _ (eCm cv))
  try simp (config := { maxSteps := 1000000 }) (disch := first | exact Nat.le_of_ble_eq_true rfl | omega) only [AXS, AXB, J.dst, reduceIte, Nat.reduceEqDiff, Nat.reduceAdd, Nat.reduceMul, Nat.reduceLT, Nat.reduceLeDiff]
  refine wL_newN ?_; rintro b6 h3 x3 s3 hb6 B6
  replace B3 := B3.ext x2
  replace B3 := B3.ext x3; replace B4 := B4.ext x3
  have x03 := (x1.trans x2).trans x3
  have fin : ∀ (h5 : Heap) (cv' : CmV) (τ : Env), Ext h h5 → Blk h5 b4 43 (eCm cv') → Blk h5 b6 43 (eCm ⟨⟨0, 0, 0, 0, ⟨0, 0, 0, 0⟩, ⟨0, 0⟩, 0, false⟩, none, 0, 0, none, 0, 0⟩) → CmR B h cv' (if other then c else ownM p c) → AX.look τ 4 = some (ptr b4 0) → AX.look τ 6 = some (ptr b6 0) →
      wC Try.prog f54c7 (endW [.cell 6 14] R) τ h5 := by
    intro h5 cv' τ x5 D4 D6 C5 t4 t6
    (try simp (config := { maxSteps := 1000000 }) (disch := first | exact Nat.le_of_ble_eq_true rfl | omega) only [AXS, AXB, J.dst, reduceIte, Nat.reduceEqDiff, Nat.reduceAdd, Nat.reduceMul, Nat.reduceLT, Nat.reduceLeDiff]); rw [f54c7_eq]; (try simp (config := { maxSteps := 1000000 }) (disch := first | exact Nat.le_of_ble_eq_true rfl | omega) only [AXS, AXB, J.dst, reduceIte, Nat.reduceEqDiff, Nat.reduceAdd, Nat.reduceMul, Nat.reduceLT, Nat.reduceLeDiff, f54r5, t4, t6, D4.rd, eCm])
    refine wL_stN (show AX.look _ _ = _ from t6) rfl rfl D6 (by decide) (eCm_one cv') ?_
    rintro h6 u6 (B7 : Blk _ _ _ (eCm cv'))
    simp (config := { maxSteps := 1000000 }) (disch := first | exact Nat.le_of_ble_eq_true rfl | omega) only [AXS, AXB, J.dst, reduceIte, Nat.reduceEqDiff, Nat.reduceAdd, Nat.reduceMul, Nat.reduceLT, Nat.reduceLeDiff, B7.rd, eCm, t6]
    exact hR cv' h6 (C5.ext (u6.ext x5 (by omega))) (u6.ext x5 (by omega))
  (try simp (config := { maxSteps := 1000000 }) (disch := first | exact Nat.le_of_ble_eq_true rfl | omega) only [AXS, AXB, J.dst, reduceIte, Nat.reduceEqDiff, Nat.reduceAdd, Nat.reduceMul, Nat.reduceLT, Nat.reduceLeDiff]); rw [f54c1_eq]; (try simp (config := { maxSteps := 1000000 }) (disch := first | exact Nat.le_of_ble_eq_true rfl | omega) only [AXS, AXB, J.dst, reduceIte, Nat.reduceEqDiff, Nat.reduceAdd, Nat.reduceMul, Nat.reduceLT, Nat.reduceLeDiff, f54r1]); rw [f54c2_eq]; (try simp (config := { maxSteps := 1000000 }) (disch := first | exact Nat.le_of_ble_eq_true rfl | omega) only [AXS, AXB, J.dst, reduceIte, Nat.reduceEqDiff, Nat.reduceAdd, Nat.reduceMul, Nat.reduceLT, Nat.reduceLeDiff])
  refine ⟨fun hh => ?_, fun hh => ?_⟩
  · have ho : other = false := by simpa using hh
    subst ho
    (try simp (config := { maxSteps := 1000000 }) (disch := first | exact Nat.le_of_ble_eq_true rfl | omega) only [AXS, AXB, J.dst, reduceIte, Nat.reduceEqDiff, Nat.reduceAdd, Nat.reduceMul, Nat.reduceLT, Nat.reduceLeDiff]); rw [f54c3_eq]; (try simp (config := { maxSteps := 1000000 }) (disch := first | exact Nat.le_of_ble_eq_true rfl | omega) only [AXS, AXB, J.dst, reduceIte, Nat.reduceEqDiff, Nat.reduceAdd, Nat.reduceMul, Nat.reduceLT, Nat.reduceLeDiff, f54r2, B3.cel, ePr, hp])
    refine wL_stN rfl rfl rfl B4 (by rw [eCm_len]; exact Nat.le_of_ble_eq_true rfl) int_one ?_
    rintro h4 u4 (D4 : Blk _ _ _ (eCm { cv with s := { cv.s with epoch := p.s.epoch } }))
    have C6 := u4.blk B6 (by omega)
    have y4 := u4.size
    (try simp (config := { maxSteps := 1000000 }) (disch := first | exact Nat.le_of_ble_eq_true rfl | omega) only [AXS, AXB, J.dst, reduceIte, Nat.reduceEqDiff, Nat.reduceAdd, Nat.reduceMul, Nat.reduceLT, Nat.reduceLeDiff]); rw [f54c4_eq]; (try simp (config := { maxSteps := 1000000 }) (disch := first | exact Nat.le_of_ble_eq_true rfl | omega) only [AXS, AXB, J.dst, reduceIte, Nat.reduceEqDiff, Nat.reduceAdd, Nat.reduceMul, Nat.reduceLT, Nat.reduceLeDiff, f54r3, D4.cel, eCm, hcs]); rw [f54c5_eq]; (try simp (config := { maxSteps := 1000000 }) (disch := first | exact Nat.le_of_ble_eq_true rfl | omega) only [AXS, AXB, J.dst, reduceIte, Nat.reduceEqDiff, Nat.reduceAdd, Nat.reduceMul, Nat.reduceLT, Nat.reduceLeDiff, D4.cel, eCm, hcs])
    refine ⟨fun hk => ?_, fun hk => ?_⟩
    · have hk' : c.s.kind = 1 := by simpa using hk
      (try simp (config := { maxSteps := 1000000 }) (disch := first | exact Nat.le_of_ble_eq_true rfl | omega) only [AXS, AXB, J.dst, reduceIte, Nat.reduceEqDiff, Nat.reduceAdd, Nat.reduceMul, Nat.reduceLT, Nat.reduceLeDiff]); rw [f54c6_eq]; (try simp (config := { maxSteps := 1000000 }) (disch := first | exact Nat.le_of_ble_eq_true rfl | omega) only [AXS, AXB, J.dst, reduceIte, Nat.reduceEqDiff, Nat.reduceAdd, Nat.reduceMul, Nat.reduceLT, Nat.reduceLeDiff, f54r4, D4.cel, eCm])
      rw [i64_wrap (by omega) (by omega)]
      refine wL_stN rfl rfl rfl D4 (by rw [eCm_len]; exact Nat.le_of_ble_eq_true rfl) int_one ?_
      rintro h5 u5 (D5 : Blk _ _ _ (eCm { cv with s := { cv.s with epoch := p.s.epoch + 1 } }))
      try simp (config := { maxSteps := 1000000 }) (disch := first | exact Nat.le_of_ble_eq_true rfl | omega) only [AXS, AXB, J.dst, reduceIte, Nat.reduceEqDiff, Nat.reduceAdd, Nat.reduceMul, Nat.reduceLT, Nat.reduceLeDiff]
      refine fin h5 _ _ (u5.ext (u4.ext x03 (by omega)) (by omega)) D5 (u5.blk C6 (by omega)) ⟨?_, C.sn, C.wn, C.spans, C.writes⟩ rfl rfl
      show _ = { c.s with epoch := if c.s.kind = 1 then p.s.epoch + 1 else p.s.epoch }
      rw [if_pos hk', ← hcs]
    · have hk' : ¬ c.s.kind = 1 := by simpa using hk
      try simp (config := { maxSteps := 1000000 }) (disch := first | exact Nat.le_of_ble_eq_true rfl | omega) only [AXS, AXB, J.dst, reduceIte, Nat.reduceEqDiff, Nat.reduceAdd, Nat.reduceMul, Nat.reduceLT, Nat.reduceLeDiff]
      refine fin h4 _ _ (u4.ext x03 (by omega)) D4 C6 ⟨?_, C.sn, C.wn, C.spans, C.writes⟩ rfl rfl
      show _ = { c.s with epoch := if c.s.kind = 1 then p.s.epoch + 1 else p.s.epoch }
      rw [if_neg hk', ← hcs]
  · have ho : other = true := by simpa using hh
    subst ho
    exact fin h3 cv _ x03 B4 B6 C rfl rfl
theorem lightM_ok (cv : CmV) (c : Cmd) (h : Heap) {B : Nat → Prop} (C : CmR B h cv c) (ws : c.spans.length ≤ maxLen) (ww : c.writes.length ≤ maxLen) {R : Value → Heap → Prop}
    (hR : ∀ (b : Bool) h', (b = true → Lt100 c) → Ext h h' → R (.bool b) h') : CallsH Try.prog 94 [.agg (eCm cv).toArray] h R := by
  unfold maxLen at ws ww
  have hsn := C.sn
  have hwn := C.wn
  refine f94ok (by simp) ?_
  (try simp (config := { maxSteps := 1000000 }) (disch := first | exact Nat.le_of_ble_eq_true rfl | omega) only [AXS, AXB, J.dst, reduceIte, Nat.reduceEqDiff, Nat.reduceAdd, Nat.reduceMul, Nat.reduceLT, Nat.reduceLeDiff]); rw [f94c0_eq]; (try simp (config := { maxSteps := 1000000 }) (disch := first | exact Nat.le_of_ble_eq_true rfl | omega) only [AXS, AXB, J.dst, reduceIte, Nat.reduceEqDiff, Nat.reduceAdd, Nat.reduceMul, Nat.reduceLT, Nat.reduceLeDiff, f94r0])
  refine wL_boxN rfl ?_; rintro b1 h1 x1 s1 hb1 (B1 : Blk _ _ _ (eCm cv))
  (try simp (config := { maxSteps := 1000000 }) (disch := first | exact Nat.le_of_ble_eq_true rfl | omega) only [AXS, AXB, J.dst, reduceIte, Nat.reduceEqDiff, Nat.reduceAdd, Nat.reduceMul, Nat.reduceLT, Nat.reduceLeDiff]); rw [f94c1_eq]; (try simp (config := { maxSteps := 1000000 }) (disch := first | exact Nat.le_of_ble_eq_true rfl | omega) only [AXS, AXB, J.dst, reduceIte, Nat.reduceEqDiff, Nat.reduceAdd, Nat.reduceMul, Nat.reduceLT, Nat.reduceLeDiff, f94r1]); rw [f94c2_eq]; (try simp (config := { maxSteps := 1000000 }) (disch := first | exact Nat.le_of_ble_eq_true rfl | omega) only [AXS, AXB, J.dst, reduceIte, Nat.reduceEqDiff, Nat.reduceAdd, Nat.reduceMul, Nat.reduceLT, Nat.reduceLeDiff, f94r2])
  rw [f94c3_eq]
  refine loop_in (fun m σ h' => h' = h1 ∧ ∃ (k : Nat) (n : Int), k + m = c.spans.length ∧ 0 ≤ n ∧ n ≤ 40000 ∧ σ = [(1, ptr b1 0), (3, vi n), (4, vi k)]) c.spans.length ⟨rfl, 0, 0, by omega, by omega, by omega, rfl⟩ ?_
  rintro m σ h' ⟨rfl, k, n, hk, hn0, hn1, rfl⟩ Q' hnx hex hrt _
  rw [f94c4_eq]
  simp (config := { maxSteps := 1000000 }) (disch := first | exact Nat.le_of_ble_eq_true rfl | omega) only [AXJ, AXS, AXB, J.dst, reduceIte, Nat.reduceEqDiff, Nat.reduceAdd, Nat.reduceMul, Nat.reduceLT, Nat.reduceLeDiff, f94r3, B1.cel, eCm, hsn]
  try simp (config := { maxSteps := 1000000 }) (disch := first | exact Nat.le_of_ble_eq_true rfl | omega) only [AXS, AXB, J.dst, reduceIte, Nat.reduceEqDiff, Nat.reduceAdd, Nat.reduceMul, Nat.reduceLT, Nat.reduceLeDiff]
  (try simp (config := { maxSteps := 1000000 }) (disch := first | exact Nat.le_of_ble_eq_true rfl | omega) only [AXS, AXB, J.dst, reduceIte, Nat.reduceEqDiff, Nat.reduceAdd, Nat.reduceMul, Nat.reduceLT, Nat.reduceLeDiff]); rw [f94c5_eq]; (try simp (config := { maxSteps := 1000000 }) (disch := first | exact Nat.le_of_ble_eq_true rfl | omega) only [AXS, AXB, J.dst, reduceIte, Nat.reduceEqDiff, Nat.reduceAdd, Nat.reduceMul, Nat.reduceLT, Nat.reduceLeDiff])
  refine ⟨fun hh => ?_, fun hh => ?_⟩
  · have hh' : (k : Int) < c.spans.length ∧ n < 16384 := by simpa using hh
    obtain ⟨s, hx⟩ := get_ex (show k < c.spans.length by omega)
    obtain ⟨b', o, hsa, hBb, hrow⟩ := (C.spans.ext x1).elem eSpn_len hx
    have hrow' : rd h' b' (o + k * 2) 2 = some (eSpn s) ∧ cel h' b' (o + k * 2 + 0) = some (.string s.lo) ∧ cel h' b' (o + k * 2 + 1) = some (.string s.hi) := ⟨hrow.rd0 2 (Nat.le_refl _), hrow 0 (by rw [eSpn_len]; omega), hrow 1 (by rw [eSpn_len]; omega)⟩
    try simp (config := { maxSteps := 1000000 }) (disch := first | exact Nat.le_of_ble_eq_true rfl | omega) only [AXS, AXB, J.dst, reduceIte, Nat.reduceEqDiff, Nat.reduceAdd, Nat.reduceMul, Nat.reduceLT, Nat.reduceLeDiff]
    rw [f94c6_eq, f94c7_eq]
    simp (config := { maxSteps := 1000000 }) (disch := first | exact Nat.le_of_ble_eq_true rfl | omega) only [AXJ, AXS, AXB, J.dst, reduceIte, Nat.reduceEqDiff, Nat.reduceAdd, Nat.reduceMul, Nat.reduceLT, Nat.reduceLeDiff, f94r4, B1.cel, eCm, hsn, hsa, hrow']
    refine ⟨by omega, by omega, fun _ => by omega, fun _ => by omega, ?_⟩
    (try simp (config := { maxSteps := 1000000 }) (disch := first | exact Nat.le_of_ble_eq_true rfl | omega) only [AXS, AXB, J.dst, reduceIte, Nat.reduceEqDiff, Nat.reduceAdd, Nat.reduceMul, Nat.reduceLT, Nat.reduceLeDiff]); rw [f94c8_eq]; (try simp (config := { maxSteps := 1000000 }) (disch := first | exact Nat.le_of_ble_eq_true rfl | omega) only [AXS, AXB, J.dst, reduceIte, Nat.reduceEqDiff, Nat.reduceAdd, Nat.reduceMul, Nat.reduceLT, Nat.reduceLeDiff])
    refine ⟨fun h8 => ?_, fun h8 => ?_⟩
    · (try simp (config := { maxSteps := 1000000 }) (disch := first | exact Nat.le_of_ble_eq_true rfl | omega) only [AXS, AXB, J.dst, reduceIte, Nat.reduceEqDiff, Nat.reduceAdd, Nat.reduceMul, Nat.reduceLT, Nat.reduceLeDiff]); rw [f94c9_eq]; (try simp (config := { maxSteps := 1000000 }) (disch := first | exact Nat.le_of_ble_eq_true rfl | omega) only [AXS, AXB, J.dst, reduceIte, Nat.reduceEqDiff, Nat.reduceAdd, Nat.reduceMul, Nat.reduceLT, Nat.reduceLeDiff, f94r5])
      refine hrt _ _ ?_
      try simp (config := { maxSteps := 1000000 }) (disch := first | exact Nat.le_of_ble_eq_true rfl | omega) only [AXS, AXB, J.dst, reduceIte, Nat.reduceEqDiff, Nat.reduceAdd, Nat.reduceMul, Nat.reduceLT, Nat.reduceLeDiff]
      exact hR false _ (fun h => by cases h) x1
    · have h8' : (s.lo.size : Int) ≤ 8192 ∧ (s.hi.size : Int) ≤ 8192 := by simpa using h8
      try simp (config := { maxSteps := 1000000 }) (disch := first | exact Nat.le_of_ble_eq_true rfl | omega) only [AXS, AXB, J.dst, reduceIte, Nat.reduceEqDiff, Nat.reduceAdd, Nat.reduceMul, Nat.reduceLT, Nat.reduceLeDiff]
      rw [f94c10_eq]
      refine drw_lt ?_
      simp (config := { maxSteps := 1000000 }) (disch := first | exact Nat.le_of_ble_eq_true rfl | omega) only [AXS, AXB, J.dst, reduceIte, Nat.reduceEqDiff, Nat.reduceAdd, Nat.reduceMul, Nat.reduceLT, Nat.reduceLeDiff, f94r6, B1.cel, eCm, hsn, hsa, hrow']
      have hb' := hrow.lt (by rw [eSpn_len]; omega)
      have hb1' := B1.lt
      refine ⟨hb1', by omega, by omega, hb', hb1', by omega, by omega, hb', ?_⟩
      rw [i64_wrap (show (-9223372036854775808 : Int) ≤ n + s.lo.size by omega) (by omega), i64_wrap (by omega) (by omega)]
      (try simp (config := { maxSteps := 1000000 }) (disch := first | exact Nat.le_of_ble_eq_true rfl | omega) only [AXS, AXB, J.dst, reduceIte, Nat.reduceEqDiff, Nat.reduceAdd, Nat.reduceMul, Nat.reduceLT, Nat.reduceLeDiff]); rw [f94c11_eq]; (try simp (config := { maxSteps := 1000000 }) (disch := first | exact Nat.le_of_ble_eq_true rfl | omega) only [AXS, AXB, J.dst, reduceIte, Nat.reduceEqDiff, Nat.reduceAdd, Nat.reduceMul, Nat.reduceLT, Nat.reduceLeDiff, f94r7])
      rw [i64_wrap (by omega) (by omega)]
      exact hnx (m - 1) _ _ (by omega) ⟨rfl, k + 1, n + s.lo.size + s.hi.size, by omega, by omega, by omega, rfl⟩
  · refine hex _ _ ?_
    clear hh hk
    (try simp (config := { maxSteps := 1000000 }) (disch := first | exact Nat.le_of_ble_eq_true rfl | omega) only [AXS, AXB, J.dst, reduceIte, Nat.reduceEqDiff, Nat.reduceAdd, Nat.reduceMul, Nat.reduceLT, Nat.reduceLeDiff]); rw [f94c12_eq]; (try simp (config := { maxSteps := 1000000 }) (disch := first | exact Nat.le_of_ble_eq_true rfl | omega) only [AXS, AXB, J.dst, reduceIte, Nat.reduceEqDiff, Nat.reduceAdd, Nat.reduceMul, Nat.reduceLT, Nat.reduceLeDiff, f94r8])
    rw [f94c13_eq]
    refine loop_in (fun m σ h2 => h2 = h' ∧ ∃ (k : Nat) (n : Int), k + m = c.writes.length ∧ 0 ≤ n ∧ n ≤ 40000 ∧ σ = [(1, ptr b1 0), (3, vi n), (5, vi k)]) c.writes.length ⟨rfl, 0, n, by omega, by omega, by omega, rfl⟩ ?_
    clear hn0 hn1 n k
    rintro m σ h2 ⟨rfl, k, n, hk, hn0, hn1, rfl⟩ Q2 hnx2 hex2 hrt2 _
    rw [f94c14_eq]
    simp (config := { maxSteps := 1000000 }) (disch := first | exact Nat.le_of_ble_eq_true rfl | omega) only [AXJ, AXS, AXB, J.dst, reduceIte, Nat.reduceEqDiff, Nat.reduceAdd, Nat.reduceMul, Nat.reduceLT, Nat.reduceLeDiff, f94r9, B1.cel, eCm, hwn]
    try simp (config := { maxSteps := 1000000 }) (disch := first | exact Nat.le_of_ble_eq_true rfl | omega) only [AXS, AXB, J.dst, reduceIte, Nat.reduceEqDiff, Nat.reduceAdd, Nat.reduceMul, Nat.reduceLT, Nat.reduceLeDiff]
    (try simp (config := { maxSteps := 1000000 }) (disch := first | exact Nat.le_of_ble_eq_true rfl | omega) only [AXS, AXB, J.dst, reduceIte, Nat.reduceEqDiff, Nat.reduceAdd, Nat.reduceMul, Nat.reduceLT, Nat.reduceLeDiff]); rw [f94c15_eq]; (try simp (config := { maxSteps := 1000000 }) (disch := first | exact Nat.le_of_ble_eq_true rfl | omega) only [AXS, AXB, J.dst, reduceIte, Nat.reduceEqDiff, Nat.reduceAdd, Nat.reduceMul, Nat.reduceLT, Nat.reduceLeDiff])
    refine ⟨fun hh => ?_, fun hh => ?_⟩
    · have hh' : (k : Int) < c.writes.length ∧ n < 16384 := by simpa using hh
      obtain ⟨w, hx⟩ := get_ex (show k < c.writes.length by omega)
      obtain ⟨b', o, hsa, hBb, hrow⟩ := (C.writes.ext x1).elem eWri_len hx
      have hrow' := row_wri hrow
      try simp (config := { maxSteps := 1000000 }) (disch := first | exact Nat.le_of_ble_eq_true rfl | omega) only [AXS, AXB, J.dst, reduceIte, Nat.reduceEqDiff, Nat.reduceAdd, Nat.reduceMul, Nat.reduceLT, Nat.reduceLeDiff]
      rw [f94c16_eq, f94c17_eq]
      simp (config := { maxSteps := 1000000 }) (disch := first | exact Nat.le_of_ble_eq_true rfl | omega) only [AXJ, AXS, AXB, J.dst, reduceIte, Nat.reduceEqDiff, Nat.reduceAdd, Nat.reduceMul, Nat.reduceLT, Nat.reduceLeDiff, f94r10, B1.cel, eCm, hwn, hsa, hrow']
      refine ⟨by omega, by omega, fun _ => by omega, fun _ => by omega, ?_⟩
      (try simp (config := { maxSteps := 1000000 }) (disch := first | exact Nat.le_of_ble_eq_true rfl | omega) only [AXS, AXB, J.dst, reduceIte, Nat.reduceEqDiff, Nat.reduceAdd, Nat.reduceMul, Nat.reduceLT, Nat.reduceLeDiff]); rw [f94c18_eq]; (try simp (config := { maxSteps := 1000000 }) (disch := first | exact Nat.le_of_ble_eq_true rfl | omega) only [AXS, AXB, J.dst, reduceIte, Nat.reduceEqDiff, Nat.reduceAdd, Nat.reduceMul, Nat.reduceLT, Nat.reduceLeDiff])
      refine ⟨fun h8 => ?_, fun h8 => ?_⟩
      · (try simp (config := { maxSteps := 1000000 }) (disch := first | exact Nat.le_of_ble_eq_true rfl | omega) only [AXS, AXB, J.dst, reduceIte, Nat.reduceEqDiff, Nat.reduceAdd, Nat.reduceMul, Nat.reduceLT, Nat.reduceLeDiff]); rw [f94c19_eq]; (try simp (config := { maxSteps := 1000000 }) (disch := first | exact Nat.le_of_ble_eq_true rfl | omega) only [AXS, AXB, J.dst, reduceIte, Nat.reduceEqDiff, Nat.reduceAdd, Nat.reduceMul, Nat.reduceLT, Nat.reduceLeDiff, f94r11])
        refine hrt2 _ _ ?_
        try simp (config := { maxSteps := 1000000 }) (disch := first | exact Nat.le_of_ble_eq_true rfl | omega) only [AXS, AXB, J.dst, reduceIte, Nat.reduceEqDiff, Nat.reduceAdd, Nat.reduceMul, Nat.reduceLT, Nat.reduceLeDiff]
        exact hR false _ (fun h => by cases h) x1
      · have h8' : (w.key.size : Int) ≤ 8192 ∧ (w.data.size : Int) ≤ 8192 := by simpa using h8
        try simp (config := { maxSteps := 1000000 }) (disch := first | exact Nat.le_of_ble_eq_true rfl | omega) only [AXS, AXB, J.dst, reduceIte, Nat.reduceEqDiff, Nat.reduceAdd, Nat.reduceMul, Nat.reduceLT, Nat.reduceLeDiff]
        rw [f94c20_eq]
        refine drw_lt ?_
        simp (config := { maxSteps := 1000000 }) (disch := first | exact Nat.le_of_ble_eq_true rfl | omega) only [AXS, AXB, J.dst, reduceIte, Nat.reduceEqDiff, Nat.reduceAdd, Nat.reduceMul, Nat.reduceLT, Nat.reduceLeDiff, f94r12, B1.cel, eCm, hwn, hsa, hrow']
        have hb' := hrow.lt (by rw [eWri_len]; omega)
        have hb1' := B1.lt
        refine ⟨hb1', by omega, by omega, hb', hb1', by omega, by omega, hb', ?_⟩
        rw [i64_wrap (show (-9223372036854775808 : Int) ≤ n + w.key.size by omega) (by omega), i64_wrap (by omega) (by omega)]
        (try simp (config := { maxSteps := 1000000 }) (disch := first | exact Nat.le_of_ble_eq_true rfl | omega) only [AXS, AXB, J.dst, reduceIte, Nat.reduceEqDiff, Nat.reduceAdd, Nat.reduceMul, Nat.reduceLT, Nat.reduceLeDiff]); rw [f94c21_eq]; (try simp (config := { maxSteps := 1000000 }) (disch := first | exact Nat.le_of_ble_eq_true rfl | omega) only [AXS, AXB, J.dst, reduceIte, Nat.reduceEqDiff, Nat.reduceAdd, Nat.reduceMul, Nat.reduceLT, Nat.reduceLeDiff, f94r13])
        rw [i64_wrap (by omega) (by omega)]
        exact hnx2 (m - 1) _ _ (by omega) ⟨rfl, k + 1, n + w.key.size + w.data.size, by omega, by omega, by omega, rfl⟩
    · refine hex2 _ _ ?_
      try simp (config := { maxSteps := 1000000 }) (disch := first | exact Nat.le_of_ble_eq_true rfl | omega) only [AXS, AXB, J.dst, reduceIte, Nat.reduceEqDiff, Nat.reduceAdd, Nat.reduceMul, Nat.reduceLT, Nat.reduceLeDiff]
      rw [f94c22_eq]
      simp (config := { maxSteps := 1000000 }) (disch := first | exact Nat.le_of_ble_eq_true rfl | omega) only [AXJ, AXS, AXB, J.dst, reduceIte, Nat.reduceEqDiff, Nat.reduceAdd, Nat.reduceMul, Nat.reduceLT, Nat.reduceLeDiff, f94r14, B1.cel, eCm, hsn]
      simp (config := { maxSteps := 1000000 }) (disch := first | exact Nat.le_of_ble_eq_true rfl | omega) only [AXJ, AXS, AXB, J.dst, reduceIte, Nat.reduceEqDiff, Nat.reduceAdd, Nat.reduceMul, Nat.reduceLT, Nat.reduceLeDiff, f94r14a, f94r14b, B1.cel, eCm, hwn]
      generalize hcc : (decide (n < 8192) && decide ((c.spans.length : Int) < 100)) = cc
      cases cc with
      | false => rw [br_false]; exact hR false _ (fun h => by cases h) x1
      | true =>
        rw [br_true]
        refine hR _ _ (fun hw => ?_) x1
        simp only [Bool.and_eq_true, decide_eq_true_eq] at hcc hw
        exact ⟨by omega, by omega⟩
/-- Are commands not too many, too great? -/
def LightM (l : List Cmd) (most : Int) : Prop := (l.length : Int) ≤ most ∧ ∀ c ∈ l, Lt100 c
def LenM (l : List Cmd) : Prop := l.length ≤ maxLen ∧ ∀ c ∈ l, c.spans.length ≤ maxLen ∧ c.writes.length ≤ maxLen
theorem lightP_ok (l : List Cmd) (most : Int) (h : Heap) {B : Nat → Prop} {a : Option Addr} {n : Nat} (S : SlM B h a l) (F : LenM l) {R : Value → Heap → Prop}
    (hR : ∀ (b : Bool) h', (b = true → LightM l most) → Ext h h' → R (.bool b) h') : CallsH Try.prog 53 [.slice a l.length n, vi most] h R := by
  have F1 := F.1
  unfold maxLen at F1
  refine f53ok (by simp) ?_
  (try simp (config := { maxSteps := 1000000 }) (disch := first | exact Nat.le_of_ble_eq_true rfl | omega) only [AXS, AXB, J.dst, reduceIte, Nat.reduceEqDiff, Nat.reduceAdd, Nat.reduceMul, Nat.reduceLT, Nat.reduceLeDiff]); rw [f53c0_eq]; (try simp (config := { maxSteps := 1000000 }) (disch := first | exact Nat.le_of_ble_eq_true rfl | omega) only [AXS, AXB, J.dst, reduceIte, Nat.reduceEqDiff, Nat.reduceAdd, Nat.reduceMul, Nat.reduceLT, Nat.reduceLeDiff, f53r0]); rw [f53c1_eq]; (try simp (config := { maxSteps := 1000000 }) (disch := first | exact Nat.le_of_ble_eq_true rfl | omega) only [AXS, AXB, J.dst, reduceIte, Nat.reduceEqDiff, Nat.reduceAdd, Nat.reduceMul, Nat.reduceLT, Nat.reduceLeDiff, f53r1]); rw [f53c2_eq]; (try simp (config := { maxSteps := 1000000 }) (disch := first | exact Nat.le_of_ble_eq_true rfl | omega) only [AXS, AXB, J.dst, reduceIte, Nat.reduceEqDiff, Nat.reduceAdd, Nat.reduceMul, Nat.reduceLT, Nat.reduceLeDiff])
  refine ⟨fun hh => ?_, fun hh => ?_⟩
  · (try simp (config := { maxSteps := 1000000 }) (disch := first | exact Nat.le_of_ble_eq_true rfl | omega) only [AXS, AXB, J.dst, reduceIte, Nat.reduceEqDiff, Nat.reduceAdd, Nat.reduceMul, Nat.reduceLT, Nat.reduceLeDiff]); rw [f53c3_eq]; (try simp (config := { maxSteps := 1000000 }) (disch := first | exact Nat.le_of_ble_eq_true rfl | omega) only [AXS, AXB, J.dst, reduceIte, Nat.reduceEqDiff, Nat.reduceAdd, Nat.reduceMul, Nat.reduceLT, Nat.reduceLeDiff, f53r2])
    exact hR false h (fun h => by cases h) (Ext.refl h)
  · have hm : (l.length : Int) ≤ most := by have := of_decide_eq_false hh; omega
    clear hh
    (try simp (config := { maxSteps := 1000000 }) (disch := first | exact Nat.le_of_ble_eq_true rfl | omega) only [AXS, AXB, J.dst, reduceIte, Nat.reduceEqDiff, Nat.reduceAdd, Nat.reduceMul, Nat.reduceLT, Nat.reduceLeDiff]); rw [f53c4_eq]; (try simp (config := { maxSteps := 1000000 }) (disch := first | exact Nat.le_of_ble_eq_true rfl | omega) only [AXS, AXB, J.dst, reduceIte, Nat.reduceEqDiff, Nat.reduceAdd, Nat.reduceMul, Nat.reduceLT, Nat.reduceLeDiff, f53r3])
    rw [f53c5_eq]
    refine loop_in (fun m σ h' => Ext h h' ∧ ∃ k : Nat, k + m = l.length ∧ (∀ j c, j < k → l[j]? = some c → Lt100 c) ∧ σ = [(0, .slice a l.length n), (5, vi k)]) l.length ⟨Ext.refl h, 0, by omega, by intros; omega, rfl⟩ ?_
    rintro m σ h1 ⟨x1, k, hk, hj, rfl⟩ Q' hnx hex hrt _
    (try simp (config := { maxSteps := 1000000 }) (disch := first | exact Nat.le_of_ble_eq_true rfl | omega) only [AXS, AXB, J.dst, reduceIte, Nat.reduceEqDiff, Nat.reduceAdd, Nat.reduceMul, Nat.reduceLT, Nat.reduceLeDiff]); rw [f53c6_eq]; (try simp (config := { maxSteps := 1000000 }) (disch := first | exact Nat.le_of_ble_eq_true rfl | omega) only [AXS, AXB, J.dst, reduceIte, Nat.reduceEqDiff, Nat.reduceAdd, Nat.reduceMul, Nat.reduceLT, Nat.reduceLeDiff, f53r4]); rw [f53c7_eq]; (try simp (config := { maxSteps := 1000000 }) (disch := first | exact Nat.le_of_ble_eq_true rfl | omega) only [AXS, AXB, J.dst, reduceIte, Nat.reduceEqDiff, Nat.reduceAdd, Nat.reduceMul, Nat.reduceLT, Nat.reduceLeDiff])
    refine ⟨fun hh => ?_, fun hh => ?_⟩
    · have hkl : k < l.length := by have := of_decide_eq_true hh; omega
      obtain ⟨c, hx⟩ := get_ex hkl
      obtain ⟨b', o, v, rfl, _, hrow, hcr⟩ := (S.ext x1).elem hx
      try simp (config := { maxSteps := 1000000 }) (disch := first | exact Nat.le_of_ble_eq_true rfl | omega) only [AXS, AXB, J.dst, reduceIte, Nat.reduceEqDiff, Nat.reduceAdd, Nat.reduceMul, Nat.reduceLT, Nat.reduceLeDiff]
      rw [f53c8_eq]
      (try simp (config := { maxSteps := 1000000 }) (disch := first | exact Nat.le_of_ble_eq_true rfl | omega) only [AXS, AXB, J.dst, reduceIte, Nat.reduceEqDiff, Nat.reduceAdd, Nat.reduceMul, Nat.reduceLT, Nat.reduceLeDiff]); rw [f53c9_eq]; (try simp (config := { maxSteps := 1000000 }) (disch := first | exact Nat.le_of_ble_eq_true rfl | omega) only [AXS, AXB, J.dst, reduceIte, Nat.reduceEqDiff, Nat.reduceAdd, Nat.reduceMul, Nat.reduceLT, Nat.reduceLeDiff, f53r5, row_cm hrow])
      refine ⟨by omega, by omega, ?_⟩
      have hF := F.2 c (List.mem_of_getElem? hx)
      refine lightM_ok v c _ hcr hF.1 hF.2 ?_
      intro b h2 hb x2
      refine ⟨trivial, ?_⟩
      (try simp (config := { maxSteps := 1000000 }) (disch := first | exact Nat.le_of_ble_eq_true rfl | omega) only [AXS, AXB, J.dst, reduceIte, Nat.reduceEqDiff, Nat.reduceAdd, Nat.reduceMul, Nat.reduceLT, Nat.reduceLeDiff]); rw [f53c10_eq]; (try simp (config := { maxSteps := 1000000 }) (disch := first | exact Nat.le_of_ble_eq_true rfl | omega) only [AXS, AXB, J.dst, reduceIte, Nat.reduceEqDiff, Nat.reduceAdd, Nat.reduceMul, Nat.reduceLT, Nat.reduceLeDiff])
      refine ⟨fun h4 => ?_, fun h4 => ?_⟩
      · (try simp (config := { maxSteps := 1000000 }) (disch := first | exact Nat.le_of_ble_eq_true rfl | omega) only [AXS, AXB, J.dst, reduceIte, Nat.reduceEqDiff, Nat.reduceAdd, Nat.reduceMul, Nat.reduceLT, Nat.reduceLeDiff]); rw [f53c11_eq]; (try simp (config := { maxSteps := 1000000 }) (disch := first | exact Nat.le_of_ble_eq_true rfl | omega) only [AXS, AXB, J.dst, reduceIte, Nat.reduceEqDiff, Nat.reduceAdd, Nat.reduceMul, Nat.reduceLT, Nat.reduceLeDiff, f53r6])
        refine hrt _ _ ?_
        try simp (config := { maxSteps := 1000000 }) (disch := first | exact Nat.le_of_ble_eq_true rfl | omega) only [AXS, AXB, J.dst, reduceIte, Nat.reduceEqDiff, Nat.reduceAdd, Nat.reduceMul, Nat.reduceLT, Nat.reduceLeDiff]
        exact hR false _ (fun h => by cases h) (x1.trans x2)
      · have hb' : b = true := by simpa using h4
        (try simp (config := { maxSteps := 1000000 }) (disch := first | exact Nat.le_of_ble_eq_true rfl | omega) only [AXS, AXB, J.dst, reduceIte, Nat.reduceEqDiff, Nat.reduceAdd, Nat.reduceMul, Nat.reduceLT, Nat.reduceLeDiff]); rw [f53c12_eq]; (try simp (config := { maxSteps := 1000000 }) (disch := first | exact Nat.le_of_ble_eq_true rfl | omega) only [AXS, AXB, J.dst, reduceIte, Nat.reduceEqDiff, Nat.reduceAdd, Nat.reduceMul, Nat.reduceLT, Nat.reduceLeDiff, f53r7])
        rw [i64_wrap (by omega) (by omega)]
        refine hnx (m - 1) _ _ (by omega) ⟨x1.trans x2, k + 1, by omega, ?_, rfl⟩
        intro j c' hjk hc'
        rcases Nat.lt_or_ge j k with hlt | hge
        · exact hj j c' hlt hc'
        · have : j = k := by omega
          subst this
          rw [hx] at hc'; cases hc'; exact hb hb'
    · have hkl : k = l.length := by have := of_decide_eq_false hh; omega
      refine hex _ _ ?_
      (try simp (config := { maxSteps := 1000000 }) (disch := first | exact Nat.le_of_ble_eq_true rfl | omega) only [AXS, AXB, J.dst, reduceIte, Nat.reduceEqDiff, Nat.reduceAdd, Nat.reduceMul, Nat.reduceLT, Nat.reduceLeDiff]); rw [f53c13_eq]; (try simp (config := { maxSteps := 1000000 }) (disch := first | exact Nat.le_of_ble_eq_true rfl | omega) only [AXS, AXB, J.dst, reduceIte, Nat.reduceEqDiff, Nat.reduceAdd, Nat.reduceMul, Nat.reduceLT, Nat.reduceLeDiff, f53r8])
      refine hR true _ (fun _ => ⟨hm, fun c hc => ?_⟩) x1
      obtain ⟨j, hjl, rfl⟩ := List.mem_iff_getElem.1 hc
      exact hj j _ (by omega) (List.getElem?_eq_getElem hjl)
end Go.Proofs.Ytefghfgmkndikaa
namespace Go.AX
open Go
/-- Parts in a row of the call's own, their lists apart from it. -/
def OwnP (lo : Nat) (h : Heap) (a : Option Addr) (n c : Nat) (ps : List Prt) : Prop :=
  ∃ vs, Own lo h 116 9 a n c (vs.flatMap ePr) ∧ n = ps.length ∧ All2 (PrR (fun b => lo ≤ b ∧ b < h.size ∧ some b ≠ ob a) h) vs ps
theorem PrR.to {B B' : Nat → Prop} {h h' : Heap} {v : PrV} {p : Prt} (r : PrR B h v p) (H : ∀ b, B b → B' b ∧ h'[b]? = h[b]?) : PrR B' h' v p :=
  ⟨r.s, r.cn, r.cc, r.rn, r.dn, (let ⟨vs, h1, h2⟩ := r.cells; ⟨vs, h1.imp fun _ _ r => r.to H, h2.to H⟩), r.records.to H, r.done.to H⟩
theorem OwnP.ext {lo : Nat} {h h' : Heap} {a : Option Addr} {n c : Nat} {ps : List Prt} (O : OwnP lo h a n c ps) (x : Ext h h') : OwnP lo h' a n c ps := by
  obtain ⟨vs, h1, h2, h3⟩ := O
  exact ⟨vs, h1.ext x, h2, h3.imp fun _ _ r => r.to fun b hb => ⟨⟨hb.1, Nat.lt_of_lt_of_le hb.2.1 x.size, hb.2.2⟩, x.at_ b hb.2.1⟩⟩
theorem OwnP.ob {lo : Nat} {h : Heap} {a : Option Addr} {n c : Nat} {ps : List Prt} (O : OwnP lo h a n c ps) : ∀ k, ob a = some k → lo ≤ k ∧ k < h.size := by
  obtain ⟨vs, h1, _⟩ := O
  exact h1.ob
theorem OwnP.elem {lo : Nat} {h : Heap} {a : Option Addr} {n c : Nat} {ps : List Prt} (O : OwnP lo h a n c ps) {i : Nat} {p : Prt} (hi : ps[i]? = some p) : ∃ b o v, a = some ⟨b, o, none⟩ ∧ Row h b (o + i * 9) (ePr v) ∧ PrR (fun b => lo ≤ b ∧ b < h.size) h v p := by
  obtain ⟨vs, h1, h2, h3⟩ := O
  obtain ⟨v, hv, hr⟩ := h3.get hi
  obtain ⟨b, o, e1, e2, e3⟩ := (SlF.of_own h1 (by rw [h2, h3.length])).elem ePr_len hv
  exact ⟨b, o, v, e1, e3, hr.imp fun b hb => ⟨hb.1, hb.2.1⟩⟩
theorem OwnP.push {lo : Nat} {h h' : Heap} {a a' : Option Addr} {n c' : Nat} {ps : List Prt} {v : PrV} {x : Prt} {vs : List PrV} (h2 : n = ps.length) (h3 : All2 (PrR (fun b => lo ≤ b ∧ b < h.size ∧ some b ≠ AX.ob a) h) vs ps)
    (r : PrR (fun b => lo ≤ b ∧ b < h.size ∧ some b ≠ AX.ob a) h v x) (O : Own lo h' 116 9 a' (n + 1) c' (vs.flatMap ePr ++ ePr v)) (G : Gr (AX.ob a) h h') (A : AX.ob a' = AX.ob a ∨ ∃ k, AX.ob a' = some k ∧ h.size ≤ k) : OwnP lo h' a' (n + 1) c' (ps ++ [x]) := by
  have hto : ∀ b, (lo ≤ b ∧ b < h.size ∧ some b ≠ AX.ob a) → (lo ≤ b ∧ b < h'.size ∧ some b ≠ AX.ob a') ∧ h'[b]? = h[b]? := by
    rintro b ⟨b1, b2, b3⟩
    refine ⟨⟨b1, Nat.lt_of_lt_of_le b2 G.size, ?_⟩, G.at_ b b2 b3⟩
    rcases A with e | ⟨k, e, hk⟩
    · rw [e]; exact b3
    · rw [e]; intro e'; cases e'; omega
  refine ⟨vs ++ [v], ?_, by simp [h2], (h3.imp fun _ _ r => r.to hto).append (.cons (r.to hto) .nil)⟩
  rw [List.flatMap_append]
  simpa using O
end Go.AX
namespace Go.Proofs.Ytefghfgmkndikaa
open Go Go.AX
theorem run_succ {l : List Cmd} {k : Nat} {c : Cmd} (h : l[k]? = some c) : runP (l.take (k + 1)) = stepP (runP (l.take k)) c := by
  unfold runP; rw [List.take_add_one, h]; simp [List.foldl_append]
theorem take_lt {l : List Cmd} (h : ∀ c ∈ l, Lt100 c) (k : Nat) : ∀ c ∈ l.take k, Lt100 c := fun c hc => h c (List.mem_of_mem_take hc)
theorem runs_good {l : List Cmd} (h : ∀ c ∈ l, Lt100 c) (k : Nat) (hk : k ≤ l.length) : GdP (100 * k) (runP (l.take k)) := by
  have := runG (l.take k) emptyG (take_lt h k)
  rw [List.length_take, Nat.min_eq_left hk, Nat.zero_add] at this
  exact this
end Go.Proofs.Ytefghfgmkndikaa
namespace Go.AX
open Go
theorem raw_map {P : Program} {o : Oper} {σ : Env} {h : Heap} {K : Value → Heap → Prop} {t : TypeId} (ho : o.op = .makeMap t none) (H : ∀ h', Ext h h' → h'.size = h.size + 1 → h'[h.size]? = some (.map #[] 0) → K (.map (some h.size)) h') : RawW P o σ h K := by
  refine ⟨?_, ?_, ?_⟩
  · rw [ho]; intro u hu
    simp only [Op.operands, Option.toArray, List.mem_toArray, List.not_mem_nil, Array.not_mem_empty] at hu
  · rw [ho]; intro cs b hh; cases hh
  · intro w hw
    subst hw
    have hrun : (Instr.makeMap t none).run P w = .ok (.map (some w.heap.size)) { w with heap := w.heap.push (.map #[] 0) } := rfl
    refine ⟨.value (.map (some w.heap.size)), _, { w with heap := w.heap.push (.map #[] 0) }, ?_, rfl, ?_, H _ ((Ext.refl w.heap).push _) (by simp) (by simp)⟩
    · simp [execOp, ho, hrun]
    · exact ⟨rfl, rfl, rfl⟩
end Go.AX
namespace Go.Proofs.Ytefghfgmkndikaa
open Go Go.AX
theorem once_none (h : Heap) {a : Option Addr} {c : Nat} {R : Value → Heap → Prop} (hR : ∀ h', Ext h h' → R (.bool true) h') : CallsH Try.prog 102 [.slice a (0 : Nat) c] h R := by
  refine f102ok (by simp) ?_
  (try simp (config := { maxSteps := 1000000 }) (disch := first | exact Nat.le_of_ble_eq_true rfl | omega) only [AXS, AXB, J.dst, reduceIte, Nat.reduceEqDiff, Nat.reduceAdd, Nat.reduceMul, Nat.reduceLT, Nat.reduceLeDiff]); rw [f102c0_eq]; (try simp (config := { maxSteps := 1000000 }) (disch := first | exact Nat.le_of_ble_eq_true rfl | omega) only [AXS, AXB, J.dst, reduceIte, Nat.reduceEqDiff, Nat.reduceAdd, Nat.reduceMul, Nat.reduceLT, Nat.reduceLeDiff, f102r0]); rw [f102c1_eq]; (try simp (config := { maxSteps := 1000000 }) (disch := first | exact Nat.le_of_ble_eq_true rfl | omega) only [AXS, AXB, J.dst, reduceIte, Nat.reduceEqDiff, Nat.reduceAdd, Nat.reduceMul, Nat.reduceLT, Nat.reduceLeDiff, f102r1])
  rw [wL_raw]
  refine raw_map rfl ?_
  intro h1 x1 _ _
  refine ⟨trivial, ?_⟩
  (try simp (config := { maxSteps := 1000000 }) (disch := first | exact Nat.le_of_ble_eq_true rfl | omega) only [AXS, AXB, J.dst, reduceIte, Nat.reduceEqDiff, Nat.reduceAdd, Nat.reduceMul, Nat.reduceLT, Nat.reduceLeDiff]); rw [f102c2_eq]; (try simp (config := { maxSteps := 1000000 }) (disch := first | exact Nat.le_of_ble_eq_true rfl | omega) only [AXS, AXB, J.dst, reduceIte, Nat.reduceEqDiff, Nat.reduceAdd, Nat.reduceMul, Nat.reduceLT, Nat.reduceLeDiff, f102r2])
  rw [f102c3_eq]
  refine loop_in (fun n σ h' => h' = h1 ∧ σ = [(3, .map (some h.size)), (7, .slice a (0 : Nat) c), (8, vi (0 : Nat)), (9, vi (0 : Nat))]) 0 ⟨rfl, rfl⟩ ?_
  rintro n σ h' ⟨rfl, rfl⟩ Q' hnx hex hrt _
  (try simp (config := { maxSteps := 1000000 }) (disch := first | exact Nat.le_of_ble_eq_true rfl | omega) only [AXS, AXB, J.dst, reduceIte, Nat.reduceEqDiff, Nat.reduceAdd, Nat.reduceMul, Nat.reduceLT, Nat.reduceLeDiff]); rw [f102c4_eq]; (try simp (config := { maxSteps := 1000000 }) (disch := first | exact Nat.le_of_ble_eq_true rfl | omega) only [AXS, AXB, J.dst, reduceIte, Nat.reduceEqDiff, Nat.reduceAdd, Nat.reduceMul, Nat.reduceLT, Nat.reduceLeDiff, f102r3]); rw [f102c5_eq]; (try simp (config := { maxSteps := 1000000 }) (disch := first | exact Nat.le_of_ble_eq_true rfl | omega) only [AXS, AXB, J.dst, reduceIte, Nat.reduceEqDiff, Nat.reduceAdd, Nat.reduceMul, Nat.reduceLT, Nat.reduceLeDiff])
  refine ⟨fun hh => ?_, fun hh => ?_⟩
  · have := of_decide_eq_true hh; omega
  · refine hex _ _ ?_
    (try simp (config := { maxSteps := 1000000 }) (disch := first | exact Nat.le_of_ble_eq_true rfl | omega) only [AXS, AXB, J.dst, reduceIte, Nat.reduceEqDiff, Nat.reduceAdd, Nat.reduceMul, Nat.reduceLT, Nat.reduceLeDiff]); rw [f102c13_eq]; (try simp (config := { maxSteps := 1000000 }) (disch := first | exact Nat.le_of_ble_eq_true rfl | omega) only [AXS, AXB, J.dst, reduceIte, Nat.reduceEqDiff, Nat.reduceAdd, Nat.reduceMul, Nat.reduceLT, Nat.reduceLeDiff, f102r9])
    exact hR _ x1
theorem mayP_none {B : Nat → Prop} {n : Nat} (pv : PrV) (p : Prt) (h : Heap) (S : PrR B h pv p) (g : GdP n p) (hn : n ≤ 900000) (hr : p.records = []) (hd : p.done = []) (hl : p.s.low ≤ p.s.closed ∨ p.s.low = 0) {R : Value → Heap → Prop}
    (hR : ∀ h', Ext h h' → R (.bool true) h') : CallsH Try.prog 60 [.agg (ePr pv).toArray] h R := by
  have hrn := S.rn
  have hdn := S.dn
  rw [hr] at hrn
  rw [hd] at hdn
  have hm : mostEpoch = 1099511627776 := rfl
  have e0 := g.e0
  have e1 := g.e1
  have hs := S.s
  refine f60ok (by simp) ?_
  (try simp (config := { maxSteps := 1000000 }) (disch := first | exact Nat.le_of_ble_eq_true rfl | omega) only [AXS, AXB, J.dst, reduceIte, Nat.reduceEqDiff, Nat.reduceAdd, Nat.reduceMul, Nat.reduceLT, Nat.reduceLeDiff]); rw [f60c0_eq]; (try simp (config := { maxSteps := 1000000 }) (disch := first | exact Nat.le_of_ble_eq_true rfl | omega) only [AXS, AXB, J.dst, reduceIte, Nat.reduceEqDiff, Nat.reduceAdd, Nat.reduceMul, Nat.reduceLT, Nat.reduceLeDiff, f60r0])
  refine wL_boxN rfl ?_; rintro b1 h1 x1 s1 hb1 (B1 : Blk _ _ _ (ePr pv))
  try simp (config := { maxSteps := 1000000 }) (disch := first | exact Nat.le_of_ble_eq_true rfl | omega) only [AXS, AXB, J.dst, reduceIte, Nat.reduceEqDiff, Nat.reduceAdd, Nat.reduceMul, Nat.reduceLT, Nat.reduceLeDiff]
  rw [f60c1_eq]
  simp (config := { maxSteps := 1000000 }) (disch := first | exact Nat.le_of_ble_eq_true rfl | omega) only [AXJ, AXS, AXB, J.dst, reduceIte, Nat.reduceEqDiff, Nat.reduceAdd, Nat.reduceMul, Nat.reduceLT, Nat.reduceLeDiff, f60r1, B1.cel, ePr, S.cn]
  refine mayG g.sz.cells hn (S.cells.ext x1) ?_
  intro h2 x2
  refine ⟨trivial, ?_⟩
  have B2 := B1.ext x2
  simp (config := { maxSteps := 1000000 }) (disch := first | exact Nat.le_of_ble_eq_true rfl | omega) only [AXJ, AXS, AXB, J.dst, reduceIte, Nat.reduceEqDiff, Nat.reduceAdd, Nat.reduceMul, Nat.reduceLT, Nat.reduceLeDiff, B2.cel, ePr, hrn, List.length_nil]
  refine once_none _ ?_
  intro h3 x3
  refine ⟨trivial, ?_⟩
  have B3 := B2.ext x3
  simp (config := { maxSteps := 1000000 }) (disch := first | exact Nat.le_of_ble_eq_true rfl | omega) only [AXJ, AXS, AXB, J.dst, reduceIte, Nat.reduceEqDiff, Nat.reduceAdd, Nat.reduceMul, Nat.reduceLT, Nat.reduceLeDiff, f60r1a, B3.cel, ePr, hdn, List.length_nil]
  refine once_none _ ?_
  intro h4 x4
  refine ⟨trivial, ?_⟩
  have B4 := B3.ext x4
  simp (config := { maxSteps := 1000000 }) (disch := first | exact Nat.le_of_ble_eq_true rfl | omega) only [AXJ, AXS, AXB, J.dst, reduceIte, Nat.reduceEqDiff, Nat.reduceAdd, Nat.reduceMul, Nat.reduceLT, Nat.reduceLeDiff]
  simp (config := { maxSteps := 1000000 }) (disch := first | exact Nat.le_of_ble_eq_true rfl | omega) only [AXJ, AXS, AXB, J.dst, reduceIte, Nat.reduceEqDiff, Nat.reduceAdd, Nat.reduceMul, Nat.reduceLT, Nat.reduceLeDiff, f60r1b, B4.cel, ePr, hs]
  simp (config := { maxSteps := 1000000 }) (disch := first | exact Nat.le_of_ble_eq_true rfl | omega) only [AXJ, AXS, AXB, J.dst, reduceIte, Nat.reduceEqDiff, Nat.reduceAdd, Nat.reduceMul, Nat.reduceLT, Nat.reduceLeDiff, f60r1c, B4.cel, ePr, hs]
  simp (config := { maxSteps := 1000000 }) (disch := first | exact Nat.le_of_ble_eq_true rfl | omega) only [AXJ, AXS, AXB, J.dst, reduceIte, Nat.reduceEqDiff, Nat.reduceAdd, Nat.reduceMul, Nat.reduceLT, Nat.reduceLeDiff, f60r1d, B4.cel, ePr, hs]
  simp (config := { maxSteps := 1000000 }) (disch := first | exact Nat.le_of_ble_eq_true rfl | omega) only [AXJ, AXS, AXB, J.dst, reduceIte, Nat.reduceEqDiff, Nat.reduceAdd, Nat.reduceMul, Nat.reduceLT, Nat.reduceLeDiff, f60r1e]
  have hfin : (decide (p.s.epoch ≥ 0) && decide (p.s.epoch ≤ 1099511627776) && (decide (p.s.low ≤ p.s.closed) || p.s.low == 0)) = true := by
    simp only [Bool.and_eq_true, Bool.or_eq_true, decide_eq_true_eq, beq_iff_eq]
    exact ⟨⟨e0, by omega⟩, hl⟩
  rw [hfin]
  exact hR _ (((x1.trans x2).trans x3).trans x4)
def pg1 : Cmd := ⟨⟨1, 1, 2, 0, ⟨0, 0, 0, 0⟩, ⟨0, 0⟩, 0, false⟩, [], []⟩
def pg2 : Cmd := ⟨⟨3, 1, 0, 0, ⟨1, 0, 0, 0⟩, ⟨5, 0⟩, 0, false⟩, [], [⟨⟨#[107]⟩, false, ⟨#[120]⟩⟩]⟩
def pg3 : Cmd := ⟨⟨2, 1, 0, 0, ⟨0, 0, 0, 0⟩, ⟨9, 0⟩, 0, false⟩, [⟨⟨#[97]⟩, ⟨#[122]⟩⟩], []⟩
theorem pg_facts : (applyP emptyP pg1).2.s.err = 0 ∧ (applyP emptyP pg1).1.s.holder = 2 ∧ (applyP (applyP emptyP pg1).1 pg2).2.s.err = 0 ∧ (applyP (applyP (applyP emptyP pg1).1 pg2).1 pg3).2.s.err = 20 ∧
    (applyP (applyP emptyP pg1).1 pg2).1.records = [] ∧ (applyP (applyP emptyP pg1).1 pg2).1.done = [] ∧ (applyP (applyP emptyP pg1).1 pg2).1.s.low = 0 := by
  refine ⟨rfl, rfl, by decide, ?_, by decide, by decide, by decide⟩
  kernel_rfl
def zPr : PrV := ⟨⟨0, 0, ⟨0, 0⟩, 0, 0⟩, none, 0, 0, none, 0, 0, none, 0, 0⟩
theorem zPr_ok {B : Nat → Prop} (h : Heap) : PrR B h zPr emptyP := ⟨rfl, rfl, Nat.le_refl _, rfl, rfl, ⟨[], .nil, .nil⟩, .nil, .nil⟩
theorem begunP_ok (h : Heap) {R : Value → Heap → Prop} (hR : ∀ h', Ext h h' → R (.bool true) h') : CallsH Try.prog 52 [] h R := by
  have hbig : big = 1000000 := rfl
  obtain ⟨f1, f2, f3, f4, f5, f6, f7⟩ := pg_facts
  have g0 := emptyG
  have g1 := applyG (c := pg1) g0 ⟨by decide, by decide⟩
  have g2 := applyG (c := pg2) g1 ⟨by decide, by decide⟩
  refine f52ok (by simp) ?_
  (try simp (config := { maxSteps := 1000000 }) (disch := first | exact Nat.le_of_ble_eq_true rfl | omega) only [AXS, AXB, J.dst, reduceIte, Nat.reduceEqDiff, Nat.reduceAdd, Nat.reduceMul, Nat.reduceLT, Nat.reduceLeDiff]); rw [f52c0_eq]; (try simp (config := { maxSteps := 1000000 }) (disch := first | exact Nat.le_of_ble_eq_true rfl | omega) only [AXS, AXB, J.dst, reduceIte, Nat.reduceEqDiff, Nat.reduceAdd, Nat.reduceMul, Nat.reduceLT, Nat.reduceLeDiff, f52r0]); rw [f52c1_eq]; (try simp (config := { maxSteps := 1000000 }) (disch := first | exact Nat.le_of_ble_eq_true rfl | omega) only [AXS, AXB, J.dst, reduceIte, Nat.reduceEqDiff, Nat.reduceAdd, Nat.reduceMul, Nat.reduceLT, Nat.reduceLeDiff, f52r1])
  refine apply_ok (B := fun _ => True) (B' := fun _ => True) zPr emptyP ⟨pg1.s, none, 0, 0, none, 0, 0⟩ pg1 _ (zPr_ok _) ⟨rfl, rfl, rfl, .nil, .nil⟩ g0.sz (by decide) (by decide) g0.e0 ?_
  intro p1 r1 h1 P1 K1 x1
  refine ⟨trivial, ?_⟩
  try simp (config := { maxSteps := 1000000 }) (disch := first | exact Nat.le_of_ble_eq_true rfl | omega) only [AXS, AXB, J.dst, reduceIte, Nat.reduceEqDiff, Nat.reduceAdd, Nat.reduceMul, Nat.reduceLT, Nat.reduceLeDiff]
  refine wL_newN ?_; rintro b1 h2 x2 s2 hb1 B1
  try simp (config := { maxSteps := 1000000 }) (disch := first | exact Nat.le_of_ble_eq_true rfl | omega) only [AXS, AXB, J.dst, reduceIte, Nat.reduceEqDiff, Nat.reduceAdd, Nat.reduceMul, Nat.reduceLT, Nat.reduceLeDiff]
  refine wL_newN ?_; rintro b2 h3 x3 s3 hb2 B2
  replace B1 := B1.ext x3
  try simp (config := { maxSteps := 1000000 }) (disch := first | exact Nat.le_of_ble_eq_true rfl | omega) only [AXS, AXB, J.dst, reduceIte, Nat.reduceEqDiff, Nat.reduceAdd, Nat.reduceMul, Nat.reduceLT, Nat.reduceLeDiff]
  refine wL_stN rfl rfl rfl B1 (by decide) (ePr_one p1) ?_
  rintro h4 u4 (B1 : Blk _ _ _ (ePr p1))
  try simp (config := { maxSteps := 1000000 }) (disch := first | exact Nat.le_of_ble_eq_true rfl | omega) only [AXS, AXB, J.dst, reduceIte, Nat.reduceEqDiff, Nat.reduceAdd, Nat.reduceMul, Nat.reduceLT, Nat.reduceLeDiff]
  refine wL_stN rfl rfl rfl (u4.blk B2 (by omega)) (by decide) (eRp_one r1) ?_
  rintro h5 u5 (B2 : Blk _ _ _ (eRp r1))
  replace B1 := u5.blk B1 (by omega)
  have x15 := u5.ext (u4.ext (x2.trans x3) (by omega)) (by omega)
  have y4 := u4.size
  have y5 := u5.size
  have P5 := P1.prr.ext x15
  have hr1 := K1.s
  (try simp (config := { maxSteps := 1000000 }) (disch := first | exact Nat.le_of_ble_eq_true rfl | omega) only [AXS, AXB, J.dst, reduceIte, Nat.reduceEqDiff, Nat.reduceAdd, Nat.reduceMul, Nat.reduceLT, Nat.reduceLeDiff]); rw [f52c2_eq]; (try simp (config := { maxSteps := 1000000 }) (disch := first | exact Nat.le_of_ble_eq_true rfl | omega) only [AXS, AXB, J.dst, reduceIte, Nat.reduceEqDiff, Nat.reduceAdd, Nat.reduceMul, Nat.reduceLT, Nat.reduceLeDiff, f52r2, B1.rd, ePr])
  refine wL_bslN rfl ?_; rintro b3 h6 x6 s6 hb3 (B3 : Blk _ _ _ (eWri ⟨⟨#[107]⟩, false, ⟨#[120]⟩⟩))
  try simp (config := { maxSteps := 1000000 }) (disch := first | exact Nat.le_of_ble_eq_true rfl | omega) only [AXS, AXB, J.dst, reduceIte, Nat.reduceEqDiff, Nat.reduceAdd, Nat.reduceMul, Nat.reduceLT, Nat.reduceLeDiff]
  refine apply_ok (B' := fun _ => True) p1 (applyP emptyP pg1).1 ⟨pg2.s, none, 0, 0, some ⟨b3, 0, none⟩, 1, 1⟩ pg2 _ (P5.ext x6) ⟨rfl, rfl, rfl, .nil, fun _ => ⟨b3, 0, rfl, trivial, B3.row⟩⟩ g1.sz (by decide) (by decide) g1.e0 ?_
  intro p2 r2 h7 P2 K2 x7
  refine ⟨trivial, ?_⟩
  replace B1 := B1.ext (x6.trans x7); replace B2 := B2.ext (x6.trans x7)
  have y6 := x6.size
  have y7 := x7.size
  try simp (config := { maxSteps := 1000000 }) (disch := first | exact Nat.le_of_ble_eq_true rfl | omega) only [AXS, AXB, J.dst, reduceIte, Nat.reduceEqDiff, Nat.reduceAdd, Nat.reduceMul, Nat.reduceLT, Nat.reduceLeDiff]
  refine wL_newN ?_; rintro b4 h8 x8 s8 hb4 B4
  try simp (config := { maxSteps := 1000000 }) (disch := first | exact Nat.le_of_ble_eq_true rfl | omega) only [AXS, AXB, J.dst, reduceIte, Nat.reduceEqDiff, Nat.reduceAdd, Nat.reduceMul, Nat.reduceLT, Nat.reduceLeDiff]
  refine wL_newN ?_; rintro b5 h9 x9 s9 hb5 B5
  replace B1 := B1.ext x8; replace B2 := B2.ext x8
  replace B1 := B1.ext x9; replace B2 := B2.ext x9; replace B4 := B4.ext x9
  try simp (config := { maxSteps := 1000000 }) (disch := first | exact Nat.le_of_ble_eq_true rfl | omega) only [AXS, AXB, J.dst, reduceIte, Nat.reduceEqDiff, Nat.reduceAdd, Nat.reduceMul, Nat.reduceLT, Nat.reduceLeDiff]
  refine wL_stN rfl rfl rfl B4 (by decide) (ePr_one p2) ?_
  rintro h10 u10 (B4 : Blk _ _ _ (ePr p2))
  try simp (config := { maxSteps := 1000000 }) (disch := first | exact Nat.le_of_ble_eq_true rfl | omega) only [AXS, AXB, J.dst, reduceIte, Nat.reduceEqDiff, Nat.reduceAdd, Nat.reduceMul, Nat.reduceLT, Nat.reduceLeDiff]
  refine wL_stN rfl rfl rfl (u10.blk B5 (by omega)) (by decide) (eRp_one r2) ?_
  rintro h11 u11 (B5 : Blk _ _ _ (eRp r2))
  replace B4 := u11.blk B4 (by omega)
  replace B1 := u11.blk (u10.blk B1 (by omega)) (by omega)
  replace B2 := u11.blk (u10.blk B2 (by omega)) (by omega)
  have x711 := u11.ext (u10.ext (x8.trans x9) (by omega)) (by omega)
  have y10 := u10.size
  have y11 := u11.size
  have P11 := P2.prr.ext x711
  have hr2 := K2.s
  (try simp (config := { maxSteps := 1000000 }) (disch := first | exact Nat.le_of_ble_eq_true rfl | omega) only [AXS, AXB, J.dst, reduceIte, Nat.reduceEqDiff, Nat.reduceAdd, Nat.reduceMul, Nat.reduceLT, Nat.reduceLeDiff]); rw [f52c3_eq]; (try simp (config := { maxSteps := 1000000 }) (disch := first | exact Nat.le_of_ble_eq_true rfl | omega) only [AXS, AXB, J.dst, reduceIte, Nat.reduceEqDiff, Nat.reduceAdd, Nat.reduceMul, Nat.reduceLT, Nat.reduceLeDiff, f52r3, B4.rd, ePr])
  refine wL_bslN rfl ?_; rintro b6 h12 x12 s12 hb6 (B6 : Blk _ _ _ (eSpn ⟨⟨#[97]⟩, ⟨#[122]⟩⟩))
  try simp (config := { maxSteps := 1000000 }) (disch := first | exact Nat.le_of_ble_eq_true rfl | omega) only [AXS, AXB, J.dst, reduceIte, Nat.reduceEqDiff, Nat.reduceAdd, Nat.reduceMul, Nat.reduceLT, Nat.reduceLeDiff]
  refine apply_ok (B' := fun _ => True) p2 (applyP (applyP emptyP pg1).1 pg2).1 ⟨pg3.s, some ⟨b6, 0, none⟩, 1, 1, none, 0, 0⟩ pg3 _ (P11.ext x12) ⟨rfl, rfl, rfl, fun _ => ⟨b6, 0, rfl, trivial, B6.row⟩, .nil⟩ g2.sz (by decide) (by decide) g2.e0 ?_
  intro p3 r3 h13 P3 K3 x13
  refine ⟨trivial, ?_⟩
  replace B1 := B1.ext (x12.trans x13); replace B2 := B2.ext (x12.trans x13); replace B4 := B4.ext (x12.trans x13); replace B5 := B5.ext (x12.trans x13)
  have y12 := x12.size
  have y13 := x13.size
  try simp (config := { maxSteps := 1000000 }) (disch := first | exact Nat.le_of_ble_eq_true rfl | omega) only [AXS, AXB, J.dst, reduceIte, Nat.reduceEqDiff, Nat.reduceAdd, Nat.reduceMul, Nat.reduceLT, Nat.reduceLeDiff]
  refine wL_newN ?_; rintro b7 h14 x14 s14 hb7 B7
  try simp (config := { maxSteps := 1000000 }) (disch := first | exact Nat.le_of_ble_eq_true rfl | omega) only [AXS, AXB, J.dst, reduceIte, Nat.reduceEqDiff, Nat.reduceAdd, Nat.reduceMul, Nat.reduceLT, Nat.reduceLeDiff]
  refine wL_newN ?_; rintro b8 h15 xb15 s15 hb8 B8
  replace B1 := B1.ext x14; replace B2 := B2.ext x14; replace B4 := B4.ext x14; replace B5 := B5.ext x14
  replace B1 := B1.ext xb15; replace B2 := B2.ext xb15; replace B4 := B4.ext xb15; replace B5 := B5.ext xb15; replace B7 := B7.ext xb15
  try simp (config := { maxSteps := 1000000 }) (disch := first | exact Nat.le_of_ble_eq_true rfl | omega) only [AXS, AXB, J.dst, reduceIte, Nat.reduceEqDiff, Nat.reduceAdd, Nat.reduceMul, Nat.reduceLT, Nat.reduceLeDiff]
  refine wL_stN rfl rfl rfl B7 (by decide) (ePr_one p3) ?_
  rintro h16 u16 (B7 : Blk _ _ _ (ePr p3))
  try simp (config := { maxSteps := 1000000 }) (disch := first | exact Nat.le_of_ble_eq_true rfl | omega) only [AXS, AXB, J.dst, reduceIte, Nat.reduceEqDiff, Nat.reduceAdd, Nat.reduceMul, Nat.reduceLT, Nat.reduceLeDiff]
  refine wL_stN rfl rfl rfl (u16.blk B8 (by omega)) (by decide) (eRp_one r3) ?_
  rintro h17 u17 (B8 : Blk _ _ _ (eRp r3))
  replace B1 := u17.blk (u16.blk B1 (by omega)) (by omega)
  replace B2 := u17.blk (u16.blk B2 (by omega)) (by omega)
  replace B4 := u17.blk (u16.blk B4 (by omega)) (by omega)
  replace B5 := u17.blk (u16.blk B5 (by omega)) (by omega)
  have x1117 := u17.ext (u16.ext (((x12.trans x13).trans x14).trans xb15) (by omega)) (by omega)
  have P17 := P11.ext x1117
  have hp1 := P1.s
  have hr3 := K3.s
  try simp (config := { maxSteps := 1000000 }) (disch := first | exact Nat.le_of_ble_eq_true rfl | omega) only [AXS, AXB, J.dst, reduceIte, Nat.reduceEqDiff, Nat.reduceAdd, Nat.reduceMul, Nat.reduceLT, Nat.reduceLeDiff]
  rw [f52c4_eq]
  simp (config := { maxSteps := 1000000 }) (disch := first | exact Nat.le_of_ble_eq_true rfl | omega) only [AXJ, AXS, AXB, J.dst, reduceIte, Nat.reduceEqDiff, Nat.reduceAdd, Nat.reduceMul, Nat.reduceLT, Nat.reduceLeDiff, f52r4, B2.cel, eRp, hr1, f1, B1.cel, ePr, hp1, f2]
  simp (config := { maxSteps := 1000000 }) (disch := first | exact Nat.le_of_ble_eq_true rfl | omega) only [AXJ, AXS, AXB, J.dst, reduceIte, Nat.reduceEqDiff, Nat.reduceAdd, Nat.reduceMul, Nat.reduceLT, Nat.reduceLeDiff, f52r4a, B5.cel, eRp, hr2, f3]
  simp (config := { maxSteps := 1000000 }) (disch := first | exact Nat.le_of_ble_eq_true rfl | omega) only [AXJ, AXS, AXB, J.dst, reduceIte, Nat.reduceEqDiff, Nat.reduceAdd, Nat.reduceMul, Nat.reduceLT, Nat.reduceLeDiff, f52r4b, B8.cel, eRp, hr3, f4]
  simp (config := { maxSteps := 1000000 }) (disch := first | exact Nat.le_of_ble_eq_true rfl | omega) only [AXJ, AXS, AXB, J.dst, reduceIte, Nat.reduceEqDiff, Nat.reduceAdd, Nat.reduceMul, Nat.reduceLT, Nat.reduceLeDiff, f52r4c, B4.rd, ePr]
  refine mayP_none p2 (applyP (applyP emptyP pg1).1 pg2).1 _ P17 g2 (by decide) f5 f6 (.inr f7) ?_
  intro h18 x18
  refine ⟨trivial, ?_⟩
  try simp (config := { maxSteps := 1000000 }) (disch := first | exact Nat.le_of_ble_eq_true rfl | omega) only [AXJ, AXS, AXB, J.dst, reduceIte, Nat.reduceEqDiff, Nat.reduceAdd, Nat.reduceMul, Nat.reduceLT, Nat.reduceLeDiff]
  try simp (config := { maxSteps := 1000000 }) (disch := first | exact Nat.le_of_ble_eq_true rfl | omega) only [AXJ, AXS, AXB, J.dst, reduceIte, Nat.reduceEqDiff, Nat.reduceAdd, Nat.reduceMul, Nat.reduceLT, Nat.reduceLeDiff, f52r4d]
  exact hR _ ((((x1.trans (x15.trans (x6.trans x7))).trans x711).trans x1117).trans x18)
end Go.Proofs.Ytefghfgmkndikaa
namespace Go.Proofs.Ytefghfgmkndikaa
open Go Go.AX
/-- b is a state that came behind a. -/
structure Later (a b : Prt) : Prop where
  closed : a.s.closed ≤ b.s.closed
  low : a.s.low ≤ b.s.low
  epoch : a.s.epoch ≤ b.s.epoch
  floor : Stamp.lt b.s.floor a.s.floor = false
  records : a.records <+: b.records
  done : a.done <+: b.done
theorem Later.refl (p : Prt) : Later p p := ⟨Int.le_refl _, Int.le_refl _, Int.le_refl _, Stamp.lt_irrefl _, List.prefix_rfl, List.prefix_rfl⟩
theorem applyP_cases (p : Prt) (c : Cmd) : (applyP p c).1 = p ∨ (c.s.kind = 1 ∧ applyP p c = leaseP p c) ∨ (¬ c.s.kind = 1 ∧ ¬ (p.s.epoch = 0 ∨ c.s.epoch ≠ p.s.epoch) ∧ applyP p c = doesP p c) := by
  have key : ∀ r : Prt × Rep, (if r.2.s.err = 0 then r else (p, r.2)).1 = p ∨ (if r.2.s.err = 0 then r else (p, r.2)) = r := by
    intro r
    split
    · exact .inr rfl
    · exact .inl rfl
  unfold applyP
  by_cases h1 : c.s.kind = 1
  · simp only [if_pos h1]
    rcases key (leaseP p c) with h | h
    · exact .inl h
    · exact .inr (.inl ⟨h1, h⟩)
  · by_cases h2 : p.s.epoch = 0 ∨ c.s.epoch ≠ p.s.epoch
    · left; simp only [if_neg h1, if_pos h2]; rcases key (p, errR 25) with h | h
      · exact h
      · rw [h]
    · simp only [if_neg h1, if_neg h2]
      rcases key (doesP p c) with h | h
      · exact .inl h
      · exact .inr (.inr ⟨h1, h2, h⟩)
end Go.Proofs.Ytefghfgmkndikaa
namespace Go.Proofs.Ytefghfgmkndikaa
open Go Go.AX Go.ChangeShapes Go.WideShapes Go.RowKit Go.Deep
section
variable {H : Type} {enc : TypeId × Value → H} {w : World} {base : Nat}
theorem drop_split {α : Type} (l : List α) (a k b : Nat) (h : b = a + k) : l.drop a = (l.drop a).take k ++ l.drop b := by
  subst h
  rw [← List.drop_drop, List.take_append_drop]
theorem kdI {cs : List Value} (h0 : All2 kdV [.i .i64] cs) : ∃ x : Int, cs = [vi x] := by
  obtain ⟨c0, m0, rfl, ⟨x, rfl, _⟩, h1⟩ := all2_cons h0
  have := all2_nil h1; subst this
  exact ⟨x, rfl⟩
theorem kdB {cs : List Value} (h0 : All2 kdV [.b] cs) : ∃ x : Bool, cs = [.bool x] := by
  obtain ⟨c0, m0, rfl, ⟨x, rfl⟩, h1⟩ := all2_cons h0
  have := all2_nil h1; subst this
  exact ⟨x, rfl⟩
theorem sz43 : Try.prog.cellsOf 43 = 14 := by kernel_rfl
theorem sz3 : Try.prog.cellsOf 3 = 1 := by kernel_rfl
theorem sz2 : Try.prog.cellsOf 2 = 1 := by kernel_rfl
theorem sz37 : Try.prog.cellsOf 37 = 4 := by kernel_rfl
theorem sz39 : Try.prog.cellsOf 39 = 2 := by kernel_rfl
theorem sz40 : Try.prog.cellsOf 40 = 1 := by kernel_rfl
theorem sz41 : Try.prog.cellsOf 41 = 1 := by kernel_rfl
theorem sz94 : Try.prog.cellsOf 94 = 2 := by kernel_rfl
theorem sz70 : Try.prog.cellsOf 70 = 3 := by kernel_rfl
theorem flat3 : flatT Try.prog 20 3 = some [.i .i64] := by kernel_rfl
theorem flat2 : flatT Try.prog 20 2 = some [.i .i64] := by kernel_rfl
theorem flat4 : flatT Try.prog 20 4 = some [.b] := by kernel_rfl
theorem und40 : Try.prog.underlying 40 = some (.slice 94) := by kernel_rfl
theorem und41 : Try.prog.underlying 41 = some (.slice 70) := by kernel_rfl
theorem und111 : Try.prog.underlying 111 = some (.slice 43) := by kernel_rfl
theorem fld43 : isStrF Try.prog 43 [(3, 0), (3, 1), (3, 2), (3, 3), (37, 4), (39, 8), (2, 10), (4, 11), (40, 12), (41, 13)] = true := by kernel_rfl
set_option maxRecDepth 100000 in
theorem trod_cmd {n : Nat} {cs : List Value} {y : DataW H × List MemPlace} (h : DataW.trod enc Try.prog w 0 (fun _ => true) true n 43 cs = some y) :
    ∃ v, cs = eCm v ∧ ∃ c, CmR (fun b => b < w.heap.size) w.heap v c ∧ c.spans.length ≤ maxLen ∧ c.writes.length ≤ maxLen := by
  obtain ⟨hlen, hf⟩ := trod_fields fld43 h
  obtain ⟨n0, y0, h0⟩ := hf (3, 0) (by simp)
  obtain ⟨n1, y1, h1⟩ := hf (3, 1) (by simp)
  obtain ⟨n2, y2, h2⟩ := hf (3, 2) (by simp)
  obtain ⟨n3, y3, h3⟩ := hf (3, 3) (by simp)
  obtain ⟨n4, y4, h4⟩ := hf (37, 4) (by simp)
  obtain ⟨n5, y5, h5⟩ := hf (39, 8) (by simp)
  obtain ⟨n6, y6, h6⟩ := hf (2, 10) (by simp)
  obtain ⟨n7, y7, h7⟩ := hf (4, 11) (by simp)
  obtain ⟨n8, y8, h8⟩ := hf (40, 12) (by simp)
  obtain ⟨n9, y9, h9⟩ := hf (41, 13) (by simp)
  simp only [sz3, sz37, sz39, sz2, sz4, sz40, sz41] at h0 h1 h2 h3 h4 h5 h6 h7 h8 h9
  rw [sz43] at hlen
  obtain ⟨kind, e0⟩ := kdI (flatT_trod _ _ _ _ _ _ flat3 h0)
  obtain ⟨epoch, e1⟩ := kdI (flatT_trod _ _ _ _ _ _ flat3 h1)
  obtain ⟨node, e2⟩ := kdI (flatT_trod _ _ _ _ _ _ flat3 h2)
  obtain ⟨home, e3⟩ := kdI (flatT_trod _ _ _ _ _ _ flat3 h3)
  obtain ⟨by_, e4⟩ := kdTry (flatT_trod _ _ _ _ _ _ flat37 h4)
  obtain ⟨at_, e5⟩ := kdStamp (flatT_trod _ _ _ _ _ _ flat39 h5)
  obtain ⟨wall, e6⟩ := kdI (flatT_trod _ _ _ _ _ _ flat2 h6)
  obtain ⟨yes, e7⟩ := kdB (flatT_trod _ _ _ _ _ _ flat4 h7)
  obtain ⟨sa, sn, sc, ss, e8, hs1, hs2, hs3, S⟩ := open_flat und40 flat94 sz94 (by decide) (fun _ => kdSpn) eSpn_len h8
  obtain ⟨wa, wn, wc, ws, e9, hw1, hw2, hw3, W⟩ := open_flat und41 flat70 sz70 (by decide) (fun _ => kdWri) eWri_len h9
  have hcs : cs = (cs.drop 0).take 1 ++ ((cs.drop 1).take 1 ++ ((cs.drop 2).take 1 ++ ((cs.drop 3).take 1 ++ ((cs.drop 4).take 4 ++ ((cs.drop 8).take 2 ++ ((cs.drop 10).take 1 ++ ((cs.drop 11).take 1 ++ ((cs.drop 12).take 1 ++ (cs.drop 13).take 1)))))))) := by
    have e : (cs.drop 13).take 1 = cs.drop 13 := by rw [List.take_of_length_le]; rw [List.length_drop]; omega
    rw [e, ← drop_split cs 12 1 13 rfl, ← drop_split cs 11 1 12 rfl, ← drop_split cs 10 1 11 rfl, ← drop_split cs 8 2 10 rfl, ← drop_split cs 4 4 8 rfl, ← drop_split cs 3 1 4 rfl, ← drop_split cs 2 1 3 rfl, ← drop_split cs 1 1 2 rfl, ← drop_split cs 0 1 1 rfl, List.drop_zero]
  rw [e0, e1, e2, e3, e4, e5, e6, e7, e8, e9] at hcs
  refine ⟨⟨⟨kind, epoch, node, home, by_, at_, wall, yes⟩, sa, sn, sc, wa, wn, wc⟩, hcs, ⟨⟨kind, epoch, node, home, by_, at_, wall, yes⟩, ss, ws⟩, ⟨rfl, hs1.symm, hw1.symm, S, W⟩, ?_, ?_⟩
  · show ss.length ≤ maxLen; omega
  · show ws.length ≤ maxLen; omega
set_option maxRecDepth 100000 in
theorem argCmds {v : Value} {d : DataW H} {p : List MemPlace} (hv : Value.okWide Try.prog w .any base 111 v) (h : DataW.Trod enc Try.prog w 0 (fun _ => true) true 111 v d p) :
    ∃ a c l, v = .slice a l.length c ∧ LenM l ∧ SlM (fun b => b < w.heap.size) w.heap a l := by
  obtain ⟨a0, n0, c0, rfl⟩ := okWide_slice und111 hv
  obtain ⟨fuel, hf⟩ := h
  obtain ⟨a, n, c, ds, h1, h2, h3, h4, S, hQ⟩ := open_rows (e := eCm) (Q := fun v => ∃ c, CmR (fun b => b < w.heap.size) w.heap v c ∧ c.spans.length ≤ maxLen ∧ c.writes.length ≤ maxLen) und111 sz43 (by decide) (fun n cs y h => trod_cmd h) eCm_len hf
  obtain ⟨cs, hcs⟩ := all2_ex hQ
  have : a0 = a ∧ n0 = n ∧ c0 = c := by simpa [Value.cells] using h1
  obtain ⟨rfl, rfl, rfl⟩ := this
  have hl := hcs.length
  subst h2
  refine ⟨a0, c0, cs, by rw [hl], ⟨by omega, ?_⟩, ⟨ds, hcs.imp fun _ _ r => r.1, S⟩⟩
  clear S hQ hl
  intro c hc
  obtain ⟨i, hi, rfl⟩ := List.mem_iff_getElem.1 hc
  obtain ⟨v, _, hr⟩ := hcs.get (List.getElem?_eq_getElem hi)
  exact hr.2
end
end Go.Proofs.Ytefghfgmkndikaa
namespace Go.Proofs.Ytefghfgmkndikaa
open Go.AX
set_option maxRecDepth 100000
section
variable {Q : X → Env → Heap → Prop} {σ : Env} {h : Heap}
end
section
variable {Q : X → Env → Heap → Prop} {σ : Env} {h : Heap}
end
section
variable {Q : X → Env → Heap → Prop} {σ : Env} {h : Heap}
end
section
variable {Q : X → Env → Heap → Prop} {σ : Env} {h : Heap}
end
section
variable {Q : X → Env → Heap → Prop} {σ : Env} {h : Heap}
end
section
variable {Q : X → Env → Heap → Prop} {σ : Env} {h : Heap}
end
section
variable {Q : X → Env → Heap → Prop} {σ : Env} {h : Heap}
end
section
variable {Q : X → Env → Heap → Prop} {σ : Env} {h : Heap}
end
section
variable {Q : X → Env → Heap → Prop} {σ : Env} {h : Heap}
end
section
variable {Q : X → Env → Heap → Prop} {σ : Env} {h : Heap}
end
section
variable {Q : X → Env → Heap → Prop} {σ : Env} {h : Heap}
end
section
variable {Q : X → Env → Heap → Prop} {σ : Env} {h : Heap}
end
section
variable {Q : X → Env → Heap → Prop} {σ : Env} {h : Heap}
end
section
variable {Q : X → Env → Heap → Prop} {σ : Env} {h : Heap}
end
section
variable {Q : X → Env → Heap → Prop} {σ : Env} {h : Heap}
end
end Go.Proofs.Ytefghfgmkndikaa
namespace Go.Proofs.Ytefghfgmkndikaa
open Go Go.AX
end Go.Proofs.Ytefghfgmkndikaa
namespace Go.Proofs.Ytefghfgmkndikaa
open Go Go.AX
theorem scanL_err (t : Stamp) (most : Int) (xs : List Cell) (acc : List Pai) : (scanL t most xs acc).2 = 0 ∨ (scanL t most xs acc).2 = 3 := by
  rw [scanL_eq]
  split
  · exact .inl rfl
  · exact .inr rfl
theorem readL_err (p : Prt) (t : Stamp) : ∀ (ss : List Spn) (acc : List Pai), (readL p t ss acc).2 = 0 ∨ (readL p t ss acc).2 = 3
  | [], _ => .inl rfl
  | s :: ss, acc => by
    unfold readL
    dsimp only
    split
    · exact readL_err p t ss _
    · exact scanL_err t _ _ _
theorem readP_err (p : Prt) (c : Cmd) : (readP p c).2.s.err ≠ 25 := by
  unfold readP
  split
  · show (24 : Int) ≠ 25; decide
  · split
    · show (20 : Int) ≠ 25; decide
    · dsimp only
      split
      · show (0 : Int) ≠ 25; decide
      · show (readL p c.s.at_ c.spans []).2 ≠ 25
        rcases readL_err p c.s.at_ c.spans [] with h | h <;> rw [h] <;> decide
theorem prepP_err (p : Prt) (c : Cmd) : (prepP p c).2.s.err ≠ 25 := by
  unfold prepP
  split
  · show (26 : Int) ≠ 25; decide
  · split
    · show (0 : Int) ≠ 25; decide
    · split
      · show (21 : Int) ≠ 25; decide
      · split
        · show (22 : Int) ≠ 25; decide
        · split
          · show (20 : Int) ≠ 25; decide
          · show (0 : Int) ≠ 25; decide
theorem doesP_err (p : Prt) (c : Cmd) : (doesP p c).2.s.err ≠ 25 := by
  unfold doesP
  split
  · exact readP_err p c
  split
  · exact prepP_err p c
  split
  · split
    · show (0 : Int) ≠ 25; decide
    · show (0 : Int) ≠ 25; decide
  split
  · show (0 : Int) ≠ 25; decide
  split
  · show (0 : Int) ≠ 25; decide
  split
  · show (0 : Int) ≠ 25; decide
  · show (9 : Int) ≠ 25; decide
theorem other_law (p : Prt) (c : Cmd) (hk : ¬ c.s.kind = 1) : ((p.s.epoch = 0 ∨ c.s.epoch ≠ p.s.epoch) → applyP p c = (p, errR 25)) ∧ (¬ (p.s.epoch = 0 ∨ c.s.epoch ≠ p.s.epoch) → (applyP p c).2.s.err ≠ 25) := by
  refine ⟨fun h => ?_, fun h => ?_⟩
  · unfold applyP
    simp only [if_neg hk, if_pos h]
    split <;> rfl
  · unfold applyP
    simp only [if_neg hk, if_neg h]
    split
    · exact doesP_err p c
    · exact doesP_err p c
end Go.Proofs.Ytefghfgmkndikaa
namespace Go.AX
open Go
/-- Two ways, where it is plain which one: for simp ahead of the ways themselves. -/
theorem br_TT (A B : Prop) : br (true == true) A B = A := by simp [br]
theorem br_TF (A B : Prop) : br (true == false) A B = B := by simp [br]
theorem br_FT (A B : Prop) : br (false == true) A B = B := by simp [br]
theorem br_FF (A B : Prop) : br (false == false) A B = A := by simp [br]
end Go.AX
namespace Go.Proofs.Ytefghfgmkndikaa
open Go Go.AX
/-- A command of the part's own epoch that is no lease. -/
theorem applyP_own (p : Prt) (c : Cmd) (hk : ¬ c.s.kind = 1) (h0 : ¬ p.s.epoch = 0) (he : c.s.epoch = p.s.epoch) : applyP p c = (if (doesP p c).2.s.err = 0 then doesP p c else (p, (doesP p c).2)) := by
  have hn : ¬ (p.s.epoch = 0 ∨ c.s.epoch ≠ p.s.epoch) := fun h => h.elim h0 (fun h => h he)
  unfold applyP
  simp only [if_neg hk, if_neg hn]
theorem does_prep (p : Prt) (c : Cmd) (hk : c.s.kind = 3) : doesP p c = prepP p c := by
  unfold doesP; rw [if_neg (by omega), if_pos hk]
end Go.Proofs.Ytefghfgmkndikaa
namespace Go.Proofs.Ytefghfgmkndikaa
open Go Go.AX
theorem locks_apart {l : Lck} : ∀ (ws : List Wri) {cs : List Cell} (_ : Good cs) (key : ByteArray) (_ : ∀ w ∈ ws, key ≠ w.key), heldK (ws.foldl (fun cs w => lockL cs w l) cs) key = heldK cs key
  | [], _, _, _, _ => rfl
  | w :: ws, cs, g, key, hk => by
    rw [List.foldl_cons, locks_apart ws (lock_good w l g) key (fun u hu => hk u (List.mem_cons_of_mem _ hu)), apart_held g w l key (hk w (List.mem_cons_self ..))]
theorem locks_held {l : Lck} : ∀ (ws : List Wri) {cs : List Cell} (_ : Good cs) (w : Wri) (_ : w ∈ ws), ∃ u, heldK (ws.foldl (fun cs w => lockL cs w l) cs) w.key = (lkW u l, true)
  | [], _, _, _, h => by cases h
  | v :: ws, cs, g, w, h => by
    by_cases hin : ∃ u ∈ ws, u.key = w.key
    · obtain ⟨u, hu, e⟩ := hin
      have := locks_held (l := l) ws (lock_good v l g) u hu
      rw [e] at this
      exact this
    · have hwv : w = v := by
        rcases List.mem_cons.1 h with h | h
        · exact h
        · exact absurd ⟨w, h, rfl⟩ hin
      subst hwv
      rw [List.foldl_cons, locks_apart ws (lock_good w l g) w.key (fun u hu e => hin ⟨u, hu, e.symm⟩), held_lock g]
      exact ⟨w, rfl⟩
theorem apply_not {p : Prt} {c : Cmd} (h : (applyP p c).2.s.err ≠ 0) : (applyP p c).1 = p := by
  have key : ∀ r : Prt × Rep, (if r.2.s.err = 0 then r else (p, r.2)).2.s.err ≠ 0 → (if r.2.s.err = 0 then r else (p, r.2)).1 = p := by
    intro r
    split
    · rename_i h'; intro h; exact absurd h' h
    · intro _; rfl
  exact key _ h
end Go.Proofs.Ytefghfgmkndikaa
namespace Go.Proofs.Ytefghfgmkndikaa
open Go.AX
set_option maxRecDepth 100000
def f20r0 : List I := [.op (.mov 2 (.const (.bool false))),
  .kp [0]]
def f20r1 : List I := [.op (.call (some 15) 52 []),
  .op (.un 16 .not (.tmp 15)),
  .kp [0, 16]]
def f20r2 : List I := [.op (.mov 2 (.const (.bool false))),
  .kp [2]]
def f20r3 : List I := [.op (.mov 17 (.tmp 0)),
  .op (.call (some 18) 53 [(.tmp 17), (.const (.int .i64 50))]),
  .op (.un 19 .not (.tmp 18)),
  .kp [0, 19]]
def f20r4 : List I := [.op (.mov 2 (.const (.bool true))),
  .kp [2]]
def f20r5 : List I := [.op (.new 3 116 [.int .i64 0, .int .i64 0, .int .i64 0, .int .i64 0, .int .i64 0, .int .i64 0, .slice none 0 0, .slice none 0 0, .slice none 0 0]),
  .kp [0, 3]]
def f20r6 : List I := [.op (.mov 4 (.const (.int .i64 0))),
  .kp [0, 3, 4]]
def f20r7 : List I := [.op (.mov 20 (.tmp 4)),
  .op (.mov 21 (.tmp 0)),
  .op (.len 22 true (.tmp 21)),
  .op (.bin 23 .lss (.tmp 20) (.tmp 22)),
  .kp [0, 3, 4, 23]]
def f20r8 : L := (.one [.op (.ld 26 (some 9) (.tmp 3)),
  .op (.mov 27 (.tmp 0)),
  .op (.mov 28 (.tmp 4)),
  .op (.iad 29 14 (.tmp 27) (.tmp 28)),
  .op (.ld 30 (some 14) (.tmp 29))] (.alt (.one [.op (.call (some 31) 54 [(.tmp 26), (.tmp 30), (.const (.bool false))]),
  .op (.new 5 43 [.int .i64 0, .int .i64 0, .int .i64 0, .int .i64 0, .int .i64 0, .int .i64 0, .int .i64 0, .int .i64 0, .int .i64 0, .int .i64 0, .int .i64 0, .bool false, .slice none 0 0, .slice none 0 0]),
  .op (.st 14 (.tmp 5) (.tmp 31)),
  .kp [0, 3, 4, 5]] .nil) (.one [.op (.new 5 43 [.int .i64 0, .int .i64 0, .int .i64 0, .int .i64 0, .int .i64 0, .int .i64 0, .int .i64 0, .int .i64 0, .int .i64 0, .int .i64 0, .int .i64 0, .bool false, .slice none 0 0, .slice none 0 0]),
  .op (.call (some 31) 54 [(.tmp 26), (.tmp 30), (.const (.bool false))]),
  .op (.st 14 (.tmp 5) (.tmp 31)),
  .kp [0, 3, 4, 5]] .nil)))
def f20r9 : List I := [.op (.ld 33 (some 9) (.tmp 3)),
  .op (.ld 34 (some 14) (.tmp 5)),
  .op (.call (some 35) 56 [(.tmp 33), (.tmp 34)]),
  .op (.mov 32 (.tmp 35)),
  .op (.ext 36 (.tmp 32) 0),
  .op (.ext 37 (.tmp 32) 1),
  .op (.new 6 116 [.int .i64 0, .int .i64 0, .int .i64 0, .int .i64 0, .int .i64 0, .int .i64 0, .slice none 0 0, .slice none 0 0, .slice none 0 0]),
  .op (.new 7 47 [.int .i64 0, .slice none 0 0, .int .i64 0, .int .i64 0, .int .i64 0, .int .i64 0, .int .i64 0, .int .i64 0, .int .i64 0, .int .i64 0, .bool false]),
  .op (.st 9 (.tmp 6) (.tmp 36)),
  .op (.st 11 (.tmp 7) (.tmp 37)),
  .kp [0, 3, 4, 5, 6, 7]]
def f20r10 : List I := [.op (.fad 38 6 (.tmp 3)),
  .op (.ld 39 none (.tmp 38)),
  .op (.fad 40 4 (.tmp 5)),
  .op (.ld 41 (some 4) (.tmp 40)),
  .op (.call (some 42) 70 [(.tmp 39), (.tmp 41)]),
  .op (.mov 8 (.tmp 42)),
  .kp [0, 3, 4, 5, 6, 7, 8]]
def f20r11 : List I := [.op (.mov 9 (.const (.int .i64 0))),
  .kp [0, 3, 4, 5, 6, 7, 8, 9]]
def f20r12b : List I := [.op (.mov 55 (.tmp 54)),
  .sc 55 true 5,
  .g 55 true (.mov 56 (.tmp 9)),
  .g 55 true (.fad 57 13 (.tmp 5)),
  .g 55 true (.ld 58 none (.tmp 57)),
  .g 55 true (.len 59 true (.tmp 58)),
  .g 55 true (.bin 60 .lss (.tmp 56) (.tmp 59)),
  .op (.pick 61 (.tmp 55) (.tmp 60) (.const (.bool false))),
  .kp [61, 0, 3, 4, 5, 6, 7, 8, 9]]
def f20r12a : List I := .op (.mov 51 (.tmp 50)) ::
  .sc 51 true 2 ::
  .g 51 true (.mov 52 (.tmp 8)) ::
  .g 51 true (.un 53 .not (.tmp 52)) ::
  .op (.pick 54 (.tmp 51) (.tmp 53) (.const (.bool false))) ::
  .kp [54, 0, 3, 4, 5, 6, 7, 8, 9] ::
  f20r12b
def f20r12 : List I := .op (.fad 43 0 (.tmp 5)) ::
  .op (.ld 44 none (.tmp 43)) ::
  .op (.bin 45 .eql (.tmp 44) (.const (.int .i64 3))) ::
  .op (.mov 46 (.tmp 45)) ::
  .sc 46 true 3 ::
  .g 46 true (.fad 47 0 (.tmp 7)) ::
  .g 46 true (.ld 48 none (.tmp 47)) ::
  .g 46 true (.bin 49 .eql (.tmp 48) (.const (.int .i64 0))) ::
  .op (.pick 50 (.tmp 46) (.tmp 49) (.const (.bool false))) ::
  .kp [50, 0, 3, 4, 5, 6, 7, 8, 9] ::
  f20r12a
def f20r13 : L := (.one [.op (.fad 65 6 (.tmp 6)),
  .op (.ld 66 none (.tmp 65)),
  .op (.fad 67 13 (.tmp 5)),
  .op (.ld 68 none (.tmp 67)),
  .op (.mov 69 (.tmp 9)),
  .op (.iad 70 3 (.tmp 68) (.tmp 69)),
  .op (.fad 71 0 (.tmp 70)),
  .op (.ld 72 none (.tmp 71))] (.alt (.one [.op (.call (some 73) 71 [(.tmp 66), (.tmp 72)]),
  .op (.mov 64 (.tmp 73)),
  .op (.ext 74 (.tmp 64) 0),
  .op (.ext 75 (.tmp 64) 1),
  .op (.new 10 72 [.int .i64 0, .int .i64 0, .int .i64 0, .int .i64 0, .int .i64 0, .int .i64 0, .int .i64 0, .bool false, .string ⟨#[]⟩]),
  .op (.st 9 (.tmp 10) (.tmp 74)),
  .op (.mov 11 (.tmp 75)),
  .kp [0, 3, 4, 5, 6, 7, 8, 9, 10, 11]] .nil) (.one [.op (.new 10 72 [.int .i64 0, .int .i64 0, .int .i64 0, .int .i64 0, .int .i64 0, .int .i64 0, .int .i64 0, .bool false, .string ⟨#[]⟩]),
  .op (.call (some 73) 71 [(.tmp 66), (.tmp 72)]),
  .op (.mov 64 (.tmp 73)),
  .op (.ext 74 (.tmp 64) 0),
  .op (.ext 75 (.tmp 64) 1),
  .op (.st 9 (.tmp 10) (.tmp 74)),
  .op (.mov 11 (.tmp 75)),
  .kp [0, 3, 4, 5, 6, 7, 8, 9, 10, 11]] .nil)))
def f20r14b : List I := [.op (.mov 92 (.tmp 91)),
  .sc 92 false 5,
  .g 92 false (.fad 93 4 (.tmp 10)),
  .g 92 false (.ld 94 none (.tmp 93)),
  .g 92 false (.fad 95 3 (.tmp 5)),
  .g 92 false (.ld 96 none (.tmp 95)),
  .g 92 false (.bin 97 .neq (.tmp 94) (.tmp 96)),
  .op (.pick 98 (.tmp 92) (.const (.bool true)) (.tmp 97)),
  .kp [98, 0, 3, 4, 5, 6, 7, 8, 9]]
def f20r14a : List I := .op (.mov 85 (.tmp 84)) ::
  .sc 85 false 5 ::
  .g 85 false (.fad 86 5 (.tmp 10)) ::
  .g 85 false (.ld 87 (some 2) (.tmp 86)) ::
  .g 85 false (.fad 88 8 (.tmp 5)) ::
  .g 85 false (.ld 89 (some 2) (.tmp 88)) ::
  .g 85 false (.eqa 90 true [.i .i64, .i .i64] (.tmp 87) (.tmp 89)) ::
  .op (.pick 91 (.tmp 85) (.const (.bool true)) (.tmp 90)) ::
  .kp [91, 0, 3, 4, 5, 6, 7, 8, 9, 10] ::
  f20r14b
def f20r14 : List I := .op (.mov 76 (.tmp 11)) ::
  .op (.un 77 .not (.tmp 76)) ::
  .op (.mov 78 (.tmp 77)) ::
  .sc 78 false 5 ::
  .g 78 false (.fad 79 0 (.tmp 10)) ::
  .g 78 false (.ld 80 (some 4) (.tmp 79)) ::
  .g 78 false (.fad 81 4 (.tmp 5)) ::
  .g 78 false (.ld 82 (some 4) (.tmp 81)) ::
  .g 78 false (.eqa 83 true [.i .i64, .i .i64, .i .i64, .i .i64] (.tmp 80) (.tmp 82)) ::
  .op (.pick 84 (.tmp 78) (.const (.bool true)) (.tmp 83)) ::
  .kp [84, 0, 3, 4, 5, 6, 7, 8, 9, 10] ::
  f20r14a
def f20r15 : List I := [.op (.mov 2 (.const (.bool false))),
  .kp [2]]
def f20r16 : List I := [.op (.mov 62 (.tmp 9)),
  .op (.bin 63 .add (.tmp 62) (.const (.int .i64 1))),
  .op (.mov 9 (.tmp 63)),
  .kp [0, 3, 4, 5, 6, 7, 8, 9]]
def f20r17a : List I := [.op (.mov 107 (.tmp 106)),
  .sc 107 true 6,
  .g 107 true (.fad 108 6 (.tmp 3)),
  .g 107 true (.ld 109 none (.tmp 108)),
  .g 107 true (.fad 110 6 (.tmp 6)),
  .g 107 true (.ld 111 none (.tmp 110)),
  .g 107 true (.call (some 112) 43 [(.tmp 109), (.tmp 111)]),
  .g 107 true (.un 113 .not (.tmp 112)),
  .op (.pick 114 (.tmp 107) (.tmp 113) (.const (.bool false))),
  .kp [114, 0, 3, 4, 5, 6]]
def f20r17 : List I := .op (.fad 99 0 (.tmp 5)) ::
  .op (.ld 100 none (.tmp 99)) ::
  .op (.bin 101 .eql (.tmp 100) (.const (.int .i64 3))) ::
  .op (.mov 102 (.tmp 101)) ::
  .sc 102 true 3 ::
  .g 102 true (.fad 103 0 (.tmp 7)) ::
  .g 102 true (.ld 104 none (.tmp 103)) ::
  .g 102 true (.bin 105 .neq (.tmp 104) (.const (.int .i64 0))) ::
  .op (.pick 106 (.tmp 102) (.tmp 105) (.const (.bool false))) ::
  .kp [106, 0, 3, 4, 5, 6] ::
  f20r17a
def f20r18 : List I := [.op (.mov 2 (.const (.bool false))),
  .kp [2]]
def f20r19 : List I := [.op (.mov 12 (.const (.int .i64 0))),
  .kp [0, 3, 4, 5, 6, 12]]
def f20r20 : List I := [.op (.mov 115 (.tmp 12)),
  .op (.fad 116 6 (.tmp 3)),
  .op (.ld 117 none (.tmp 116)),
  .op (.len 118 true (.tmp 117)),
  .op (.bin 119 .lss (.tmp 115) (.tmp 118)),
  .kp [0, 3, 4, 5, 6, 12, 119]]
def f20r21 : L := (.one [.op (.fad 123 6 (.tmp 6)),
  .op (.ld 124 none (.tmp 123)),
  .op (.fad 125 6 (.tmp 3)),
  .op (.ld 126 none (.tmp 125)),
  .op (.mov 127 (.tmp 12)),
  .op (.iad 128 12 (.tmp 126) (.tmp 127)),
  .op (.fad 129 0 (.tmp 128)),
  .op (.ld 130 none (.tmp 129))] (.alt (.one [.op (.call (some 131) 71 [(.tmp 124), (.tmp 130)]),
  .op (.mov 122 (.tmp 131)),
  .op (.ext 132 (.tmp 122) 0),
  .op (.ext 133 (.tmp 122) 1),
  .op (.new 13 72 [.int .i64 0, .int .i64 0, .int .i64 0, .int .i64 0, .int .i64 0, .int .i64 0, .int .i64 0, .bool false, .string ⟨#[]⟩]),
  .op (.st 9 (.tmp 13) (.tmp 132)),
  .op (.mov 14 (.tmp 133)),
  .kp [0, 3, 4, 5, 6, 12, 13, 14]] .nil) (.one [.op (.new 13 72 [.int .i64 0, .int .i64 0, .int .i64 0, .int .i64 0, .int .i64 0, .int .i64 0, .int .i64 0, .bool false, .string ⟨#[]⟩]),
  .op (.call (some 131) 71 [(.tmp 124), (.tmp 130)]),
  .op (.mov 122 (.tmp 131)),
  .op (.ext 132 (.tmp 122) 0),
  .op (.ext 133 (.tmp 122) 1),
  .op (.st 9 (.tmp 13) (.tmp 132)),
  .op (.mov 14 (.tmp 133)),
  .kp [0, 3, 4, 5, 6, 12, 13, 14]] .nil)))
def f20r22a : List I := [.op (.mov 158 (.tmp 157)),
  .sc 158 true 13,
  .g 158 true (.mov 159 (.tmp 14)),
  .g 158 true (.un 160 .not (.tmp 159)),
  .g 158 true (.mov 161 (.tmp 160)),
  .sc 161 false 8,
  .g 161 false (.ld 162 (some 9) (.tmp 13)),
  .g 161 false (.fad 163 6 (.tmp 3)),
  .g 161 false (.ld 164 none (.tmp 163)),
  .g 161 false (.mov 165 (.tmp 12)),
  .g 161 false (.iad 166 12 (.tmp 164) (.tmp 165)),
  .g 161 false (.fad 167 3 (.tmp 166)),
  .g 161 false (.ld 168 (some 9) (.tmp 167)),
  .g 161 false (.eqa 169 true [.i .i64, .i .i64, .i .i64, .i .i64, .i .i64, .i .i64, .i .i64, .b, .s] (.tmp 162) (.tmp 168)),
  .g 158 true (.pick 170 (.tmp 161) (.const (.bool true)) (.tmp 169)),
  .op (.pick 171 (.tmp 158) (.tmp 170) (.const (.bool false))),
  .kp [171, 0, 3, 4, 5, 6, 12]]
def f20r22 : List I := .op (.fad 134 6 (.tmp 3)) ::
  .op (.ld 135 none (.tmp 134)) ::
  .op (.mov 136 (.tmp 12)) ::
  .op (.iad 137 12 (.tmp 135) (.tmp 136)) ::
  .op (.fad 138 2 (.tmp 137)) ::
  .op (.ld 139 none (.tmp 138)) ::
  .op (.mov 140 (.tmp 139)) ::
  .sc 140 true 17 ::
  .g 140 true (.fad 141 0 (.tmp 5)) ::
  .g 140 true (.ld 142 none (.tmp 141)) ::
  .g 140 true (.bin 143 .eql (.tmp 142) (.const (.int .i64 5))) ::
  .g 140 true (.mov 144 (.tmp 143)) ::
  .sc 144 true 10 ::
  .g 144 true (.fad 145 4 (.tmp 5)) ::
  .g 144 true (.ld 146 (some 4) (.tmp 145)) ::
  .g 144 true (.fad 147 6 (.tmp 3)) ::
  .g 144 true (.ld 148 none (.tmp 147)) ::
  .g 144 true (.mov 149 (.tmp 12)) ::
  .g 144 true (.iad 150 12 (.tmp 148) (.tmp 149)) ::
  .g 144 true (.fad 151 3 (.tmp 150)) ::
  .g 144 true (.fad 152 0 (.tmp 151)) ::
  .g 144 true (.ld 153 (some 4) (.tmp 152)) ::
  .g 144 true (.eqa 154 false [.i .i64, .i .i64, .i .i64, .i .i64] (.tmp 146) (.tmp 153)) ::
  .g 140 true (.pick 155 (.tmp 144) (.tmp 154) (.const (.bool false))) ::
  .g 140 true (.un 156 .not (.tmp 155)) ::
  .op (.pick 157 (.tmp 140) (.tmp 156) (.const (.bool false))) ::
  .kp [157, 0, 3, 4, 5, 6, 12, 13, 14] ::
  f20r22a
def f20r23 : List I := [.op (.mov 2 (.const (.bool false))),
  .kp [2]]
def f20r24 : List I := [.op (.mov 120 (.tmp 12)),
  .op (.bin 121 .add (.tmp 120) (.const (.int .i64 1))),
  .op (.mov 12 (.tmp 121)),
  .kp [0, 3, 4, 5, 6, 12]]
def f20r25 : List I := [.op (.ld 172 (some 9) (.tmp 6)),
  .op (.st 9 (.tmp 3) (.tmp 172)),
  .kp [0, 3, 4]]
def f20r26 : List I := [.op (.mov 24 (.tmp 4)),
  .op (.bin 25 .add (.tmp 24) (.const (.int .i64 1))),
  .op (.mov 4 (.tmp 25)),
  .kp [0, 3, 4]]
def f20r27a : List I := [.op (.mov 2 (.tmp 181)),
  .kp [2]]
def f20r27 : List I := .op (.fad 173 6 (.tmp 3)) ::
  .op (.ld 174 none (.tmp 173)) ::
  .op (.call (some 175) 50 [(.tmp 174)]) ::
  .op (.mov 176 (.tmp 175)) ::
  .sc 176 false 4 ::
  .g 176 false (.fad 177 6 (.tmp 3)) ::
  .g 176 false (.ld 178 none (.tmp 177)) ::
  .g 176 false (.len 179 true (.tmp 178)) ::
  .g 176 false (.bin 180 .gtr (.tmp 179) (.const (.int .i64 0))) ::
  .op (.pick 181 (.tmp 176) (.const (.bool true)) (.tmp 180)) ::
  .kp [181] ::
  f20r27a
def f20c3 : C := (.seq (.reg f20r2) .ret)
def f20c6 : C := (.seq (.reg f20r4) .ret)
def f20c24 : C := (.seq (.reg f20r15) .ret)
def f20c23 : C := (.cond (.tmp 98) f20c24 .skip)
def f20c22 : C := (.seq (.reg f20r14) f20c23)
def f20c21 : C := (.seq (.drt f20r13) f20c22)
def f20c25 : C := (.reg f20r16)
def f20c20 : C := (.seq (.block 3 f20c21) f20c25)
def f20c19 : C := (.seq (.cond (.tmp 61) .skip (.exit 2)) f20c20)
def f20c18 : C := (.seq (.reg f20r12) f20c19)
def f20c28 : C := (.seq (.reg f20r18) .ret)
def f20c37 : C := (.seq (.reg f20r23) .ret)
def f20c36 : C := (.cond (.tmp 171) f20c37 .skip)
def f20c35 : C := (.seq (.drw f20r22) f20c36)
def f20c34 : C := (.seq (.drt f20r21) f20c35)
def f20c38 : C := (.reg f20r24)
def f20c33 : C := (.seq (.block 5 f20c34) f20c38)
def f20c32 : C := (.seq (.cond (.tmp 119) .skip (.exit 4)) f20c33)
def f20c31 : C := (.seq (.reg f20r20) f20c32)
def f20c39 : C := (.reg f20r25)
def f20c30 : C := (.seq (.block 4 (.loop f20c31)) f20c39)
def f20c29 : C := (.seq (.reg f20r19) f20c30)
def f20c27 : C := (.seq (.cond (.tmp 114) f20c28 .skip) f20c29)
def f20c26 : C := (.seq (.reg f20r17) f20c27)
def f20c17 : C := (.seq (.block 2 (.loop f20c18)) f20c26)
def f20c16 : C := (.seq (.reg f20r11) f20c17)
def f20c15 : C := (.seq (.reg f20r10) f20c16)
def f20c14 : C := (.seq (.reg f20r9) f20c15)
def f20c13 : C := (.seq (.drt f20r8) f20c14)
def f20c40 : C := (.reg f20r26)
def f20c12 : C := (.seq (.block 1 f20c13) f20c40)
def f20c11 : C := (.seq (.cond (.tmp 23) .skip (.exit 0)) f20c12)
def f20c10 : C := (.seq (.reg f20r7) f20c11)
def f20c41 : C := (.seq (.reg f20r27) .ret)
def f20c9 : C := (.seq (.block 0 (.loop f20c10)) f20c41)
def f20c8 : C := (.seq (.reg f20r6) f20c9)
def f20c7 : C := (.seq (.reg f20r5) f20c8)
def f20c5 : C := (.seq (.cond (.tmp 19) f20c6 .skip) f20c7)
def f20c4 : C := (.seq (.reg f20r3) f20c5)
def f20c2 : C := (.seq (.cond (.tmp 16) f20c3 .skip) f20c4)
def f20c1 : C := (.seq (.reg f20r1) f20c2)
def f20c0 : C := (.seq (.reg f20r0) f20c1)
theorem f20cmp : cmpF Try.prog Try.f20 [.l [.o 0, .kp [0]],
  .l [.o 0, .o 1, .kp [0, 16]],
  .l [.o 0, .kp [2]],
  .l [.o 0, .o 1, .o 2, .kp [0, 19]],
  .l [.o 0, .kp [2]],
  .l [.o 0, .kp [0, 3]],
  .l [.o 0, .kp [0, 3, 4]],
  .l [.o 0, .o 1, .o 2, .o 3, .kp [0, 3, 4, 23]],
  .t (.one [.o 0, .o 1, .o 2, .o 3, .o 4] (.alt (.one [.o 5, .o 6, .o 7, .kp [0, 3, 4, 5]] .nil) (.one [.o 6, .o 5, .o 7, .kp [0, 3, 4, 5]] .nil))),
  .l [.o 0, .o 1, .o 2, .o 3, .o 4, .o 5, .o 6, .o 7, .o 8, .o 9, .kp [0, 3, 4, 5, 6, 7]],
  .l [.o 0, .o 1, .o 2, .o 3, .o 4, .o 5, .kp [0, 3, 4, 5, 6, 7, 8]],
  .l [.o 0, .kp [0, 3, 4, 5, 6, 7, 8, 9]],
  .l [.o 0, .o 1, .o 2, .o 3, .sc 46 true 3, .o 4, .o 5, .o 6, .o 7, .kp [50, 0, 3, 4, 5, 6, 7, 8, 9], .o 8, .sc 51 true 2, .o 9, .o 10, .o 11, .kp [54, 0, 3, 4, 5, 6, 7, 8, 9], .o 12, .sc 55 true 5, .o 13, .o 14, .o 15, .o 16, .o 17, .o 18, .kp [61, 0, 3, 4, 5, 6, 7, 8, 9]],
  .t (.one [.o 0, .o 1, .o 2, .o 3, .o 4, .o 5, .o 6, .o 7] (.alt (.one [.o 8, .o 9, .o 10, .o 11, .o 12, .o 13, .o 14, .kp [0, 3, 4, 5, 6, 7, 8, 9, 10, 11]] .nil) (.one [.o 12, .o 8, .o 9, .o 10, .o 11, .o 13, .o 14, .kp [0, 3, 4, 5, 6, 7, 8, 9, 10, 11]] .nil))),
  .l [.o 0, .o 1, .o 2, .sc 78 false 5, .o 3, .o 4, .o 5, .o 6, .o 7, .o 8, .kp [84, 0, 3, 4, 5, 6, 7, 8, 9, 10], .o 9, .sc 85 false 5, .o 10, .o 11, .o 12, .o 13, .o 14, .o 15, .kp [91, 0, 3, 4, 5, 6, 7, 8, 9, 10], .o 16, .sc 92 false 5, .o 17, .o 18, .o 19, .o 20, .o 21, .o 22, .kp [98, 0, 3, 4, 5, 6, 7, 8, 9]],
  .l [.o 0, .kp [2]],
  .l [.o 0, .o 1, .o 2, .kp [0, 3, 4, 5, 6, 7, 8, 9]],
  .l [.o 0, .o 1, .o 2, .o 3, .sc 102 true 3, .o 4, .o 5, .o 6, .o 7, .kp [106, 0, 3, 4, 5, 6], .o 8, .sc 107 true 6, .o 9, .o 10, .o 11, .o 12, .o 13, .o 14, .o 15, .kp [114, 0, 3, 4, 5, 6]],
  .l [.o 0, .kp [2]],
  .l [.o 0, .kp [0, 3, 4, 5, 6, 12]],
  .l [.o 0, .o 1, .o 2, .o 3, .o 4, .kp [0, 3, 4, 5, 6, 12, 119]],
  .t (.one [.o 0, .o 1, .o 2, .o 3, .o 4, .o 5, .o 6, .o 7] (.alt (.one [.o 8, .o 9, .o 10, .o 11, .o 12, .o 13, .o 14, .kp [0, 3, 4, 5, 6, 12, 13, 14]] .nil) (.one [.o 12, .o 8, .o 9, .o 10, .o 11, .o 13, .o 14, .kp [0, 3, 4, 5, 6, 12, 13, 14]] .nil))),
  .l [.o 0, .o 1, .o 2, .o 3, .o 4, .o 5, .o 6, .sc 140 true 17, .o 7, .o 8, .o 9, .o 10, .sc 144 true 10, .o 11, .o 12, .o 13, .o 14, .o 15, .o 16, .o 17, .o 18, .o 19, .o 20, .o 21, .o 22, .o 23, .kp [157, 0, 3, 4, 5, 6, 12, 13, 14], .o 24, .sc 158 true 13, .o 25, .o 26, .o 27, .sc 161 false 8, .o 28, .o 29, .o 30, .o 31, .o 32, .o 33, .o 34, .o 35, .o 36, .o 37, .kp [171, 0, 3, 4, 5, 6, 12]],
  .l [.o 0, .kp [2]],
  .l [.o 0, .o 1, .o 2, .kp [0, 3, 4, 5, 6, 12]],
  .l [.o 0, .o 1, .kp [0, 3, 4]],
  .l [.o 0, .o 1, .o 2, .kp [0, 3, 4]],
  .l [.o 0, .o 1, .o 2, .o 3, .sc 176 false 4, .o 4, .o 5, .o 6, .o 7, .o 8, .kp [181], .o 9, .kp [2]]] = some (f20c0, [.tmp 2]) := by kernel_rfl
theorem f20ok {args : List Value} {h : Heap} {R : Value → Heap → Prop} (hn : args.length ≤ 182) (H : wC Try.prog f20c0 (endW [.tmp 2] R) (envOf 0 args) h) : CallsH Try.prog 20 args h R :=
  fn_ok2 Try.func20 f20cmp hn H
section
variable {Q : X → Env → Heap → Prop} {σ : Env} {h : Heap}
theorem f20c6_eq : wC Try.prog f20c6 Q σ h = (wL Try.prog none f20r4 0 (fun σ h => Q .ret σ h) σ h) := rfl
theorem f20c23_eq : wC Try.prog f20c23 Q σ h = (bd (evO σ (.tmp 98)) fun v => bd (asB v) fun t => br t (wC Try.prog f20c24 Q σ h) (Q .normal σ h)) := rfl
theorem f20c22_eq : wC Try.prog f20c22 Q σ h = (wL Try.prog none f20r14 0 (fun σ h => wC Try.prog f20c23 Q σ h) σ h) := rfl
theorem f20c21_eq : wC Try.prog f20c21 Q σ h = (drtW Try.prog f20r13 (fun σ h => wC Try.prog f20c22 Q σ h) σ h) := rfl
theorem f20c25_eq : wC Try.prog f20c25 Q σ h = (wL Try.prog none f20r16 0 (fun σ h => Q .normal σ h) σ h) := rfl
theorem f20c20_eq : wC Try.prog f20c20 Q σ h = (wC Try.prog f20c21 (X.inBlock 3 (X.then (fun σ h => wC Try.prog f20c25 Q σ h) Q)) σ h) := rfl
theorem f20c19_eq : wC Try.prog f20c19 Q σ h = (bd (evO σ (.tmp 61)) fun v => bd (asB v) fun t => br t (wC Try.prog f20c20 Q σ h) (Q (.exit 2) σ h)) := rfl
theorem f20c18_eq : wC Try.prog f20c18 Q σ h = (wL Try.prog none f20r12 0 (fun σ h => wC Try.prog f20c19 Q σ h) σ h) := rfl
theorem f20c36_eq : wC Try.prog f20c36 Q σ h = (bd (evO σ (.tmp 171)) fun v => bd (asB v) fun t => br t (wC Try.prog f20c37 Q σ h) (Q .normal σ h)) := rfl
theorem f20c35_eq : wC Try.prog f20c35 Q σ h = (drwW Try.prog f20r22 (fun σ h => wC Try.prog f20c36 Q σ h) σ h) := rfl
theorem f20c34_eq : wC Try.prog f20c34 Q σ h = (drtW Try.prog f20r21 (fun σ h => wC Try.prog f20c35 Q σ h) σ h) := rfl
theorem f20c38_eq : wC Try.prog f20c38 Q σ h = (wL Try.prog none f20r24 0 (fun σ h => Q .normal σ h) σ h) := rfl
theorem f20c33_eq : wC Try.prog f20c33 Q σ h = (wC Try.prog f20c34 (X.inBlock 5 (X.then (fun σ h => wC Try.prog f20c38 Q σ h) Q)) σ h) := rfl
theorem f20c32_eq : wC Try.prog f20c32 Q σ h = (bd (evO σ (.tmp 119)) fun v => bd (asB v) fun t => br t (wC Try.prog f20c33 Q σ h) (Q (.exit 4) σ h)) := rfl
theorem f20c31_eq : wC Try.prog f20c31 Q σ h = (wL Try.prog none f20r20 0 (fun σ h => wC Try.prog f20c32 Q σ h) σ h) := rfl
theorem f20c39_eq : wC Try.prog f20c39 Q σ h = (wL Try.prog none f20r25 0 (fun σ h => Q .normal σ h) σ h) := rfl
theorem f20c30_eq : wC Try.prog f20c30 Q σ h = (loopW (wC Try.prog f20c31) (X.inBlock 4 (X.then (fun σ h => wC Try.prog f20c39 Q σ h) Q)) σ h) := rfl
theorem f20c29_eq : wC Try.prog f20c29 Q σ h = (wL Try.prog none f20r19 0 (fun σ h => wC Try.prog f20c30 Q σ h) σ h) := rfl
theorem f20c27_eq : wC Try.prog f20c27 Q σ h = (bd (evO σ (.tmp 114)) fun v => bd (asB v) fun t => br t (wC Try.prog f20c28 (X.then (fun σ h => wC Try.prog f20c29 Q σ h) Q) σ h) (wC Try.prog f20c29 Q σ h)) := rfl
theorem f20c26_eq : wC Try.prog f20c26 Q σ h = (wL Try.prog none f20r17 0 (fun σ h => wC Try.prog f20c27 Q σ h) σ h) := rfl
theorem f20c17_eq : wC Try.prog f20c17 Q σ h = (loopW (wC Try.prog f20c18) (X.inBlock 2 (X.then (fun σ h => wC Try.prog f20c26 Q σ h) Q)) σ h) := rfl
theorem f20c16_eq : wC Try.prog f20c16 Q σ h = (wL Try.prog none f20r11 0 (fun σ h => wC Try.prog f20c17 Q σ h) σ h) := rfl
theorem f20c15_eq : wC Try.prog f20c15 Q σ h = (wL Try.prog none f20r10 0 (fun σ h => wC Try.prog f20c16 Q σ h) σ h) := rfl
theorem f20c14_eq : wC Try.prog f20c14 Q σ h = (wL Try.prog none f20r9 0 (fun σ h => wC Try.prog f20c15 Q σ h) σ h) := rfl
theorem f20c13_eq : wC Try.prog f20c13 Q σ h = (drtW Try.prog f20r8 (fun σ h => wC Try.prog f20c14 Q σ h) σ h) := rfl
theorem f20c40_eq : wC Try.prog f20c40 Q σ h = (wL Try.prog none f20r26 0 (fun σ h => Q .normal σ h) σ h) := rfl
theorem f20c12_eq : wC Try.prog f20c12 Q σ h = (wC Try.prog f20c13 (X.inBlock 1 (X.then (fun σ h => wC Try.prog f20c40 Q σ h) Q)) σ h) := rfl
theorem f20c11_eq : wC Try.prog f20c11 Q σ h = (bd (evO σ (.tmp 23)) fun v => bd (asB v) fun t => br t (wC Try.prog f20c12 Q σ h) (Q (.exit 0) σ h)) := rfl
theorem f20c10_eq : wC Try.prog f20c10 Q σ h = (wL Try.prog none f20r7 0 (fun σ h => wC Try.prog f20c11 Q σ h) σ h) := rfl
theorem f20c41_eq : wC Try.prog f20c41 Q σ h = (wL Try.prog none f20r27 0 (fun σ h => Q .ret σ h) σ h) := rfl
theorem f20c9_eq : wC Try.prog f20c9 Q σ h = (loopW (wC Try.prog f20c10) (X.inBlock 0 (X.then (fun σ h => wC Try.prog f20c41 Q σ h) Q)) σ h) := rfl
theorem f20c8_eq : wC Try.prog f20c8 Q σ h = (wL Try.prog none f20r6 0 (fun σ h => wC Try.prog f20c9 Q σ h) σ h) := rfl
theorem f20c7_eq : wC Try.prog f20c7 Q σ h = (wL Try.prog none f20r5 0 (fun σ h => wC Try.prog f20c8 Q σ h) σ h) := rfl
theorem f20c5_eq : wC Try.prog f20c5 Q σ h = (bd (evO σ (.tmp 19)) fun v => bd (asB v) fun t => br t (wC Try.prog f20c6 (X.then (fun σ h => wC Try.prog f20c7 Q σ h) Q) σ h) (wC Try.prog f20c7 Q σ h)) := rfl
theorem f20c4_eq : wC Try.prog f20c4 Q σ h = (wL Try.prog none f20r3 0 (fun σ h => wC Try.prog f20c5 Q σ h) σ h) := rfl
theorem f20c2_eq : wC Try.prog f20c2 Q σ h = (bd (evO σ (.tmp 16)) fun v => bd (asB v) fun t => br t (wC Try.prog f20c3 (X.then (fun σ h => wC Try.prog f20c4 Q σ h) Q) σ h) (wC Try.prog f20c4 Q σ h)) := rfl
theorem f20c1_eq : wC Try.prog f20c1 Q σ h = (wL Try.prog none f20r1 0 (fun σ h => wC Try.prog f20c2 Q σ h) σ h) := rfl
theorem f20c0_eq : wC Try.prog f20c0 Q σ h = (wL Try.prog none f20r0 0 (fun σ h => wC Try.prog f20c1 Q σ h) σ h) := rfl
end
end Go.Proofs.Ytefghfgmkndikaa
namespace Go.Proofs.Ytefghfgmkndikaa
open Go Go.AX
theorem held_self {cs : List Cell} (g : Good cs) {c : Cell} (hc : c ∈ cs) (hl : c.locked = true) : heldK cs c.key = (c.lock, true) := by
  unfold heldK
  rw [cellK_self g.sorted hc]
  simp [hl]
/-- What a Prepare locks. -/
theorem prep_locks {n : Nat} {p : Prt} {c : Cmd} (g : GdP n p) (hk : c.s.kind = 3) (h0 : (applyP p c).2.s.err = 0) (hm : mineL p.cells c.s.by_ = false) (w : Wri) (hw : w ∈ c.writes) :
    ∃ l : Lck, heldK (applyP p c).1.cells w.key = (l, true) ∧ l.by_ = c.s.by_ ∧ l.at_ = c.s.at_ ∧ l.home = c.s.home := by
  by_cases he : p.s.epoch = 0 ∨ c.s.epoch ≠ p.s.epoch
  · rw [(other_law p c (by omega)).1 he] at h0
    exact absurd h0 (by show ¬ (25 : Int) = 0; decide)
  · have he1 : ¬ p.s.epoch = 0 := fun h => he (.inl h)
    have he2 : c.s.epoch = p.s.epoch := Decidable.byContradiction fun h => he (.inr h)
    have hap := applyP_own p c (by omega) he1 he2
    rw [does_prep p c hk] at hap
    by_cases hr : (prepP p c).2.s.err = 0
    · rw [if_pos hr] at hap
      have hc : (prepP p c).1.cells = c.writes.foldl (fun cs w => lockL cs w (lkC c)) p.cells := by
        revert hr
        unfold prepP
        split
        · intro h; cases h
        · rw [hm]
          simp only [Bool.false_eq_true, if_false]
          split
          · intro h; cases h
          · split
            · intro h; cases h
            · split
              · intro h; cases h
              · intro _; rfl
      rw [hap, hc]
      obtain ⟨u, hu⟩ := locks_held (l := lkC c) c.writes g.sz.cells.good w hw
      exact ⟨_, hu, rfl, rfl, rfl⟩
    · rw [if_neg hr] at hap
      rw [hap] at h0
      exact absurd h0 hr
/-- Nobody but a Settle of its attempt unlocks. -/
theorem keeps_lock {n : Nat} {p : Prt} {c : Cmd} (g : GdP n p) {x : Cell} (hx : x ∈ p.cells) (hl : x.locked = true) (hn : ¬ (c.s.kind = 5 ∧ c.s.by_ = x.lock.by_)) : heldK (applyP p c).1.cells x.key = (x.lock, true) := by
  have gg := g.sz.cells.good
  have self := held_self gg hx hl
  rcases applyP_cases p c with h | ⟨_, h⟩ | ⟨_, _, h⟩
  · rw [h]; exact self
  · rw [h]
    unfold leaseP
    split
    · exact self
    · exact self
  · rw [h]
    unfold doesP
    split
    · rcases readP_1 p c with e | e <;> rw [e] <;> exact self
    split
    · unfold prepP
      split
      · exact self
      · split
        · exact self
        · split
          · exact self
          · split
            · exact self
            · split
              · exact self
              · rename_i hf
                show heldK (c.writes.foldl (fun cs w => lockL cs w (lkC c)) p.cells) x.key = _
                rw [locks_apart c.writes gg x.key, self]
                intro w hw e
                rw [List.find?_eq_none] at hf
                have := hf w hw
                rw [← e, self] at this
                exact absurd rfl this
    split
    · split <;> exact self
    split
    · rename_i h5
      show heldK (settleL p.cells c.s.by_ c.s.yes) x.key = _
      unfold heldK
      have hnb : (x.locked && decide (x.lock.by_ = c.s.by_)) = false := by
        rw [hl, Bool.true_and, decide_eq_false_iff_not]
        exact fun e => hn ⟨h5, e.symm⟩
      rw [cellK_settle gg, cellK_self gg.sorted hx, Option.bind_some, settleC_not hnb, leftC_of (.inl hl)]
      simp [hl]
    split
    · exact self
    split
    · show heldK (trimL p.cells _) x.key = _
      unfold heldK
      rw [cellK_trim gg, cellK_self gg.sorted hx, Option.bind_some, leftC_of (.inl (show (trimC _ x).locked = true from hl))]
      simp [trimC, hl]
    · exact self
set_option maxHeartbeats 4000000 in
theorem locks_ok {a : Option Addr} {n : Nat} (l : List Cmd) (h : Heap) (S : SlM (fun b => b < h.size) h a l) (F : LenM l) {R : Value → Heap → Prop}
    (hR : ∀ h', Ext h h' → R (.bool true) h') : CallsH Try.prog 20 [.slice a l.length n] h R := by
  have hbig : big = 1000000 := rfl
  refine f20ok (by simp) ?_
  (try simp (config := { maxSteps := 1000000 }) (disch := first | exact Nat.le_of_ble_eq_true rfl | omega) only [AXS, AXB, J.dst, reduceIte, Nat.reduceEqDiff, Nat.reduceAdd, Nat.reduceMul, Nat.reduceLT, Nat.reduceLeDiff]); rw [f20c0_eq]; (try simp (config := { maxSteps := 1000000 }) (disch := first | exact Nat.le_of_ble_eq_true rfl | omega) only [AXS, AXB, J.dst, reduceIte, Nat.reduceEqDiff, Nat.reduceAdd, Nat.reduceMul, Nat.reduceLT, Nat.reduceLeDiff, f20r0]); rw [f20c1_eq]; (try simp (config := { maxSteps := 1000000 }) (disch := first | exact Nat.le_of_ble_eq_true rfl | omega) only [AXS, AXB, J.dst, reduceIte, Nat.reduceEqDiff, Nat.reduceAdd, Nat.reduceMul, Nat.reduceLT, Nat.reduceLeDiff, f20r1])
  refine begunP_ok _ ?_
  intro h1 x1
  refine ⟨trivial, ?_⟩
  (try simp (config := { maxSteps := 1000000 }) (disch := first | exact Nat.le_of_ble_eq_true rfl | omega) only [AXS, AXB, J.dst, reduceIte, Nat.reduceEqDiff, Nat.reduceAdd, Nat.reduceMul, Nat.reduceLT, Nat.reduceLeDiff]); rw [f20c2_eq]; (try simp (config := { maxSteps := 1000000 }) (disch := first | exact Nat.le_of_ble_eq_true rfl | omega) only [AXS, AXB, J.dst, reduceIte, Nat.reduceEqDiff, Nat.reduceAdd, Nat.reduceMul, Nat.reduceLT, Nat.reduceLeDiff]); rw [f20c4_eq]; (try simp (config := { maxSteps := 1000000 }) (disch := first | exact Nat.le_of_ble_eq_true rfl | omega) only [AXS, AXB, J.dst, reduceIte, Nat.reduceEqDiff, Nat.reduceAdd, Nat.reduceMul, Nat.reduceLT, Nat.reduceLeDiff, f20r3])
  refine lightP_ok l 50 _ (S.ext x1) F ?_
  intro bl h2 hbl x2
  refine ⟨trivial, ?_⟩
  have x02 := x1.trans x2
  (try simp (config := { maxSteps := 1000000 }) (disch := first | exact Nat.le_of_ble_eq_true rfl | omega) only [AXS, AXB, J.dst, reduceIte, Nat.reduceEqDiff, Nat.reduceAdd, Nat.reduceMul, Nat.reduceLT, Nat.reduceLeDiff]); rw [f20c5_eq]; (try simp (config := { maxSteps := 1000000 }) (disch := first | exact Nat.le_of_ble_eq_true rfl | omega) only [AXS, AXB, J.dst, reduceIte, Nat.reduceEqDiff, Nat.reduceAdd, Nat.reduceMul, Nat.reduceLT, Nat.reduceLeDiff])
  refine ⟨fun hh => ?_, fun hh => ?_⟩
  · (try simp (config := { maxSteps := 1000000 }) (disch := first | exact Nat.le_of_ble_eq_true rfl | omega) only [AXS, AXB, J.dst, reduceIte, Nat.reduceEqDiff, Nat.reduceAdd, Nat.reduceMul, Nat.reduceLT, Nat.reduceLeDiff]); rw [f20c6_eq]; (try simp (config := { maxSteps := 1000000 }) (disch := first | exact Nat.le_of_ble_eq_true rfl | omega) only [AXS, AXB, J.dst, reduceIte, Nat.reduceEqDiff, Nat.reduceAdd, Nat.reduceMul, Nat.reduceLT, Nat.reduceLeDiff, f20r4])
    exact hR _ x02
  have hbl' : bl = true := by simpa using hh
  obtain ⟨hL, hF⟩ := hbl hbl'
  clear hh hbl
  (try simp (config := { maxSteps := 1000000 }) (disch := first | exact Nat.le_of_ble_eq_true rfl | omega) only [AXS, AXB, J.dst, reduceIte, Nat.reduceEqDiff, Nat.reduceAdd, Nat.reduceMul, Nat.reduceLT, Nat.reduceLeDiff]); rw [f20c7_eq]; (try simp (config := { maxSteps := 1000000 }) (disch := first | exact Nat.le_of_ble_eq_true rfl | omega) only [AXS, AXB, J.dst, reduceIte, Nat.reduceEqDiff, Nat.reduceAdd, Nat.reduceMul, Nat.reduceLT, Nat.reduceLeDiff, f20r5])
  refine wL_newN ?_; rintro b3 h3 x3 s3 hb3 (B3 : Blk _ _ _ (ePr zPr))
  have x03 := x02.trans x3
  have z2 := x02.size
  (try simp (config := { maxSteps := 1000000 }) (disch := first | exact Nat.le_of_ble_eq_true rfl | omega) only [AXS, AXB, J.dst, reduceIte, Nat.reduceEqDiff, Nat.reduceAdd, Nat.reduceMul, Nat.reduceLT, Nat.reduceLeDiff]); rw [f20c8_eq]; (try simp (config := { maxSteps := 1000000 }) (disch := first | exact Nat.le_of_ble_eq_true rfl | omega) only [AXS, AXB, J.dst, reduceIte, Nat.reduceEqDiff, Nat.reduceAdd, Nat.reduceMul, Nat.reduceLT, Nat.reduceLeDiff, f20r6])
  rw [f20c9_eq]
  refine loop_in (fun m σ h' => Ext h2 h' ∧ b3 < h'.size ∧ ∃ (k : Nat) (pv : PrV), k + m = l.length ∧ Blk h' b3 116 (ePr pv) ∧ PrR (fun b => b3 < b) h' pv (runP (l.take k)) ∧ σ = [(0, .slice a l.length n), (3, ptr b3 0), (4, vi k)]) l.length
    ⟨x3, B3.lt, 0, zPr, by omega, B3, zPr_ok h3, rfl⟩ ?_
  rintro m σ h4 ⟨x24, l3, k, pv, hk, B3, hp, rfl⟩ Q' hnx hex hrt _
  have x04 := x02.trans x24
  have hg := runs_good hF k (by omega)
  (try simp (config := { maxSteps := 1000000 }) (disch := first | exact Nat.le_of_ble_eq_true rfl | omega) only [AXS, AXB, J.dst, reduceIte, Nat.reduceEqDiff, Nat.reduceAdd, Nat.reduceMul, Nat.reduceLT, Nat.reduceLeDiff]); rw [f20c10_eq]; (try simp (config := { maxSteps := 1000000 }) (disch := first | exact Nat.le_of_ble_eq_true rfl | omega) only [AXS, AXB, J.dst, reduceIte, Nat.reduceEqDiff, Nat.reduceAdd, Nat.reduceMul, Nat.reduceLT, Nat.reduceLeDiff, f20r7]); rw [f20c11_eq]; (try simp (config := { maxSteps := 1000000 }) (disch := first | exact Nat.le_of_ble_eq_true rfl | omega) only [AXS, AXB, J.dst, reduceIte, Nat.reduceEqDiff, Nat.reduceAdd, Nat.reduceMul, Nat.reduceLT, Nat.reduceLeDiff])
  refine ⟨fun hh => ?_, fun hh => ?_⟩
  · have hkl : k < l.length := by have := of_decide_eq_true hh; omega
    obtain ⟨c0, hx⟩ := get_ex hkl
    have hrun := run_succ hx
    obtain ⟨b', o, cv, rfl, _, hrow, hcr⟩ := (S.ext x04).elem hx
    have hL0 := hF c0 (List.mem_of_getElem? hx)
    have hb'l := hrow.lt (by rw [eCm_len]; omega)
    try simp (config := { maxSteps := 1000000 }) (disch := first | exact Nat.le_of_ble_eq_true rfl | omega) only [AXS, AXB, J.dst, reduceIte, Nat.reduceEqDiff, Nat.reduceAdd, Nat.reduceMul, Nat.reduceLT, Nat.reduceLeDiff]
    rw [f20c12_eq, f20c13_eq]
    refine drt_lt ?_
    simp only [f20r8, wT_one, wT_alt, wT_nil]
    simp (config := { maxSteps := 1000000 }) (disch := first | exact Nat.le_of_ble_eq_true rfl | omega) only [AXS, AXB, J.dst, reduceIte, Nat.reduceEqDiff, Nat.reduceAdd, Nat.reduceMul, Nat.reduceLT, Nat.reduceLeDiff, B3.rd, ePr, row_cm hrow]
    unfold stepP at hrun
    generalize hcc : ownM (runP (l.take k)) c0 = c at *
    have hcl : c.writes.length < 100 ∧ c.spans.length < 100 := by subst hcc; exact ⟨hL0.2, hL0.1⟩
    generalize hpp : runP (l.take k) = p at *
    have g4 := hg.sz.cells
    have app : ∀ h5 b5 cv', Ext h4 h5 → Blk h5 b5 43 (eCm cv') → b5 < h5.size → b3 < b5 → CmR (fun _ => True) h5 cv' c →
        wC Try.prog f20c14 (X.inBlock 1 (X.then (fun σ h => wC Try.prog f20c40 Q' σ h) Q')) [(0, .slice (some ⟨b', o, none⟩) l.length n), (3, ptr b3 0), (4, vi k), (5, ptr b5 0)] h5 := by
      intro h5 b5 cv' x45 B5 l5 l35 C5
      have x25 := x24.trans x45
      have z4 := x45.size
      have hcs := C5.s
      have hp5 := hp.ext x45
      replace B3 := B3.ext x45
      (try simp (config := { maxSteps := 1000000 }) (disch := first | exact Nat.le_of_ble_eq_true rfl | omega) only [AXS, AXB, J.dst, reduceIte, Nat.reduceEqDiff, Nat.reduceAdd, Nat.reduceMul, Nat.reduceLT, Nat.reduceLeDiff]); rw [f20c14_eq]; (try simp (config := { maxSteps := 1000000 }) (disch := first | exact Nat.le_of_ble_eq_true rfl | omega) only [AXS, AXB, J.dst, reduceIte, Nat.reduceEqDiff, Nat.reduceAdd, Nat.reduceMul, Nat.reduceLT, Nat.reduceLeDiff, f20r9, B3.rd, ePr, B5.rd, eCm])
      refine apply_ok (n := 100 * k) pv p cv' c _ hp5 C5 hg.sz (by omega) (by omega) hg.e0 ?_
      intro pv' rv h6 P6 K6 x56
      refine ⟨trivial, ?_⟩
      replace B3 := B3.ext x56; replace B5 := B5.ext x56
      try simp (config := { maxSteps := 1000000 }) (disch := first | exact Nat.le_of_ble_eq_true rfl | omega) only [AXS, AXB, J.dst, reduceIte, Nat.reduceEqDiff, Nat.reduceAdd, Nat.reduceMul, Nat.reduceLT, Nat.reduceLeDiff]
      refine wL_newN ?_; rintro b6 h7 x7 s7 hb6 B6
      replace B3 := B3.ext x7; replace B5 := B5.ext x7
      try simp (config := { maxSteps := 1000000 }) (disch := first | exact Nat.le_of_ble_eq_true rfl | omega) only [AXS, AXB, J.dst, reduceIte, Nat.reduceEqDiff, Nat.reduceAdd, Nat.reduceMul, Nat.reduceLT, Nat.reduceLeDiff]
      refine wL_newN ?_; rintro b7 h8 x8 s8 hb7 B7
      replace B3 := B3.ext x8; replace B5 := B5.ext x8; replace B6 := B6.ext x8
      try simp (config := { maxSteps := 1000000 }) (disch := first | exact Nat.le_of_ble_eq_true rfl | omega) only [AXS, AXB, J.dst, reduceIte, Nat.reduceEqDiff, Nat.reduceAdd, Nat.reduceMul, Nat.reduceLT, Nat.reduceLeDiff]
      refine wL_stN rfl rfl rfl B6 (by decide) (ePr_one pv') ?_
      rintro h9 u9 (B6 : Blk _ _ _ (ePr pv'))
      try simp (config := { maxSteps := 1000000 }) (disch := first | exact Nat.le_of_ble_eq_true rfl | omega) only [AXS, AXB, J.dst, reduceIte, Nat.reduceEqDiff, Nat.reduceAdd, Nat.reduceMul, Nat.reduceLT, Nat.reduceLeDiff]
      have z6 := x56.size
      have z9 := u9.size
      refine wL_stN rfl rfl rfl (u9.blk B7 (by omega)) (by decide) (eRp_one rv) ?_
      rintro h10 u10 (B7 : Blk _ _ _ (eRp rv))
      have z10 := u10.size
      replace B6 := u10.blk B6 (by omega)
      replace B5 := u10.blk (u9.blk B5 (by omega)) (by omega)
      replace B3 := u10.blk (u9.blk B3 (by omega)) (by omega)
      have x610 := u10.ext (u9.ext (x7.trans x8) (by omega)) (by omega)
      have x510 := x56.trans x610
      have x210 := x25.trans x510
      have C10 := C5.ext x510
      have hp10 := hp5.ext x510
      have hq10 : PrR (fun b => b3 < b) h10 pv' (applyP p c).1 := (P6.prr.imp fun b hb => (by omega : b3 < b)).ext x610
      have hrv := K6.s
      have gq := applyG (c := c) hg ⟨hcl.2, hcl.1⟩
      have plw := prep_locks (c := c) hg
      have pkl := fun {x : Cell} => keeps_lock (c := c) (x := x) hg
      have pnt := fun h => apply_not (p := p) (c := c) h
      generalize (applyP p c).2 = r at *
      generalize hqq : (applyP p c).1 = q at *
      clear P6 K6 hp5 hcr
      (try simp (config := { maxSteps := 1000000 }) (disch := first | exact Nat.le_of_ble_eq_true rfl | omega) only [AXS, AXB, J.dst, reduceIte, Nat.reduceEqDiff, Nat.reduceAdd, Nat.reduceMul, Nat.reduceLT, Nat.reduceLeDiff]); rw [f20c15_eq]; (try simp (config := { maxSteps := 1000000 }) (disch := first | exact Nat.le_of_ble_eq_true rfl | omega) only [AXS, AXB, J.dst, reduceIte, Nat.reduceEqDiff, Nat.reduceAdd, Nat.reduceMul, Nat.reduceLT, Nat.reduceLeDiff, f20r10, B3.cel, ePr, hp10.cn, B5.rd, eCm, hcs])
      refine rmineG g4 (by omega) hp10.cells c.s.by_ ?_
      intro h11 x11
      refine ⟨trivial, ?_⟩
      replace B3 := B3.ext x11; replace B5 := B5.ext x11; replace B6 := B6.ext x11; replace B7 := B7.ext x11
      have x211 := x210.trans x11
      (try simp (config := { maxSteps := 1000000 }) (disch := first | exact Nat.le_of_ble_eq_true rfl | omega) only [AXS, AXB, J.dst, reduceIte, Nat.reduceEqDiff, Nat.reduceAdd, Nat.reduceMul, Nat.reduceLT, Nat.reduceLeDiff]); rw [f20c16_eq]; (try simp (config := { maxSteps := 1000000 }) (disch := first | exact Nat.le_of_ble_eq_true rfl | omega) only [AXS, AXB, J.dst, reduceIte, Nat.reduceEqDiff, Nat.reduceAdd, Nat.reduceMul, Nat.reduceLT, Nat.reduceLeDiff, f20r11])
      have i3 := B3.lt
      have i5 := B5.lt
      have i6 := B6.lt
      have i7 := B7.lt
      generalize hmm : mineL p.cells c.s.by_ = mn
      rw [f20c17_eq]
      refine loop_in (fun m σ h' => Ext h11 h' ∧ ∃ j : Nat, j + m = c.writes.length ∧ σ = [(0, .slice (some ⟨b', o, none⟩) l.length n), (3, ptr b3 0), (4, vi k), (5, ptr b5 0), (6, ptr b6 0), (7, ptr b7 0), (8, .bool mn), (9, vi j)]) c.writes.length ⟨Ext.refl _, 0, by omega, rfl⟩ ?_
      rintro m2 σ h12 ⟨x12, j, hj, rfl⟩ Q2 hnx2 hex2 hrt2 _
      have x212 := x211.trans x12
      replace B3 := B3.ext x12; replace B5 := B5.ext x12; replace B6 := B6.ext x12; replace B7 := B7.ext x12
      have C12 := (C10.ext x11).ext x12
      have hp12 := (hp10.ext x11).ext x12
      have hq12 := (hq10.ext x11).ext x12
      have hz12 := x12.size
      rw [f20c18_eq]
      simp (config := { maxSteps := 1000000 }) (disch := first | exact Nat.le_of_ble_eq_true rfl | omega) only [AXJ, AXS, AXB, J.dst, reduceIte, Nat.reduceEqDiff, Nat.reduceAdd, Nat.reduceMul, Nat.reduceLT, Nat.reduceLeDiff, f20r12, B5.cel, eCm, hcs, B7.cel, eRp, hrv]
      simp (config := { maxSteps := 1000000 }) (disch := first | exact Nat.le_of_ble_eq_true rfl | omega) only [AXJ, AXS, AXB, J.dst, reduceIte, Nat.reduceEqDiff, Nat.reduceAdd, Nat.reduceMul, Nat.reduceLT, Nat.reduceLeDiff, f20r12a]
      simp (config := { maxSteps := 1000000 }) (disch := first | exact Nat.le_of_ble_eq_true rfl | omega) only [AXJ, AXS, AXB, J.dst, reduceIte, Nat.reduceEqDiff, Nat.reduceAdd, Nat.reduceMul, Nat.reduceLT, Nat.reduceLeDiff, f20r12b, B5.cel, eCm, C12.wn]
      rw [f20c19_eq]
      simp (config := { maxSteps := 1000000 }) (disch := first | exact Nat.le_of_ble_eq_true rfl | omega) only [AXS, AXB, J.dst, reduceIte, Nat.reduceEqDiff, Nat.reduceAdd, Nat.reduceMul, Nat.reduceLT, Nat.reduceLeDiff]
      refine ⟨fun q1 => ?_, fun q1 => ?_⟩
      · simp only [Bool.and_eq_true, Bool.not_eq_true', beq_iff_eq, decide_eq_true_eq] at q1
        obtain ⟨⟨⟨k3, e0⟩, hm0⟩, hjl⟩ := q1
        have hjl : j < c.writes.length := by omega
        obtain ⟨w, hw⟩ := get_ex hjl
        obtain ⟨bw, ow, hwa, _, hroww⟩ := C12.writes.elem eWri_len hw
        obtain ⟨lk, k1, k2, k4, k5⟩ := plw k3 e0 (by rw [hmm]; exact hm0) w (List.mem_of_getElem? hw)
        have hiw := hroww.lt (by rw [eWri_len]; omega)
        have app2 : ∀ h14 b10, Ext h12 h14 → Blk h14 b10 72 (eLck lk) → wC Try.prog f20c22 (X.inBlock 3 (X.then (fun σ h => wC Try.prog f20c25 Q2 σ h) Q2)) [(0, .slice (some ⟨b', o, none⟩) l.length n), (3, ptr b3 0), (4, vi k), (5, ptr b5 0), (6, ptr b6 0), (7, ptr b7 0), (8, .bool mn), (9, vi j), (10, ptr b10 0), (11, .bool true)] h14 := by
          intro h14 b10 x14 B10
          replace B5 := B5.ext x14
          rw [f20c22_eq]
          simp (config := { maxSteps := 1000000 }) (disch := first | exact Nat.le_of_ble_eq_true rfl | omega) only [AXJ, AXS, AXB, J.dst, reduceIte, Nat.reduceEqDiff, Nat.reduceAdd, Nat.reduceMul, Nat.reduceLT, Nat.reduceLeDiff, f20r14, B10.rd, eLck, B5.rd, eCm, hcs, eqA_tryN, k2, decide_true]
          simp (config := { maxSteps := 1000000 }) (disch := first | exact Nat.le_of_ble_eq_true rfl | omega) only [AXJ, AXS, AXB, J.dst, reduceIte, Nat.reduceEqDiff, Nat.reduceAdd, Nat.reduceMul, Nat.reduceLT, Nat.reduceLeDiff, f20r14a, B10.rd, eLck, B5.rd, eCm, hcs, eqA_stampN, k4, decide_true]
          simp (config := { maxSteps := 1000000 }) (disch := first | exact Nat.le_of_ble_eq_true rfl | omega) only [AXJ, AXS, AXB, J.dst, reduceIte, Nat.reduceEqDiff, Nat.reduceAdd, Nat.reduceMul, Nat.reduceLT, Nat.reduceLeDiff, f20r14b, B10.cel, eLck, B5.cel, eCm, hcs, k5]
          rw [f20c23_eq]
          simp (config := { maxSteps := 1000000 }) (disch := first | exact Nat.le_of_ble_eq_true rfl | omega) only [AXS, AXB, J.dst, reduceIte, Nat.reduceEqDiff, Nat.reduceAdd, Nat.reduceMul, Nat.reduceLT, Nat.reduceLeDiff]
          (try simp (config := { maxSteps := 1000000 }) (disch := first | exact Nat.le_of_ble_eq_true rfl | omega) only [AXS, AXB, J.dst, reduceIte, Nat.reduceEqDiff, Nat.reduceAdd, Nat.reduceMul, Nat.reduceLT, Nat.reduceLeDiff]); rw [f20c25_eq]; (try simp (config := { maxSteps := 1000000 }) (disch := first | exact Nat.le_of_ble_eq_true rfl | omega) only [AXS, AXB, J.dst, reduceIte, Nat.reduceEqDiff, Nat.reduceAdd, Nat.reduceMul, Nat.reduceLT, Nat.reduceLeDiff, f20r16])
          rw [i64_wrap (by omega) (by omega)]
          exact hnx2 (m2 - 1) _ _ (by omega) ⟨x12.trans x14, j + 1, by omega, rfl⟩
        try simp (config := { maxSteps := 1000000 }) (disch := first | exact Nat.le_of_ble_eq_true rfl | omega) only [AXS, AXB, J.dst, reduceIte, Nat.reduceEqDiff, Nat.reduceAdd, Nat.reduceMul, Nat.reduceLT, Nat.reduceLeDiff]
        rw [f20c20_eq, f20c21_eq]
        refine drt_lt ?_
        simp only [f20r13, wT_one, wT_alt, wT_nil]
        simp (config := { maxSteps := 1000000 }) (disch := first | exact Nat.le_of_ble_eq_true rfl | omega) only [AXS, AXB, J.dst, reduceIte, Nat.reduceEqDiff, Nat.reduceAdd, Nat.reduceMul, Nat.reduceLT, Nat.reduceLeDiff, B6.cel, ePr, B5.cel, eCm, C12.wn, hwa, row_wri hroww, hq12.cn]
        refine ⟨by omega, by omega, by omega, by omega, hiw, ?_, ?_⟩
        · refine rheldG gq.sz.cells (by omega) hq12.cells w.key ?_
          rw [k1]
          intro h13 x13
          refine ⟨kp_ext (Nat.le_refl _) x13, ?_⟩
          try simp (config := { maxSteps := 1000000 }) (disch := first | exact Nat.le_of_ble_eq_true rfl | omega) only [AXS, AXB, J.dst, reduceIte, Nat.reduceEqDiff, Nat.reduceAdd, Nat.reduceMul, Nat.reduceLT, Nat.reduceLeDiff]
          have i13 := x13.size
          refine wL_newD x13.size ?_; rintro b10 h14 x14 s14 hb10 B10
          try simp (config := { maxSteps := 1000000 }) (disch := first | exact Nat.le_of_ble_eq_true rfl | omega) only [AXS, AXB, J.dst, reduceIte, Nat.reduceEqDiff, Nat.reduceAdd, Nat.reduceMul, Nat.reduceLT, Nat.reduceLeDiff]
          refine wL_stD rfl rfl (by omega) rfl B10 (by decide) (eLck_one lk) ?_
          rintro h15 u15 (B10 : Blk _ _ _ (eLck lk))
          try simp (config := { maxSteps := 1000000 }) (disch := first | exact Nat.le_of_ble_eq_true rfl | omega) only [AXS, AXB, J.dst, reduceIte, Nat.reduceEqDiff, Nat.reduceAdd, Nat.reduceMul, Nat.reduceLT, Nat.reduceLeDiff]
          have := app2 h15 b10 (u15.ext (x13.trans x14) (by omega)) B10
          rw [hwa] at *
          exact this
        · refine wL_newD (Nat.le_refl _) ?_; rintro b10 h14 x14 s14 hb10 B10
          try simp (config := { maxSteps := 1000000 }) (disch := first | exact Nat.le_of_ble_eq_true rfl | omega) only [AXS, AXB, J.dst, reduceIte, Nat.reduceEqDiff, Nat.reduceAdd, Nat.reduceMul, Nat.reduceLT, Nat.reduceLeDiff]
          refine rheldG gq.sz.cells (by omega) (hq12.cells.ext x14) w.key ?_
          rw [k1]
          intro h13 x13
          refine ⟨kp_ext x14.size x13, ?_⟩
          try simp (config := { maxSteps := 1000000 }) (disch := first | exact Nat.le_of_ble_eq_true rfl | omega) only [AXS, AXB, J.dst, reduceIte, Nat.reduceEqDiff, Nat.reduceAdd, Nat.reduceMul, Nat.reduceLT, Nat.reduceLeDiff]
          have i13 := x13.size
          refine wL_stD rfl rfl (by omega) rfl (B10.ext x13) (by decide) (eLck_one lk) ?_
          rintro h15 u15 (B10 : Blk _ _ _ (eLck lk))
          try simp (config := { maxSteps := 1000000 }) (disch := first | exact Nat.le_of_ble_eq_true rfl | omega) only [AXS, AXB, J.dst, reduceIte, Nat.reduceEqDiff, Nat.reduceAdd, Nat.reduceMul, Nat.reduceLT, Nat.reduceLeDiff]
          have := app2 h15 b10 (u15.ext (x14.trans x13) (by omega)) B10
          rw [hwa] at *
          exact this
      · refine hex2 _ _ ?_
        clear q1 hj hnx2 hex2 hrt2
        rw [f20c26_eq]
        have app3 : ∀ h13, Ext h12 h13 → wC Try.prog f20c29 (X.inBlock 1 (X.then (fun σ h => wC Try.prog f20c40 Q' σ h) Q')) [(0, .slice (some ⟨b', o, none⟩) l.length n), (3, ptr b3 0), (4, vi k), (5, ptr b5 0), (6, ptr b6 0)] h13 := by
          intro h13 x13
          replace B3 := B3.ext x13; replace B5 := B5.ext x13; replace B6 := B6.ext x13
          replace hp12 := hp12.ext x13
          replace hq12 := hq12.ext x13
          replace x212 := x212.trans x13
          have i13 := x13.size
          (try simp (config := { maxSteps := 1000000 }) (disch := first | exact Nat.le_of_ble_eq_true rfl | omega) only [AXS, AXB, J.dst, reduceIte, Nat.reduceEqDiff, Nat.reduceAdd, Nat.reduceMul, Nat.reduceLT, Nat.reduceLeDiff]); rw [f20c29_eq]; (try simp (config := { maxSteps := 1000000 }) (disch := first | exact Nat.le_of_ble_eq_true rfl | omega) only [AXS, AXB, J.dst, reduceIte, Nat.reduceEqDiff, Nat.reduceAdd, Nat.reduceMul, Nat.reduceLT, Nat.reduceLeDiff, f20r19])
          rw [f20c30_eq]
          refine loop_in (fun m σ h' => Ext h13 h' ∧ ∃ j : Nat, j + m = p.cells.length ∧ σ = [(0, .slice (some ⟨b', o, none⟩) l.length n), (3, ptr b3 0), (4, vi k), (5, ptr b5 0), (6, ptr b6 0), (12, vi j)]) p.cells.length ⟨Ext.refl _, 0, by omega, rfl⟩ ?_
          rintro m3 σ h14 ⟨x14, j3, hj3, rfl⟩ Q3 hnx3 hex3 hrt3 _
          replace B3 := B3.ext x14; replace B5 := B5.ext x14; replace B6 := B6.ext x14
          have hp14 := hp12.ext x14
          have hq14 := hq12.ext x14
          have x214 := x212.trans x14
          have i14 := x14.size
          have hpl : p.cells.length ≤ 900000 := by have := (szAll g4.sz (by omega)).1; have := g4.sz.1; omega
          (try simp (config := { maxSteps := 1000000 }) (disch := first | exact Nat.le_of_ble_eq_true rfl | omega) only [AXS, AXB, J.dst, reduceIte, Nat.reduceEqDiff, Nat.reduceAdd, Nat.reduceMul, Nat.reduceLT, Nat.reduceLeDiff]); rw [f20c31_eq]; (try simp (config := { maxSteps := 1000000 }) (disch := first | exact Nat.le_of_ble_eq_true rfl | omega) only [AXS, AXB, J.dst, reduceIte, Nat.reduceEqDiff, Nat.reduceAdd, Nat.reduceMul, Nat.reduceLT, Nat.reduceLeDiff, f20r20, B3.cel, ePr, hp14.cn])
          rw [f20c32_eq]
          simp (config := { maxSteps := 1000000 }) (disch := first | exact Nat.le_of_ble_eq_true rfl | omega) only [AXS, AXB, J.dst, reduceIte, Nat.reduceEqDiff, Nat.reduceAdd, Nat.reduceMul, Nat.reduceLT, Nat.reduceLeDiff]
          refine ⟨fun q2 => ?_, fun q2 => ?_⟩
          · have hjl : j3 < p.cells.length := by have := of_decide_eq_true q2; omega
            obtain ⟨x, hxc⟩ := get_ex hjl
            obtain ⟨bx, ox, vx, hxa, hxb, hrowx, hcx⟩ := hp14.cells.elem hxc
            have hix := hrowx.lt (by rw [eCV_len]; omega)
            have hxm := List.mem_of_getElem? hxc
            have app4 : ∀ h16 b13, Ext h14 h16 → Blk h16 b13 72 (eLck (heldK q.cells x.key).1) → wC Try.prog f20c35 (X.inBlock 5 (X.then (fun σ h => wC Try.prog f20c38 Q3 σ h) Q3)) [(0, .slice (some ⟨b', o, none⟩) l.length n), (3, ptr b3 0), (4, vi k), (5, ptr b5 0), (6, ptr b6 0), (12, vi j3), (13, ptr b13 0), (14, .bool (heldK q.cells x.key).2)] h16 := by
              intro h16 b13 x16 B13
              replace B3 := B3.ext x16; replace B5 := B5.ext x16
              replace hrowx := hrowx.ext x16
              replace hcx := hcx.ext x16
              have i16 := x16.size
              have n3 := B3.lt
              have n5 := B5.lt
              have n13 := B13.lt
              have nx := hrowx.lt (by rw [eCV_len]; omega)
              have fin : wC Try.prog f20c38 Q3 [(0, .slice (some ⟨b', o, none⟩) l.length n), (3, ptr b3 0), (4, vi k), (5, ptr b5 0), (6, ptr b6 0), (12, vi j3)] h16 := by
                (try simp (config := { maxSteps := 1000000 }) (disch := first | exact Nat.le_of_ble_eq_true rfl | omega) only [AXS, AXB, J.dst, reduceIte, Nat.reduceEqDiff, Nat.reduceAdd, Nat.reduceMul, Nat.reduceLT, Nat.reduceLeDiff]); rw [f20c38_eq]; (try simp (config := { maxSteps := 1000000 }) (disch := first | exact Nat.le_of_ble_eq_true rfl | omega) only [AXS, AXB, J.dst, reduceIte, Nat.reduceEqDiff, Nat.reduceAdd, Nat.reduceMul, Nat.reduceLT, Nat.reduceLeDiff, f20r24])
                rw [i64_wrap (by omega) (by omega)]
                exact hnx3 (m3 - 1) _ _ (by omega) ⟨x14.trans x16, j3 + 1, by omega, rfl⟩
              have hlx := hcx.locked
              have hlo := hcx.lock
              rw [f20c35_eq]
              refine drw_lt ?_
              cases hlk : x.locked with
              | false =>
                rw [hlk] at hlx
                simp (config := { maxSteps := 1000000 }) (disch := first | exact Nat.le_of_ble_eq_true rfl | omega) only [AXJ, AXS, AXB, J.dst, reduceIte, Nat.reduceEqDiff, Nat.reduceAdd, Nat.reduceMul, Nat.reduceLT, Nat.reduceLeDiff, ↓br_TT, ↓br_TF, ↓br_FT, ↓br_FF, f20r22, B3.cel, ePr, hp14.cn, hxa, row_cv hrowx, hlx]
                repeat (with_reducible refine And.intro (by intros; omega) ?_)
                simp (config := { maxSteps := 1000000 }) (disch := first | exact Nat.le_of_ble_eq_true rfl | omega) only [AXJ, AXS, AXB, J.dst, reduceIte, Nat.reduceEqDiff, Nat.reduceAdd, Nat.reduceMul, Nat.reduceLT, Nat.reduceLeDiff, ↓br_TT, ↓br_TF, ↓br_FT, ↓br_FF, f20r22a]
                repeat (with_reducible refine And.intro (by intros; omega) ?_)
                rw [f20c36_eq]
                simp (config := { maxSteps := 1000000 }) (disch := first | exact Nat.le_of_ble_eq_true rfl | omega) only [AXS, AXB, J.dst, reduceIte, Nat.reduceEqDiff, Nat.reduceAdd, Nat.reduceMul, Nat.reduceLT, Nat.reduceLeDiff]
                exact fin
              | true =>
                rw [hlk] at hlx
                by_cases h5 : c.s.kind = 5 ∧ c.s.by_ = x.lock.by_
                · have e1 : (c.s.kind == 5) = true := by simpa using h5.1
                  have e2 := h5.2
                  simp (config := { maxSteps := 1000000 }) (disch := first | exact Nat.le_of_ble_eq_true rfl | omega) only [AXJ, AXS, AXB, J.dst, reduceIte, Nat.reduceEqDiff, Nat.reduceAdd, Nat.reduceMul, Nat.reduceLT, Nat.reduceLeDiff, ↓br_TT, ↓br_TF, ↓br_FT, ↓br_FF, f20r22, B3.cel, ePr, hp14.cn, hxa, row_cv hrowx, hlx, hlo, B5.cel, B5.rd, eCm, hcs, e1, eTry, eLck, eqA_try, e2, decide_true]
                  repeat (with_reducible refine And.intro (by intros; omega) ?_)
                  simp (config := { maxSteps := 1000000 }) (disch := first | exact Nat.le_of_ble_eq_true rfl | omega) only [AXJ, AXS, AXB, J.dst, reduceIte, Nat.reduceEqDiff, Nat.reduceAdd, Nat.reduceMul, Nat.reduceLT, Nat.reduceLeDiff, ↓br_TT, ↓br_TF, ↓br_FT, ↓br_FF, f20r22a]
                  repeat (with_reducible refine And.intro (by intros; omega) ?_)
                  rw [f20c36_eq]
                  simp (config := { maxSteps := 1000000 }) (disch := first | exact Nat.le_of_ble_eq_true rfl | omega) only [AXS, AXB, J.dst, reduceIte, Nat.reduceEqDiff, Nat.reduceAdd, Nat.reduceMul, Nat.reduceLT, Nat.reduceLeDiff]
                  exact fin
                · have kl := pkl hxm hlk h5
                  rw [kl] at B13 ⊢
                  dsimp only at B13 ⊢
                  by_cases e5 : c.s.kind = 5
                  · have e1 : (c.s.kind == 5) = true := by simpa using e5
                    have e2 : decide (c.s.by_ = x.lock.by_) = false := by
                      rw [decide_eq_false_iff_not]; exact fun e => h5 ⟨e5, e⟩
                    simp (config := { maxSteps := 1000000 }) (disch := first | exact Nat.le_of_ble_eq_true rfl | omega) only [AXJ, AXS, AXB, J.dst, reduceIte, Nat.reduceEqDiff, Nat.reduceAdd, Nat.reduceMul, Nat.reduceLT, Nat.reduceLeDiff, ↓br_TT, ↓br_TF, ↓br_FT, ↓br_FF, f20r22, B3.cel, ePr, hp14.cn, hxa, row_cv hrowx, hlx, hlo, B5.cel, B5.rd, eCm, hcs, e1, eTry, eLck, eqA_try, e2]
                    repeat (with_reducible refine And.intro (by intros; omega) ?_)
                    simp (config := { maxSteps := 1000000 }) (disch := first | exact Nat.le_of_ble_eq_true rfl | omega) only [AXJ, AXS, AXB, J.dst, reduceIte, Nat.reduceEqDiff, Nat.reduceAdd, Nat.reduceMul, Nat.reduceLT, Nat.reduceLeDiff, ↓br_TT, ↓br_TF, ↓br_FT, ↓br_FF, f20r22a, B13.rd, eLck, B3.cel, ePr, hp14.cn, hxa, row_cv hrowx, hlo, eqA_lck2, decide_true]
                    repeat (with_reducible refine And.intro (by intros; omega) ?_)
                    try simp (config := { maxSteps := 1000000 }) (disch := first | exact Nat.le_of_ble_eq_true rfl | omega) only [AXJ, AXS, AXB, J.dst, reduceIte, Nat.reduceEqDiff, Nat.reduceAdd, Nat.reduceMul, Nat.reduceLT, Nat.reduceLeDiff]
                    rw [f20c36_eq]
                    simp (config := { maxSteps := 1000000 }) (disch := first | exact Nat.le_of_ble_eq_true rfl | omega) only [AXS, AXB, J.dst, reduceIte, Nat.reduceEqDiff, Nat.reduceAdd, Nat.reduceMul, Nat.reduceLT, Nat.reduceLeDiff]
                    exact fin
                  · have e1 : (c.s.kind == 5) = false := by simpa using e5
                    simp (config := { maxSteps := 1000000 }) (disch := first | exact Nat.le_of_ble_eq_true rfl | omega) only [AXJ, AXS, AXB, J.dst, reduceIte, Nat.reduceEqDiff, Nat.reduceAdd, Nat.reduceMul, Nat.reduceLT, Nat.reduceLeDiff, ↓br_TT, ↓br_TF, ↓br_FT, ↓br_FF, f20r22, B3.cel, ePr, hp14.cn, hxa, row_cv hrowx, hlx, hlo, B5.cel, B5.rd, eCm, hcs, e1]
                    repeat (with_reducible refine And.intro (by intros; omega) ?_)
                    simp (config := { maxSteps := 1000000 }) (disch := first | exact Nat.le_of_ble_eq_true rfl | omega) only [AXJ, AXS, AXB, J.dst, reduceIte, Nat.reduceEqDiff, Nat.reduceAdd, Nat.reduceMul, Nat.reduceLT, Nat.reduceLeDiff, ↓br_TT, ↓br_TF, ↓br_FT, ↓br_FF, f20r22a, B13.rd, eLck, B3.cel, ePr, hp14.cn, hxa, row_cv hrowx, hlo, eqA_lck2, decide_true]
                    repeat (with_reducible refine And.intro (by intros; omega) ?_)
                    try simp (config := { maxSteps := 1000000 }) (disch := first | exact Nat.le_of_ble_eq_true rfl | omega) only [AXJ, AXS, AXB, J.dst, reduceIte, Nat.reduceEqDiff, Nat.reduceAdd, Nat.reduceMul, Nat.reduceLT, Nat.reduceLeDiff]
                    rw [f20c36_eq]
                    simp (config := { maxSteps := 1000000 }) (disch := first | exact Nat.le_of_ble_eq_true rfl | omega) only [AXS, AXB, J.dst, reduceIte, Nat.reduceEqDiff, Nat.reduceAdd, Nat.reduceMul, Nat.reduceLT, Nat.reduceLeDiff]
                    exact fin
            have i3 := B3.lt
            have i6 := B6.lt
            try simp (config := { maxSteps := 1000000 }) (disch := first | exact Nat.le_of_ble_eq_true rfl | omega) only [AXS, AXB, J.dst, reduceIte, Nat.reduceEqDiff, Nat.reduceAdd, Nat.reduceMul, Nat.reduceLT, Nat.reduceLeDiff]
            rw [f20c33_eq, f20c34_eq]
            refine drt_lt ?_
            simp only [f20r21, wT_one, wT_alt, wT_nil]
            simp (config := { maxSteps := 1000000 }) (disch := first | exact Nat.le_of_ble_eq_true rfl | omega) only [AXS, AXB, J.dst, reduceIte, Nat.reduceEqDiff, Nat.reduceAdd, Nat.reduceMul, Nat.reduceLT, Nat.reduceLeDiff, B3.cel, B6.cel, ePr, hp14.cn, hq14.cn, hxa, row_cv hrowx, hcx.key]
            refine ⟨by omega, by omega, by omega, by omega, hix, ?_, ?_⟩
            · refine rheldG gq.sz.cells (by omega) hq14.cells x.key ?_
              intro h15 x15
              refine ⟨kp_ext (Nat.le_refl _) x15, ?_⟩
              try simp (config := { maxSteps := 1000000 }) (disch := first | exact Nat.le_of_ble_eq_true rfl | omega) only [AXS, AXB, J.dst, reduceIte, Nat.reduceEqDiff, Nat.reduceAdd, Nat.reduceMul, Nat.reduceLT, Nat.reduceLeDiff]
              have i15 := x15.size
              refine wL_newD x15.size ?_; rintro b13 h16 x16 s16 hb13 B13
              try simp (config := { maxSteps := 1000000 }) (disch := first | exact Nat.le_of_ble_eq_true rfl | omega) only [AXS, AXB, J.dst, reduceIte, Nat.reduceEqDiff, Nat.reduceAdd, Nat.reduceMul, Nat.reduceLT, Nat.reduceLeDiff]
              refine wL_stD rfl rfl (by omega) rfl B13 (by decide) (eLck_one _) ?_
              rintro h17 u17 (B13 : Blk _ _ _ (eLck (heldK q.cells x.key).1))
              try simp (config := { maxSteps := 1000000 }) (disch := first | exact Nat.le_of_ble_eq_true rfl | omega) only [AXS, AXB, J.dst, reduceIte, Nat.reduceEqDiff, Nat.reduceAdd, Nat.reduceMul, Nat.reduceLT, Nat.reduceLeDiff]
              exact app4 h17 b13 (u17.ext (x15.trans x16) (by omega)) B13
            · refine wL_newD (Nat.le_refl _) ?_; rintro b13 h16 x16 s16 hb13 B13
              try simp (config := { maxSteps := 1000000 }) (disch := first | exact Nat.le_of_ble_eq_true rfl | omega) only [AXS, AXB, J.dst, reduceIte, Nat.reduceEqDiff, Nat.reduceAdd, Nat.reduceMul, Nat.reduceLT, Nat.reduceLeDiff]
              refine rheldG gq.sz.cells (by omega) (hq14.cells.ext x16) x.key ?_
              intro h15 x15
              refine ⟨kp_ext x16.size x15, ?_⟩
              try simp (config := { maxSteps := 1000000 }) (disch := first | exact Nat.le_of_ble_eq_true rfl | omega) only [AXS, AXB, J.dst, reduceIte, Nat.reduceEqDiff, Nat.reduceAdd, Nat.reduceMul, Nat.reduceLT, Nat.reduceLeDiff]
              have i15 := x15.size
              refine wL_stD rfl rfl (by omega) rfl (B13.ext x15) (by decide) (eLck_one _) ?_
              rintro h17 u17 (B13 : Blk _ _ _ (eLck (heldK q.cells x.key).1))
              try simp (config := { maxSteps := 1000000 }) (disch := first | exact Nat.le_of_ble_eq_true rfl | omega) only [AXS, AXB, J.dst, reduceIte, Nat.reduceEqDiff, Nat.reduceAdd, Nat.reduceMul, Nat.reduceLT, Nat.reduceLeDiff]
              exact app4 h17 b13 (u17.ext (x16.trans x15) (by omega)) B13
          · refine hex3 _ _ ?_
            (try simp (config := { maxSteps := 1000000 }) (disch := first | exact Nat.le_of_ble_eq_true rfl | omega) only [AXS, AXB, J.dst, reduceIte, Nat.reduceEqDiff, Nat.reduceAdd, Nat.reduceMul, Nat.reduceLT, Nat.reduceLeDiff]); rw [f20c39_eq]; (try simp (config := { maxSteps := 1000000 }) (disch := first | exact Nat.le_of_ble_eq_true rfl | omega) only [AXS, AXB, J.dst, reduceIte, Nat.reduceEqDiff, Nat.reduceAdd, Nat.reduceMul, Nat.reduceLT, Nat.reduceLeDiff, f20r25, B6.rd, ePr])
            refine wL_stN rfl rfl rfl B3 (by rw [ePr_len]; decide) (ePr_one pv') ?_
            rintro h15 u15 (B3' : Blk _ _ _ (ePr pv'))
            try simp (config := { maxSteps := 1000000 }) (disch := first | exact Nat.le_of_ble_eq_true rfl | omega) only [AXS, AXB, J.dst, reduceIte, Nat.reduceEqDiff, Nat.reduceAdd, Nat.reduceMul, Nat.reduceLT, Nat.reduceLeDiff]
            (try simp (config := { maxSteps := 1000000 }) (disch := first | exact Nat.le_of_ble_eq_true rfl | omega) only [AXS, AXB, J.dst, reduceIte, Nat.reduceEqDiff, Nat.reduceAdd, Nat.reduceMul, Nat.reduceLT, Nat.reduceLeDiff]); rw [f20c40_eq]; (try simp (config := { maxSteps := 1000000 }) (disch := first | exact Nat.le_of_ble_eq_true rfl | omega) only [AXS, AXB, J.dst, reduceIte, Nat.reduceEqDiff, Nat.reduceAdd, Nat.reduceMul, Nat.reduceLT, Nat.reduceLeDiff, f20r26])
            rw [i64_wrap (by omega) (by omega)]
            refine hnx (m - 1) _ _ (by omega) ⟨u15.ext x214 (by omega), B3'.lt, k + 1, pv', by omega, B3', ?_, rfl⟩
            rw [hrun]
            exact hq14.at_ (fun b hb => u15.ne b (by omega))
        simp (config := { maxSteps := 1000000 }) (disch := first | exact Nat.le_of_ble_eq_true rfl | omega) only [AXJ, AXS, AXB, J.dst, reduceIte, Nat.reduceEqDiff, Nat.reduceAdd, Nat.reduceMul, Nat.reduceLT, Nat.reduceLeDiff, f20r17, B5.cel, eCm, hcs, B7.cel, eRp, hrv]
        cases hc17 : (c.s.kind == 3 && r.s.err != 0) with
        | false =>
          simp (config := { maxSteps := 1000000 }) (disch := first | exact Nat.le_of_ble_eq_true rfl | omega) only [AXJ, AXS, AXB, J.dst, reduceIte, Nat.reduceEqDiff, Nat.reduceAdd, Nat.reduceMul, Nat.reduceLT, Nat.reduceLeDiff, f20r17a]
          rw [f20c27_eq]
          simp (config := { maxSteps := 1000000 }) (disch := first | exact Nat.le_of_ble_eq_true rfl | omega) only [AXS, AXB, J.dst, reduceIte, Nat.reduceEqDiff, Nat.reduceAdd, Nat.reduceMul, Nat.reduceLT, Nat.reduceLeDiff]
          exact app3 h12 (Ext.refl _)
        | true =>
          have hr0 : r.s.err ≠ 0 := by
            rw [Bool.and_eq_true] at hc17
            simpa using hc17.2
          simp (config := { maxSteps := 1000000 }) (disch := first | exact Nat.le_of_ble_eq_true rfl | omega) only [AXJ, AXS, AXB, J.dst, reduceIte, Nat.reduceEqDiff, Nat.reduceAdd, Nat.reduceMul, Nat.reduceLT, Nat.reduceLeDiff, f20r17a, B3.cel, ePr, B6.cel, hp12.cn, hq12.cn]
          refine sameG g4 (by omega) hp12.cells hq12.cells (by rw [pnt hr0]) ?_
          intro h13 x13
          refine ⟨trivial, ?_⟩
          simp (config := { maxSteps := 1000000 }) (disch := first | exact Nat.le_of_ble_eq_true rfl | omega) only [AXJ, AXS, AXB, J.dst, reduceIte, Nat.reduceEqDiff, Nat.reduceAdd, Nat.reduceMul, Nat.reduceLT, Nat.reduceLeDiff]
          rw [f20c27_eq]
          simp (config := { maxSteps := 1000000 }) (disch := first | exact Nat.le_of_ble_eq_true rfl | omega) only [AXS, AXB, J.dst, reduceIte, Nat.reduceEqDiff, Nat.reduceAdd, Nat.reduceMul, Nat.reduceLT, Nat.reduceLeDiff]
          exact app3 h13 x13
    refine ⟨by omega, by omega, by omega, hb'l, ?_, ?_⟩
    · refine own_okP pv p cv c0 false _ hp.s hcr hg.e0 hg.e1 ?_
      intro cv' h5 C5 x5
      have C5' : CmR (fun b => b < h.size) h5 cv' c := by rw [← hcc]; exact C5
      refine ⟨kp_ext (Nat.le_refl _) x5, ?_⟩
      try simp (config := { maxSteps := 1000000 }) (disch := first | exact Nat.le_of_ble_eq_true rfl | omega) only [AXS, AXB, J.dst, reduceIte, Nat.reduceEqDiff, Nat.reduceAdd, Nat.reduceMul, Nat.reduceLT, Nat.reduceLeDiff]
      have i5 := x5.size
      refine wL_newD x5.size ?_; rintro b5 h6 x6 s6 hb5 B5
      try simp (config := { maxSteps := 1000000 }) (disch := first | exact Nat.le_of_ble_eq_true rfl | omega) only [AXS, AXB, J.dst, reduceIte, Nat.reduceEqDiff, Nat.reduceAdd, Nat.reduceMul, Nat.reduceLT, Nat.reduceLeDiff]
      refine wL_stD rfl rfl (by omega) rfl B5 (by decide) (eCm_one cv') ?_
      rintro h7 u7 (B5 : Blk _ _ _ (eCm cv'))
      try simp (config := { maxSteps := 1000000 }) (disch := first | exact Nat.le_of_ble_eq_true rfl | omega) only [AXS, AXB, J.dst, reduceIte, Nat.reduceEqDiff, Nat.reduceAdd, Nat.reduceMul, Nat.reduceLT, Nat.reduceLeDiff]
      exact app h7 b5 cv' (u7.ext (x5.trans x6) (by omega)) B5 B5.lt (by omega) ((C5'.ext (u7.ext x6 (by omega))).imp fun _ _ => trivial)
    · refine wL_newD (Nat.le_refl _) ?_; rintro b5 h6 x6 s6 hb5 B5
      try simp (config := { maxSteps := 1000000 }) (disch := first | exact Nat.le_of_ble_eq_true rfl | omega) only [AXS, AXB, J.dst, reduceIte, Nat.reduceEqDiff, Nat.reduceAdd, Nat.reduceMul, Nat.reduceLT, Nat.reduceLeDiff]
      refine own_okP pv p cv c0 false _ hp.s (hcr.ext x6) hg.e0 hg.e1 ?_
      intro cv' h5 C5 x5
      refine ⟨kp_ext x6.size x5, ?_⟩
      try simp (config := { maxSteps := 1000000 }) (disch := first | exact Nat.le_of_ble_eq_true rfl | omega) only [AXS, AXB, J.dst, reduceIte, Nat.reduceEqDiff, Nat.reduceAdd, Nat.reduceMul, Nat.reduceLT, Nat.reduceLeDiff]
      have i5 := x5.size
      refine wL_stD rfl rfl (by omega) rfl (B5.ext x5) (by decide) (eCm_one cv') ?_
      rintro h7 u7 (B5 : Blk _ _ _ (eCm cv'))
      try simp (config := { maxSteps := 1000000 }) (disch := first | exact Nat.le_of_ble_eq_true rfl | omega) only [AXS, AXB, J.dst, reduceIte, Nat.reduceEqDiff, Nat.reduceAdd, Nat.reduceMul, Nat.reduceLT, Nat.reduceLeDiff]
      have C5' : CmR (fun b => b < h.size) h5 cv' c := by rw [← hcc]; exact C5
      have i4 := x24.size
      exact app h7 b5 cv' (u7.ext (x6.trans x5) (by omega)) B5 B5.lt (by omega) ((C5'.at_ (h' := h7) fun b hb => u7.ne b (by have hb' : b < h.size := hb; omega)).imp fun _ _ => trivial)
  · have hkl : k = l.length := by have := of_decide_eq_false hh; omega
    refine hex _ _ ?_
    obtain ⟨z1, z2', z3, z4, z5, z6⟩ := szAll hg.sz.cells.sz (by omega)
    rw [f20c41_eq]
    simp (config := { maxSteps := 1000000 }) (disch := first | exact Nat.le_of_ble_eq_true rfl | omega) only [AXJ, AXS, AXB, J.dst, reduceIte, Nat.reduceEqDiff, Nat.reduceAdd, Nat.reduceMul, Nat.reduceLT, Nat.reduceLeDiff, f20r27, B3.cel, ePr, hp.cn]
    refine lightC_ok _ _ hp.cells z3 z4 ?_
    intro b _ hb0
    refine ⟨trivial, ?_⟩
    cases b with
    | true =>
      simp (config := { maxSteps := 1000000 }) (disch := first | exact Nat.le_of_ble_eq_true rfl | omega) only [AXJ, AXS, AXB, J.dst, reduceIte, Nat.reduceEqDiff, Nat.reduceAdd, Nat.reduceMul, Nat.reduceLT, Nat.reduceLeDiff]
      try simp (config := { maxSteps := 1000000 }) (disch := first | exact Nat.le_of_ble_eq_true rfl | omega) only [AXJ, AXS, AXB, J.dst, reduceIte, Nat.reduceEqDiff, Nat.reduceAdd, Nat.reduceMul, Nat.reduceLT, Nat.reduceLeDiff, f20r27a]
      exact hR _ x04
    | false =>
      have hne : (runP (l.take k)).cells ≠ [] := fun e => by cases hb0 e
      have hpos : decide ((((runP (l.take k)).cells.length : Nat) : Int) > 0) = true := by
        rw [decide_eq_true_eq]
        have := List.length_pos_iff.2 hne
        omega
      simp (config := { maxSteps := 1000000 }) (disch := first | exact Nat.le_of_ble_eq_true rfl | omega) only [AXJ, AXS, AXB, J.dst, reduceIte, Nat.reduceEqDiff, Nat.reduceAdd, Nat.reduceMul, Nat.reduceLT, Nat.reduceLeDiff, B3.cel, ePr, hp.cn, hpos]
      try simp (config := { maxSteps := 1000000 }) (disch := first | exact Nat.le_of_ble_eq_true rfl | omega) only [AXJ, AXS, AXB, J.dst, reduceIte, Nat.reduceEqDiff, Nat.reduceAdd, Nat.reduceMul, Nat.reduceLT, Nat.reduceLeDiff, f20r27a]
      exact hR _ x04
end Go.Proofs.Ytefghfgmkndikaa
