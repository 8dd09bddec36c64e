/-
  The walks and plain laws under the laws of one package: texts of mine put together, what they do not use left out (wip/tools/prune.py).
-/
import Derived.Test.YtefghfgmkndikaaW5
set_option linter.unusedSimpArgs false
set_option linter.unusedVariables false
open Nat renaming reduceEqDiff → Z1, reduceAdd → Z2, reduceMul → Z3, reduceLT → Z4, reduceLeDiff → Z5, le_of_ble_eq_true → Lb
namespace Go.Proofs.Ytefghfgmkndikaa
open Go.AX
set_option maxRecDepth 100000
def f94r0 : List I := [.op (.box 1 43 (.tmp 0)),
 .op (.mov 2 (.const (.bool false))),
 .kp [1]]
def f94r1 : List I := [.op (.mov 3 (.const (.int .i64 0))),
 .kp [1,3]]
def f94r2 : List I := [.op (.mov 4 (.const (.int .i64 0))),
 .kp [1,3,4]]
def f94r3 : List I := [.op (.mov 6 (.tmp 4)),
 .op (.fad 7 12 (.tmp 1)),
 .op (.ld 8 none (.tmp 7)),
 .op (.len 9 true (.tmp 8)),
 .op (.bin 10 .lss (.tmp 6) (.tmp 9)),
 .op (.mov 11 (.tmp 10)),
 .sc 11 true 2,
 .g 11 true (.mov 12 (.tmp 3)),
 .g 11 true (.bin 13 .lss (.tmp 12) (.const (.int .i64 16384))),
 .op (.pick 14 (.tmp 11) (.tmp 13) (.const (.bool false))),
 .kp [14,1,3,4]]
def f94r4 : List I := [.op (.fad 17 12 (.tmp 1)),
 .op (.ld 18 none (.tmp 17)),
 .op (.mov 19 (.tmp 4)),
 .op (.iad 20 2 (.tmp 18) (.tmp 19)),
 .op (.fad 21 0 (.tmp 20)),
 .op (.ld 22 none (.tmp 21)),
 .op (.len 23 false (.tmp 22)),
 .op (.bin 24 .gtr (.tmp 23) (.const (.int .i64 8192))),
 .op (.mov 25 (.tmp 24)),
 .sc 25 false 8,
 .g 25 false (.fad 26 12 (.tmp 1)),
 .g 25 false (.ld 27 none (.tmp 26)),
 .g 25 false (.mov 28 (.tmp 4)),
 .g 25 false (.iad 29 2 (.tmp 27) (.tmp 28)),
 .g 25 false (.fad 30 1 (.tmp 29)),
 .g 25 false (.ld 31 none (.tmp 30)),
 .g 25 false (.len 32 false (.tmp 31)),
 .g 25 false (.bin 33 .gtr (.tmp 32) (.const (.int .i64 8192))),
 .op (.pick 34 (.tmp 25) (.const (.bool true)) (.tmp 33)),
 .kp [34,1,3,4]]
def f94r5 : List I := [.op (.mov 2 (.const (.bool false))),
 .kp [2]]
def f94r6 : List I := [.op (.mov 35 (.tmp 3)),
 .op (.fad 36 12 (.tmp 1)),
 .op (.ld 37 none (.tmp 36)),
 .op (.mov 38 (.tmp 4)),
 .op (.iad 39 2 (.tmp 37) (.tmp 38)),
 .op (.fad 40 0 (.tmp 39)),
 .op (.ld 41 none (.tmp 40)),
 .op (.len 42 false (.tmp 41)),
 .op (.bin 43 .add (.tmp 35) (.tmp 42)),
 .op (.fad 44 12 (.tmp 1)),
 .kp [1,4,43,44],
 .op (.ld 45 none (.tmp 44)),
 .op (.mov 46 (.tmp 4)),
 .op (.iad 47 2 (.tmp 45) (.tmp 46)),
 .op (.fad 48 1 (.tmp 47)),
 .op (.ld 49 none (.tmp 48)),
 .op (.len 50 false (.tmp 49)),
 .op (.bin 51 .add (.tmp 43) (.tmp 50)),
 .op (.mov 3 (.tmp 51)),
 .kp [1,3,4]]
def f94r7 : List I := [.op (.mov 15 (.tmp 4)),
 .op (.bin 16 .add (.tmp 15) (.const (.int .i64 1))),
 .op (.mov 4 (.tmp 16)),
 .kp [1,3,4]]
def f94r8 : List I := [.op (.mov 5 (.const (.int .i64 0))),
 .kp [1,3,5]]
def f94r9 : List I := [.op (.mov 52 (.tmp 5)),
 .op (.fad 53 13 (.tmp 1)),
 .op (.ld 54 none (.tmp 53)),
 .op (.len 55 true (.tmp 54)),
 .op (.bin 56 .lss (.tmp 52) (.tmp 55)),
 .op (.mov 57 (.tmp 56)),
 .sc 57 true 2,
 .g 57 true (.mov 58 (.tmp 3)),
 .g 57 true (.bin 59 .lss (.tmp 58) (.const (.int .i64 16384))),
 .op (.pick 60 (.tmp 57) (.tmp 59) (.const (.bool false))),
 .kp [60,1,3,5]]
def f94r10 : List I := [.op (.fad 63 13 (.tmp 1)),
 .op (.ld 64 none (.tmp 63)),
 .op (.mov 65 (.tmp 5)),
 .op (.iad 66 3 (.tmp 64) (.tmp 65)),
 .op (.fad 67 0 (.tmp 66)),
 .op (.ld 68 none (.tmp 67)),
 .op (.len 69 false (.tmp 68)),
 .op (.bin 70 .gtr (.tmp 69) (.const (.int .i64 8192))),
 .op (.mov 71 (.tmp 70)),
 .sc 71 false 8,
 .g 71 false (.fad 72 13 (.tmp 1)),
 .g 71 false (.ld 73 none (.tmp 72)),
 .g 71 false (.mov 74 (.tmp 5)),
 .g 71 false (.iad 75 3 (.tmp 73) (.tmp 74)),
 .g 71 false (.fad 76 2 (.tmp 75)),
 .g 71 false (.ld 77 none (.tmp 76)),
 .g 71 false (.len 78 false (.tmp 77)),
 .g 71 false (.bin 79 .gtr (.tmp 78) (.const (.int .i64 8192))),
 .op (.pick 80 (.tmp 71) (.const (.bool true)) (.tmp 79)),
 .kp [80,1,3,5]]
def f94r11 : List I := [.op (.mov 2 (.const (.bool false))),
 .kp [2]]
def f94r12 : List I := [.op (.mov 81 (.tmp 3)),
 .op (.fad 82 13 (.tmp 1)),
 .op (.ld 83 none (.tmp 82)),
 .op (.mov 84 (.tmp 5)),
 .op (.iad 85 3 (.tmp 83) (.tmp 84)),
 .op (.fad 86 0 (.tmp 85)),
 .op (.ld 87 none (.tmp 86)),
 .op (.len 88 false (.tmp 87)),
 .op (.bin 89 .add (.tmp 81) (.tmp 88)),
 .op (.fad 90 13 (.tmp 1)),
 .kp [1,5,89,90],
 .op (.ld 91 none (.tmp 90)),
 .op (.mov 92 (.tmp 5)),
 .op (.iad 93 3 (.tmp 91) (.tmp 92)),
 .op (.fad 94 2 (.tmp 93)),
 .op (.ld 95 none (.tmp 94)),
 .op (.len 96 false (.tmp 95)),
 .op (.bin 97 .add (.tmp 89) (.tmp 96)),
 .op (.mov 3 (.tmp 97)),
 .kp [1,3,5]]
def f94r13 : List I := [.op (.mov 61 (.tmp 5)),
 .op (.bin 62 .add (.tmp 61) (.const (.int .i64 1))),
 .op (.mov 5 (.tmp 62)),
 .kp [1,3,5]]
def f94r14b : List I := [.op (.mov 2 (.tmp 111)),
 .kp [2]]
def f94r14a : List I := .op (.mov 106 (.tmp 105)) ::
 .sc 106 true 4 ::
 .g 106 true (.fad 107 13 (.tmp 1)) ::
 .g 106 true (.ld 108 none (.tmp 107)) ::
 .g 106 true (.len 109 true (.tmp 108)) ::
 .g 106 true (.bin 110 .lss (.tmp 109) (.const (.int .i64 100))) ::
 .op (.pick 111 (.tmp 106) (.tmp 110) (.const (.bool false))) ::
 .kp [111] ::
 f94r14b
def f94r14 : List I := .op (.mov 98 (.tmp 3)) ::
 .op (.bin 99 .lss (.tmp 98) (.const (.int .i64 8192))) ::
 .op (.mov 100 (.tmp 99)) ::
 .sc 100 true 4 ::
 .g 100 true (.fad 101 12 (.tmp 1)) ::
 .g 100 true (.ld 102 none (.tmp 101)) ::
 .g 100 true (.len 103 true (.tmp 102)) ::
 .g 100 true (.bin 104 .lss (.tmp 103) (.const (.int .i64 100))) ::
 .op (.pick 105 (.tmp 100) (.tmp 104) (.const (.bool false))) ::
 .kp [105,1] ::
 f94r14a
def f94c9 : C := (.seq (.reg f94r5) .ret)
def f94c10 : C := (.drw f94r6)
def f94c8 : C := (.seq (.cond (.tmp 34) f94c9 .skip) f94c10)
def f94c7 : C := (.seq (.reg f94r4) f94c8)
def f94c11 : C := (.reg f94r7)
def f94c6 : C := (.seq (.block 1 f94c7) f94c11)
def f94c5 : C := (.seq (.cond (.tmp 14) .skip (.exit 0)) f94c6)
def f94c4 : C := (.seq (.reg f94r3) f94c5)
def f94c19 : C := (.seq (.reg f94r11) .ret)
def f94c20 : C := (.drw f94r12)
def f94c18 : C := (.seq (.cond (.tmp 80) f94c19 .skip) f94c20)
def f94c17 : C := (.seq (.reg f94r10) f94c18)
def f94c21 : C := (.reg f94r13)
def f94c16 : C := (.seq (.block 3 f94c17) f94c21)
def f94c15 : C := (.seq (.cond (.tmp 60) .skip (.exit 2)) f94c16)
def f94c14 : C := (.seq (.reg f94r9) f94c15)
def f94c22 : C := (.seq (.reg f94r14) .ret)
def f94c13 : C := (.seq (.block 2 (.loop f94c14)) f94c22)
def f94c12 : C := (.seq (.reg f94r8) f94c13)
def f94c3 : C := (.seq (.block 0 (.loop f94c4)) f94c12)
def f94c2 : C := (.seq (.reg f94r2) f94c3)
def f94c1 : C := (.seq (.reg f94r1) f94c2)
def f94c0 : C := (.seq (.reg f94r0) f94c1)
theorem f94cmp : cmpF Try.prog Try.f94 [.l [.o 0,.o 1,.kp [1]],
 .l [.o 0,.kp [1,3]],
 .l [.o 0,.kp [1,3,4]],
 .l [.o 0,.o 1,.o 2,.o 3,.o 4,.o 5,.sc 11 true 2,.o 6,.o 7,.o 8,.kp [14,1,3,4]],
 .l [.o 0,.o 1,.o 2,.o 3,.o 4,.o 5,.o 6,.o 7,.o 8,.sc 25 false 8,.o 9,.o 10,.o 11,.o 12,.o 13,.o 14,.o 15,.o 16,.o 17,.kp [34,1,3,4]],
 .l [.o 0,.kp [2]],
 .l [.o 0,.o 1,.o 2,.o 3,.o 4,.o 5,.o 6,.o 7,.o 8,.o 9,.kp [1,4,43,44],.o 10,.o 11,.o 12,.o 13,.o 14,.o 15,.o 16,.o 17,.kp [1,3,4]],
 .l [.o 0,.o 1,.o 2,.kp [1,3,4]],
 .l [.o 0,.kp [1,3,5]],
 .l [.o 0,.o 1,.o 2,.o 3,.o 4,.o 5,.sc 57 true 2,.o 6,.o 7,.o 8,.kp [60,1,3,5]],
 .l [.o 0,.o 1,.o 2,.o 3,.o 4,.o 5,.o 6,.o 7,.o 8,.sc 71 false 8,.o 9,.o 10,.o 11,.o 12,.o 13,.o 14,.o 15,.o 16,.o 17,.kp [80,1,3,5]],
 .l [.o 0,.kp [2]],
 .l [.o 0,.o 1,.o 2,.o 3,.o 4,.o 5,.o 6,.o 7,.o 8,.o 9,.kp [1,5,89,90],.o 10,.o 11,.o 12,.o 13,.o 14,.o 15,.o 16,.o 17,.kp [1,3,5]],
 .l [.o 0,.o 1,.o 2,.kp [1,3,5]],
 .l [.o 0,.o 1,.o 2,.sc 100 true 4,.o 3,.o 4,.o 5,.o 6,.o 7,.kp [105,1],.o 8,.sc 106 true 4,.o 9,.o 10,.o 11,.o 12,.o 13,.kp [111],.o 14,.kp [2]]] = some (f94c0,[.tmp 2]) := by kernel_rfl
theorem f94ok {args : List Value} {h : Heap} {R : Value → Heap → Prop} (hn : args.length ≤ 112) (H : wC Try.prog f94c0 (endW [.tmp 2] R) (envOf 0 args) h) : CallsH Try.prog 94 args h R :=
 fn_ok2 Try.func94 f94cmp hn H
section
variable {P : Program} {Q : X → Env → Heap → Prop} {σ : Env} {h : Heap}
theorem f94c9_eq : wC P f94c9 Q σ h = (wL P none f94r5 0 (fun σ h => Q .ret σ h) σ h) := rfl
theorem f94c10_eq : wC P f94c10 Q σ h = (drwW P f94r6 (fun σ h => Q .normal σ h) σ h) := rfl
theorem f94c8_eq : wC P f94c8 Q σ h = (bd (evO σ (.tmp 34)) fun v => bd (asB v) fun t => br t (wC P f94c9 (X.then (fun σ h => wC P f94c10 Q σ h) Q) σ h) (wC P f94c10 Q σ h)) := rfl
theorem f94c7_eq : wC P f94c7 Q σ h = (wL P none f94r4 0 (fun σ h => wC P f94c8 Q σ h) σ h) := rfl
theorem f94c11_eq : wC P f94c11 Q σ h = (wL P none f94r7 0 (fun σ h => Q .normal σ h) σ h) := rfl
theorem f94c6_eq : wC P f94c6 Q σ h = (wC P f94c7 (X.inBlock 1 (X.then (fun σ h => wC P f94c11 Q σ h) Q)) σ h) := rfl
theorem f94c5_eq : wC P f94c5 Q σ h = (bd (evO σ (.tmp 14)) fun v => bd (asB v) fun t => br t (wC P f94c6 Q σ h) (Q (.exit 0) σ h)) := rfl
theorem f94c4_eq : wC P f94c4 Q σ h = (wL P none f94r3 0 (fun σ h => wC P f94c5 Q σ h) σ h) := rfl
theorem f94c19_eq : wC P f94c19 Q σ h = (wL P none f94r11 0 (fun σ h => Q .ret σ h) σ h) := rfl
theorem f94c20_eq : wC P f94c20 Q σ h = (drwW P f94r12 (fun σ h => Q .normal σ h) σ h) := rfl
theorem f94c18_eq : wC P f94c18 Q σ h = (bd (evO σ (.tmp 80)) fun v => bd (asB v) fun t => br t (wC P f94c19 (X.then (fun σ h => wC P f94c20 Q σ h) Q) σ h) (wC P f94c20 Q σ h)) := rfl
theorem f94c17_eq : wC P f94c17 Q σ h = (wL P none f94r10 0 (fun σ h => wC P f94c18 Q σ h) σ h) := rfl
theorem f94c21_eq : wC P f94c21 Q σ h = (wL P none f94r13 0 (fun σ h => Q .normal σ h) σ h) := rfl
theorem f94c16_eq : wC P f94c16 Q σ h = (wC P f94c17 (X.inBlock 3 (X.then (fun σ h => wC P f94c21 Q σ h) Q)) σ h) := rfl
theorem f94c15_eq : wC P f94c15 Q σ h = (bd (evO σ (.tmp 60)) fun v => bd (asB v) fun t => br t (wC P f94c16 Q σ h) (Q (.exit 2) σ h)) := rfl
theorem f94c14_eq : wC P f94c14 Q σ h = (wL P none f94r9 0 (fun σ h => wC P f94c15 Q σ h) σ h) := rfl
theorem f94c22_eq : wC P f94c22 Q σ h = (wL P none f94r14 0 (fun σ h => Q .ret σ h) σ h) := rfl
theorem f94c13_eq : wC P f94c13 Q σ h = (loopW (wC P f94c14) (X.inBlock 2 (X.then (fun σ h => wC P f94c22 Q σ h) Q)) σ h) := rfl
theorem f94c12_eq : wC P f94c12 Q σ h = (wL P none f94r8 0 (fun σ h => wC P f94c13 Q σ h) σ h) := rfl
theorem f94c3_eq : wC P f94c3 Q σ h = (loopW (wC P f94c4) (X.inBlock 0 (X.then (fun σ h => wC P f94c12 Q σ h) Q)) σ h) := rfl
theorem f94c2_eq : wC P f94c2 Q σ h = (wL P none f94r2 0 (fun σ h => wC P f94c3 Q σ h) σ h) := rfl
theorem f94c1_eq : wC P f94c1 Q σ h = (wL P none f94r1 0 (fun σ h => wC P f94c2 Q σ h) σ h) := rfl
theorem f94c0_eq : wC P f94c0 Q σ h = (wL P none f94r0 0 (fun σ h => wC P f94c1 Q σ h) σ h) := rfl
end
def f53r0 : List I := [.op (.mov 4 (.const (.bool false))),
 .kp [0,1]]
def f53r1 : List I := [.op (.mov 6 (.tmp 0)),
 .op (.len 7 true (.tmp 6)),
 .op (.mov 8 (.tmp 1)),
 .op (.bin 9 .gtr (.tmp 7) (.tmp 8)),
 .kp [0,9]]
def f53r2 : List I := [.op (.mov 4 (.const (.bool false))),
 .kp [4]]
def f53r3 : List I := [.op (.mov 5 (.const (.int .i64 0))),
 .kp [0,5]]
def f53r4 : List I := [.op (.mov 10 (.tmp 5)),
 .op (.mov 11 (.tmp 0)),
 .op (.len 12 true (.tmp 11)),
 .op (.bin 13 .lss (.tmp 10) (.tmp 12)),
 .kp [0,5,13]]
def f53r5 : List I := [.op (.mov 16 (.tmp 0)),
 .op (.mov 17 (.tmp 5)),
 .op (.iad 18 14 (.tmp 16) (.tmp 17)),
 .op (.ld 19 (some 14) (.tmp 18)),
 .op (.call (some 20) 94 [(.tmp 19)]),
 .op (.un 21 .not (.tmp 20)),
 .kp [0,5,21]]
def f53r6 : List I := [.op (.mov 4 (.const (.bool false))),
 .kp [4]]
def f53r7 : List I := [.op (.mov 14 (.tmp 5)),
 .op (.bin 15 .add (.tmp 14) (.const (.int .i64 1))),
 .op (.mov 5 (.tmp 15)),
 .kp [0,5]]
def f53r8 : List I := [.op (.mov 4 (.const (.bool true))),
 .kp [4]]
def f53c3 : C := (.seq (.reg f53r2) .ret)
def f53c11 : C := (.seq (.reg f53r6) .ret)
def f53c10 : C := (.cond (.tmp 21) f53c11 .skip)
def f53c9 : C := (.seq (.reg f53r5) f53c10)
def f53c12 : C := (.reg f53r7)
def f53c8 : C := (.seq (.block 1 f53c9) f53c12)
def f53c7 : C := (.seq (.cond (.tmp 13) .skip (.exit 0)) f53c8)
def f53c6 : C := (.seq (.reg f53r4) f53c7)
def f53c13 : C := (.seq (.reg f53r8) .ret)
def f53c5 : C := (.seq (.block 0 (.loop f53c6)) f53c13)
def f53c4 : C := (.seq (.reg f53r3) f53c5)
def f53c2 : C := (.seq (.cond (.tmp 9) f53c3 .skip) f53c4)
def f53c1 : C := (.seq (.reg f53r1) f53c2)
def f53c0 : C := (.seq (.reg f53r0) f53c1)
theorem f53cmp : cmpF Try.prog Try.f53 [.l [.o 0,.kp [0,1]],
 .l [.o 0,.o 1,.o 2,.o 3,.kp [0,9]],
 .l [.o 0,.kp [4]],
 .l [.o 0,.kp [0,5]],
 .l [.o 0,.o 1,.o 2,.o 3,.kp [0,5,13]],
 .l [.o 0,.o 1,.o 2,.o 3,.o 4,.o 5,.kp [0,5,21]],
 .l [.o 0,.kp [4]],
 .l [.o 0,.o 1,.o 2,.kp [0,5]],
 .l [.o 0,.kp [4]]] = some (f53c0,[.tmp 4]) := by kernel_rfl
theorem f53ok {args : List Value} {h : Heap} {R : Value → Heap → Prop} (hn : args.length ≤ 22) (H : wC Try.prog f53c0 (endW [.tmp 4] R) (envOf 0 args) h) : CallsH Try.prog 53 args h R :=
 fn_ok2 Try.func53 f53cmp hn H
section
variable {P : Program} {Q : X → Env → Heap → Prop} {σ : Env} {h : Heap}
theorem f53c3_eq : wC P f53c3 Q σ h = (wL P none f53r2 0 (fun σ h => Q .ret σ h) σ h) := rfl
theorem f53c11_eq : wC P f53c11 Q σ h = (wL P none f53r6 0 (fun σ h => Q .ret σ h) σ h) := rfl
theorem f53c10_eq : wC P f53c10 Q σ h = (bd (evO σ (.tmp 21)) fun v => bd (asB v) fun t => br t (wC P f53c11 Q σ h) (Q .normal σ h)) := rfl
theorem f53c9_eq : wC P f53c9 Q σ h = (wL P none f53r5 0 (fun σ h => wC P f53c10 Q σ h) σ h) := rfl
theorem f53c12_eq : wC P f53c12 Q σ h = (wL P none f53r7 0 (fun σ h => Q .normal σ h) σ h) := rfl
theorem f53c8_eq : wC P f53c8 Q σ h = (wC P f53c9 (X.inBlock 1 (X.then (fun σ h => wC P f53c12 Q σ h) Q)) σ h) := rfl
theorem f53c7_eq : wC P f53c7 Q σ h = (bd (evO σ (.tmp 13)) fun v => bd (asB v) fun t => br t (wC P f53c8 Q σ h) (Q (.exit 0) σ h)) := rfl
theorem f53c6_eq : wC P f53c6 Q σ h = (wL P none f53r4 0 (fun σ h => wC P f53c7 Q σ h) σ h) := rfl
theorem f53c13_eq : wC P f53c13 Q σ h = (wL P none f53r8 0 (fun σ h => Q .ret σ h) σ h) := rfl
theorem f53c5_eq : wC P f53c5 Q σ h = (loopW (wC P f53c6) (X.inBlock 0 (X.then (fun σ h => wC P f53c13 Q σ h) Q)) σ h) := rfl
theorem f53c4_eq : wC P f53c4 Q σ h = (wL P none f53r3 0 (fun σ h => wC P f53c5 Q σ h) σ h) := rfl
theorem f53c2_eq : wC P f53c2 Q σ h = (bd (evO σ (.tmp 9)) fun v => bd (asB v) fun t => br t (wC P f53c3 (X.then (fun σ h => wC P f53c4 Q σ h) Q) σ h) (wC P f53c4 Q σ h)) := rfl
theorem f53c1_eq : wC P f53c1 Q σ h = (wL P none f53r1 0 (fun σ h => wC P f53c2 Q σ h) σ h) := rfl
theorem f53c0_eq : wC P f53c0 Q σ h = (wL P none f53r0 0 (fun σ h => wC P f53c1 Q σ h) σ h) := rfl
end
def f54r0 : List I := [.op (.box 3 116 (.tmp 0)),
 .op (.box 4 43 (.tmp 1)),
 .op (.new 6 43 [.int .i64 0,.int .i64 0,.int .i64 0,.int .i64 0,.int .i64 0,.int .i64 0,.int .i64 0,.int .i64 0,.int .i64 0,.int .i64 0,.int .i64 0,.bool false,.slice none 0 0,.slice none 0 0]),
 .kp [2,3,4,6]]
def f54r1 : List I := [.op (.mov 7 (.tmp 2)),
 .op (.un 8 .not (.tmp 7)),
 .kp [3,4,6,8]]
def f54r2 : List I := [.op (.fad 9 0 (.tmp 3)),
 .op (.ld 10 none (.tmp 9)),
 .op (.fad 11 1 (.tmp 4)),
 .op (.st 1 (.tmp 11) (.tmp 10)),
 .kp [4,6]]
def f54r3 : List I := [.op (.fad 12 0 (.tmp 4)),
 .op (.ld 13 none (.tmp 12)),
 .op (.bin 14 .eql (.tmp 13) (.const (.int .i64 1))),
 .kp [4,6,14]]
def f54r4 : List I := [.op (.fad 15 1 (.tmp 4)),
 .op (.ld 16 none (.tmp 15)),
 .op (.bin 17 .add (.tmp 16) (.const (.int .i64 1))),
 .op (.fad 18 1 (.tmp 4)),
 .op (.st 1 (.tmp 18) (.tmp 17)),
 .kp [4,6]]
def f54r5 : List I := [.op (.ld 19 (some 14) (.tmp 4)),
 .op (.st 14 (.tmp 6) (.tmp 19)),
 .kp [6]]
def f54c6 : C := (.reg f54r4)
def f54c5 : C := (.cond (.tmp 14) f54c6 .skip)
def f54c4 : C := (.seq (.reg f54r3) f54c5)
def f54c3 : C := (.seq (.reg f54r2) f54c4)
def f54c7 : C := (.seq (.reg f54r5) .ret)
def f54c2 : C := (.seq (.cond (.tmp 8) f54c3 .skip) f54c7)
def f54c1 : C := (.seq (.reg f54r1) f54c2)
def f54c0 : C := (.seq (.reg f54r0) f54c1)
theorem f54cmp : cmpF Try.prog Try.f54 [.l [.o 0,.o 1,.o 2,.kp [2,3,4,6]],
 .l [.o 0,.o 1,.kp [3,4,6,8]],
 .l [.o 0,.o 1,.o 2,.o 3,.kp [4,6]],
 .l [.o 0,.o 1,.o 2,.kp [4,6,14]],
 .l [.o 0,.o 1,.o 2,.o 3,.o 4,.kp [4,6]],
 .l [.o 0,.o 1,.kp [6]]] = some (f54c0,[.cell 6 14]) := by kernel_rfl
theorem f54ok {args : List Value} {h : Heap} {R : Value → Heap → Prop} (hn : args.length ≤ 20) (H : wC Try.prog f54c0 (endW [.cell 6 14] R) (envOf 0 args) h) : CallsH Try.prog 54 args h R :=
 fn_ok2 Try.func54 f54cmp hn H
section
variable {P : Program} {Q : X → Env → Heap → Prop} {σ : Env} {h : Heap}
theorem f54c6_eq : wC P f54c6 Q σ h = (wL P none f54r4 0 (fun σ h => Q .normal σ h) σ h) := rfl
theorem f54c5_eq : wC P f54c5 Q σ h = (bd (evO σ (.tmp 14)) fun v => bd (asB v) fun t => br t (wC P f54c6 Q σ h) (Q .normal σ h)) := rfl
theorem f54c4_eq : wC P f54c4 Q σ h = (wL P none f54r3 0 (fun σ h => wC P f54c5 Q σ h) σ h) := rfl
theorem f54c3_eq : wC P f54c3 Q σ h = (wL P none f54r2 0 (fun σ h => wC P f54c4 Q σ h) σ h) := rfl
theorem f54c7_eq : wC P f54c7 Q σ h = (wL P none f54r5 0 (fun σ h => Q .ret σ h) σ h) := rfl
theorem f54c2_eq : wC P f54c2 Q σ h = (bd (evO σ (.tmp 8)) fun v => bd (asB v) fun t => br t (wC P f54c3 (X.then (fun σ h => wC P f54c7 Q σ h) Q) σ h) (wC P f54c7 Q σ h)) := rfl
theorem f54c1_eq : wC P f54c1 Q σ h = (wL P none f54r1 0 (fun σ h => wC P f54c2 Q σ h) σ h) := rfl
theorem f54c0_eq : wC P f54c0 Q σ h = (wL P none f54r0 0 (fun σ h => wC P f54c1 Q σ h) σ h) := rfl
end
section
variable {P : Program} {Q : X → Env → Heap → Prop} {σ : Env} {h : Heap}
end
def f52r0 : List I := [.op (.mov 0 (.const (.bool false))),
 .kp []]
def f52r1 : List I := [.op (.bld 8 [.int .i64 0,.int .i64 0,.int .i64 0,.int .i64 0,.int .i64 0,.int .i64 0,.slice none 0 0,.slice none 0 0,.slice none 0 0] []),
 .op (.bld 9 [.int .i64 0,.int .i64 0,.int .i64 0,.int .i64 0,.int .i64 0,.int .i64 0,.int .i64 0,.int .i64 0,.int .i64 0,.int .i64 0,.int .i64 0,.bool false,.slice none 0 0,.slice none 0 0] [(0,1,(.const (.int .i64 1))),(1,1,(.const (.int .i64 1))),(2,1,(.const (.int .i64 2)))]),
 .op (.call (some 10) 56 [(.tmp 8),(.tmp 9)]),
 .op (.mov 7 (.tmp 10)),
 .op (.ext 11 (.tmp 7) 0),
 .op (.ext 12 (.tmp 7) 1),
 .op (.new 1 116 [.int .i64 0,.int .i64 0,.int .i64 0,.int .i64 0,.int .i64 0,.int .i64 0,.slice none 0 0,.slice none 0 0,.slice none 0 0]),
 .op (.new 2 47 [.int .i64 0,.slice none 0 0,.int .i64 0,.int .i64 0,.int .i64 0,.int .i64 0,.int .i64 0,.int .i64 0,.int .i64 0,.int .i64 0,.bool false]),
 .op (.st 9 (.tmp 1) (.tmp 11)),
 .op (.st 11 (.tmp 2) (.tmp 12)),
 .kp [1,2]]
def f52r2 : List I := [.op (.ld 14 (some 9) (.tmp 1)),
 .op (.bld 15 [.int .i64 0,.int .i64 0,.int .i64 0,.int .i64 0] [(0,1,(.const (.int .i64 1)))]),
 .op (.bld 16 [.int .i64 0,.int .i64 0] [(0,1,(.const (.int .i64 5)))]),
 .op (.bld 17 [.string ⟨#[]⟩,.bool false,.string ⟨#[]⟩] [(0,1,(.const (.string ⟨#[107]⟩))),(2,1,(.const (.string ⟨#[120]⟩)))]),
 .op (.bsl 18 70 1 [.string ⟨#[]⟩,.bool false,.string ⟨#[]⟩] [(0,3,(.tmp 17))]),
 .op (.bld 19 [.int .i64 0,.int .i64 0,.int .i64 0,.int .i64 0,.int .i64 0,.int .i64 0,.int .i64 0,.int .i64 0,.int .i64 0,.int .i64 0,.int .i64 0,.bool false,.slice none 0 0,.slice none 0 0] [(0,1,(.const (.int .i64 3))),(1,1,(.const (.int .i64 1))),(4,4,(.tmp 15)),(8,2,(.tmp 16)),(13,1,(.tmp 18))]),
 .op (.call (some 20) 56 [(.tmp 14),(.tmp 19)]),
 .op (.mov 13 (.tmp 20)),
 .op (.ext 21 (.tmp 13) 0),
 .op (.ext 22 (.tmp 13) 1),
 .kp [1,2,21,22],
 .op (.new 3 116 [.int .i64 0,.int .i64 0,.int .i64 0,.int .i64 0,.int .i64 0,.int .i64 0,.slice none 0 0,.slice none 0 0,.slice none 0 0]),
 .op (.new 4 47 [.int .i64 0,.slice none 0 0,.int .i64 0,.int .i64 0,.int .i64 0,.int .i64 0,.int .i64 0,.int .i64 0,.int .i64 0,.int .i64 0,.bool false]),
 .op (.st 9 (.tmp 3) (.tmp 21)),
 .op (.st 11 (.tmp 4) (.tmp 22)),
 .kp [1,2,3,4]]
def f52r3 : List I := [.op (.ld 24 (some 9) (.tmp 3)),
 .op (.bld 25 [.int .i64 0,.int .i64 0] [(0,1,(.const (.int .i64 9)))]),
 .op (.bld 26 [.string ⟨#[]⟩,.string ⟨#[]⟩] [(0,1,(.const (.string ⟨#[97]⟩))),(1,1,(.const (.string ⟨#[122]⟩)))]),
 .op (.bsl 27 94 1 [.string ⟨#[]⟩,.string ⟨#[]⟩] [(0,2,(.tmp 26))]),
 .op (.bld 28 [.int .i64 0,.int .i64 0,.int .i64 0,.int .i64 0,.int .i64 0,.int .i64 0,.int .i64 0,.int .i64 0,.int .i64 0,.int .i64 0,.int .i64 0,.bool false,.slice none 0 0,.slice none 0 0] [(0,1,(.const (.int .i64 2))),(1,1,(.const (.int .i64 1))),(8,2,(.tmp 25)),(12,1,(.tmp 27))]),
 .op (.call (some 29) 56 [(.tmp 24),(.tmp 28)]),
 .op (.mov 23 (.tmp 29)),
 .op (.ext 30 (.tmp 23) 0),
 .op (.ext 31 (.tmp 23) 1),
 .op (.new 5 116 [.int .i64 0,.int .i64 0,.int .i64 0,.int .i64 0,.int .i64 0,.int .i64 0,.slice none 0 0,.slice none 0 0,.slice none 0 0]),
 .kp [1,2,3,4,5,30,31],
 .op (.new 6 47 [.int .i64 0,.slice none 0 0,.int .i64 0,.int .i64 0,.int .i64 0,.int .i64 0,.int .i64 0,.int .i64 0,.int .i64 0,.int .i64 0,.bool false]),
 .op (.st 9 (.tmp 5) (.tmp 30)),
 .op (.st 11 (.tmp 6) (.tmp 31)),
 .kp [1,2,3,4,6]]
def f52r4d : List I := [.op (.mov 0 (.tmp 53)),
 .kp [0]]
def f52r4c : List I := .op (.mov 50 (.tmp 49)) ::
 .sc 50 true 2 ::
 .g 50 true (.ld 51 (some 9) (.tmp 3)) ::
 .g 50 true (.call (some 52) 60 [(.tmp 51)]) ::
 .op (.pick 53 (.tmp 50) (.tmp 52) (.const (.bool false))) ::
 .kp [53] ::
 f52r4d
def f52r4b : List I := .op (.mov 45 (.tmp 44)) ::
 .sc 45 true 3 ::
 .g 45 true (.fad 46 0 (.tmp 6)) ::
 .g 45 true (.ld 47 none (.tmp 46)) ::
 .g 45 true (.bin 48 .eql (.tmp 47) (.const (.int .i64 20))) ::
 .op (.pick 49 (.tmp 45) (.tmp 48) (.const (.bool false))) ::
 .kp [49,3] ::
 f52r4c
def f52r4a : List I := .op (.mov 40 (.tmp 39)) ::
 .sc 40 true 3 ::
 .g 40 true (.fad 41 0 (.tmp 4)) ::
 .g 40 true (.ld 42 none (.tmp 41)) ::
 .g 40 true (.bin 43 .eql (.tmp 42) (.const (.int .i64 0))) ::
 .op (.pick 44 (.tmp 40) (.tmp 43) (.const (.bool false))) ::
 .kp [44,3,6] ::
 f52r4b
def f52r4 : List I := .op (.fad 32 0 (.tmp 2)) ::
 .op (.ld 33 none (.tmp 32)) ::
 .op (.bin 34 .eql (.tmp 33) (.const (.int .i64 0))) ::
 .op (.mov 35 (.tmp 34)) ::
 .sc 35 true 3 ::
 .g 35 true (.fad 36 1 (.tmp 1)) ::
 .g 35 true (.ld 37 none (.tmp 36)) ::
 .g 35 true (.bin 38 .eql (.tmp 37) (.const (.int .i64 2))) ::
 .op (.pick 39 (.tmp 35) (.tmp 38) (.const (.bool false))) ::
 .kp [39,3,4,6] ::
 f52r4a
def f52c4 : C := (.seq (.reg f52r4) .ret)
def f52c3 : C := (.seq (.reg f52r3) f52c4)
def f52c2 : C := (.seq (.reg f52r2) f52c3)
def f52c1 : C := (.seq (.reg f52r1) f52c2)
def f52c0 : C := (.seq (.reg f52r0) f52c1)
theorem f52cmp : cmpF Try.prog Try.f52 [.l [.o 0,.kp []],
 .l [.o 0,.o 1,.o 2,.o 3,.o 4,.o 5,.o 6,.o 7,.o 8,.o 9,.kp [1,2]],
 .l [.o 0,.o 1,.o 2,.o 3,.o 4,.o 5,.o 6,.o 7,.o 8,.o 9,.kp [1,2,21,22],.o 10,.o 11,.o 12,.o 13,.kp [1,2,3,4]],
 .l [.o 0,.o 1,.o 2,.o 3,.o 4,.o 5,.o 6,.o 7,.o 8,.o 9,.kp [1,2,3,4,5,30,31],.o 10,.o 11,.o 12,.kp [1,2,3,4,6]],
 .l [.o 0,.o 1,.o 2,.o 3,.sc 35 true 3,.o 4,.o 5,.o 6,.o 7,.kp [39,3,4,6],.o 8,.sc 40 true 3,.o 9,.o 10,.o 11,.o 12,.kp [44,3,6],.o 13,.sc 45 true 3,.o 14,.o 15,.o 16,.o 17,.kp [49,3],.o 18,.sc 50 true 2,.o 19,.o 20,.o 21,.kp [53],.o 22,.kp [0]]] = some (f52c0,[.tmp 0]) := by kernel_rfl
theorem f52ok {args : List Value} {h : Heap} {R : Value → Heap → Prop} (hn : args.length ≤ 54) (H : wC Try.prog f52c0 (endW [.tmp 0] R) (envOf 0 args) h) : CallsH Try.prog 52 args h R :=
 fn_ok2 Try.func52 f52cmp hn H
section
variable {P : Program} {Q : X → Env → Heap → Prop} {σ : Env} {h : Heap}
theorem f52c4_eq : wC P f52c4 Q σ h = (wL P none f52r4 0 (fun σ h => Q .ret σ h) σ h) := rfl
theorem f52c3_eq : wC P f52c3 Q σ h = (wL P none f52r3 0 (fun σ h => wC P f52c4 Q σ h) σ h) := rfl
theorem f52c2_eq : wC P f52c2 Q σ h = (wL P none f52r2 0 (fun σ h => wC P f52c3 Q σ h) σ h) := rfl
theorem f52c1_eq : wC P f52c1 Q σ h = (wL P none f52r1 0 (fun σ h => wC P f52c2 Q σ h) σ h) := rfl
theorem f52c0_eq : wC P f52c0 Q σ h = (wL P none f52r0 0 (fun σ h => wC P f52c1 Q σ h) σ h) := rfl
end
end Go.Proofs.Ytefghfgmkndikaa
namespace Go.AX
open Go
/-- A slice of commands. -/
def SlM (B : Nat → Prop) (h : Heap) (a : Option Addr) (cs : List Cmd) : Prop := ∃ vs : List CmV,All2 (CmR B h) vs cs ∧ SlF B h eCm a vs
theorem SlM.ext {B : Nat → Prop} {h h' : Heap} {a : Option Addr} {cs : List Cmd} (S : SlM B h a cs) (x : Ext h h') : SlM B h' a cs := let ⟨vs,h1,h2⟩ := S; ⟨vs,h1.imp fun _ _ r => r.ext x,h2.ext x⟩
theorem SlM.elem {B : Nat → Prop} {h : Heap} {a : Option Addr} {cs : List Cmd} (S : SlM B h a cs) {i : Nat} {c : Cmd} (hi : cs[i]? = some c) : ∃ b o v,a = some ⟨b,o,none⟩ ∧ B b ∧ Row h b (o + i * 14) (eCm v) ∧ CmR B h v c := by
 obtain ⟨vs,h1,h2⟩ := S
 obtain ⟨v,hv,hr⟩ := h1.get hi
 obtain ⟨b,o,e1,e2,e3⟩ := h2.elem eCm_len hv
 exact ⟨b,o,v,e1,e2,e3,hr⟩
theorem row_cm {h : Heap} {b o : Nat} {v : CmV} (r : Row h b o (eCm v)) : rd h b o 14 = some (eCm v) := r.rd0 14 (Nat.le_refl _)
end Go.AX
namespace Go.Proofs.Ytefghfgmkndikaa
open Go Go.AX
def emptyP : Prt := ⟨⟨0,0,⟨0,0⟩,0,0⟩,[],[],[]⟩
/-- A command whose epoch is the part's, or the next one. -/
def ownM (p : Prt) (c : Cmd) : Cmd := { c with s := { c.s with epoch := if c.s.kind = 1 then p.s.epoch + 1 else p.s.epoch } }
/-- A command that is not too great. -/
def Lt100 (c : Cmd) : Prop := c.spans.length < 100 ∧ c.writes.length < 100
/-- A state that is not too great, its epoch in its bounds. -/
structure GdP (n : Nat) (p : Prt) : Prop where
 sz : SzP n p
 e0 : 0 ≤ p.s.epoch
 e1 : p.s.epoch ≤ mostEpoch
theorem GdP.mono {n m : Nat} {p : Prt} (g : GdP n p) (h : n ≤ m) : GdP m p := ⟨g.sz.mono h,g.e0,g.e1⟩
theorem lockG' {n : Nat} {cs : List Cell} (g : Gd n cs) (w : Wri) (l : Lck) : Gd (n + 1) (lockL cs w l) := ⟨lock_good w l g.good,lock_sz w l g.sz⟩
theorem settleG' {n : Nat} {cs : List Cell} (g : Gd n cs) (b : Try4) (y : Bool) : Gd (n + 1) (settleL cs b y) := ⟨settle_good b y g.good,settle_sz b y g.good g.sz⟩
theorem trimG' {n : Nat} {cs : List Cell} (g : Gd n cs) (t : Stamp) : Gd n (trimL cs t) := ⟨trim_good t g.good,trim_sz t g.sz⟩
theorem locksG {l : Lck} : ∀ (ws : List Wri) {n : Nat} {cs : List Cell},Gd n cs → Gd (n + ws.length) (ws.foldl (fun cs w => lockL cs w l) cs)
 | [],_,_,g => g
 | w :: ws,n,cs,g => by
  have := locksG (l := l) ws (lockG' g w l)
  rw [List.foldl_cons,List.length_cons,show n + (ws.length + 1) = n + 1 + ws.length by omega]
  exact this
theorem readP_1 (p : Prt) (c : Cmd) : (readP p c).1 = p ∨ (readP p c).1 = { p with s := { p.s with floor := maxS p.s.floor c.s.at_ } } := by
 unfold readP
 split
 ·exact .inl rfl
 ·split
  ·exact .inl rfl
  ·dsimp only
   split
   ·exact .inr rfl
   ·exact .inl rfl
theorem prepP_1 (p : Prt) (c : Cmd) : (prepP p c).1 = p ∨ (prepP p c).1 = { p with cells := c.writes.foldl (fun cs w => lockL cs w (lkC c)) p.cells } := by
 unfold prepP
 split
 ·exact .inl rfl
 ·split
  ·exact .inl rfl
  ·split
   ·exact .inl rfl
   ·split
    ·exact .inl rfl
    ·split
     ·exact .inl rfl
     ·exact .inr rfl
theorem doesG {n : Nat} {p : Prt} {c : Cmd} (g : GdP n p) (hc : Lt100 c) : GdP (n + 100) (doesP p c).1 := by
 have g' := g.mono (Nat.le_add_right n 100)
 obtain ⟨⟨g1,g2,g3⟩,e0,e1⟩ := g
 obtain ⟨_,hw⟩ := hc
 unfold doesP
 split
 ·rcases readP_1 p c with h | h <;> rw [h]
  ·exact g'
  ·exact ⟨⟨g1.mono (by omega),by show p.records.length ≤ _; omega,by show p.done.length ≤ _; omega⟩,e0,e1⟩
 split
 ·rcases prepP_1 p c with h | h <;> rw [h]
  ·exact g'
  ·exact ⟨⟨(locksG c.writes g1).mono (by omega),by show p.records.length ≤ _; omega,by show p.done.length ≤ _; omega⟩,e0,e1⟩
 split
 ·split
  ·exact g'
  ·exact ⟨⟨g1.mono (by omega),by show (p.records ++ [_]).length ≤ _; simp; omega,by show p.done.length ≤ _; omega⟩,e0,e1⟩
 split
 ·refine ⟨⟨(settleG' g1 _ _).mono (by omega),by show p.records.length ≤ _; omega,?_⟩,e0,e1⟩
  show List.length (match findO p.done c.s.by_ with | some _ => p.done | none => p.done ++ [outC c]) ≤ _
  split
  ·omega
  ·simp; omega
 split
 ·exact ⟨⟨g1.mono (by omega),by show p.records.length ≤ _; omega,by show p.done.length ≤ _; omega⟩,e0,e1⟩
 split
 ·exact ⟨⟨(trimG' g1 _).mono (by omega),by show p.records.length ≤ _; omega,by show p.done.length ≤ _; omega⟩,e0,e1⟩
 ·exact g'
theorem leaseG {n : Nat} {p : Prt} {c : Cmd} (g : GdP n p) : GdP n (leaseP p c).1 := by
 unfold leaseP
 split
 ·exact g
 ·rename_i h
  have h0 := g.e0
  refine ⟨⟨g.sz.cells,g.sz.records,g.sz.done⟩,?_,?_⟩
  ·show 0 ≤ c.s.epoch; omega
  ·show c.s.epoch ≤ mostEpoch; omega
theorem applyG {n : Nat} {p : Prt} {c : Cmd} (g : GdP n p) (hc : Lt100 c) : GdP (n + 100) (applyP p c).1 := by
 have g' := g.mono (Nat.le_add_right n 100)
 have key : ∀ r : Prt × Rep,GdP (n + 100) r.1 → GdP (n + 100) (if r.2.s.err = 0 then r else (p,r.2)).1 := by
  intro r hr
  split
  ·exact hr
  ·exact g'
 unfold applyP
 refine key _ ?_
 split
 ·exact (leaseG g).mono (by omega)
 ·split
  ·exact g'
  ·exact doesG g hc
theorem emptyG : GdP 0 emptyP := ⟨⟨⟨(gdRun []).good,(gdRun []).sz⟩,Nat.le_refl _,Nat.le_refl _⟩,by decide,by decide⟩
theorem own_okP (pv : PrV) (p : Prt) (cv : CmV) (c : Cmd) (other : Bool) (h : Heap) {B : Nat → Prop} (hp : pv.s = p.s) (C : CmR B h cv c) (e0 : 0 ≤ p.s.epoch) (e1 : p.s.epoch ≤ mostEpoch) {R : Value → Heap → Prop}
  (hR : ∀ cv' h',CmR B h' cv' (if other then c else ownM p c) → Ext h h' → R (.agg (eCm cv').toArray) h') : CallsH Try.prog 54 [.agg (ePr pv).toArray,.agg (eCm cv).toArray,.bool other] h R := by
 have hm : mostEpoch = 1099511627776 := rfl
 have hcs := C.s
 refine f54ok (by simp) ?_
 (try simp (maxSteps:=1000000) (disch:=first|exact Lb rfl|omega) only [AXS,AXB,J.dst,reduceIte,Z1,Z2,Z3,Z4,Z5]); rw [f54c0_eq]; (try simp (maxSteps:=1000000) (disch:=first|exact Lb rfl|omega) only [AXS,AXB,J.dst,reduceIte,Z1,Z2,Z3,Z4,Z5,f54r0])
 refine wL_boxN rfl ?_; rintro b3 h1 x1 s1 hb3 (B3 : Blk _ _ _ (ePr pv))
 refine wL_boxN rfl ?_; rintro b4 h2 x2 s2 hb4 (B4 : Blk _ _ _ (eCm cv))
 try simp (maxSteps:=1000000) (disch:=first|exact Lb rfl|omega) only [AXS,AXB,J.dst,reduceIte,Z1,Z2,Z3,Z4,Z5]
 refine wL_newN ?_; rintro b6 h3 x3 s3 hb6 B6
 replace B3 := B3.ext x2
 replace B3 := B3.ext x3; replace B4 := B4.ext x3
 have x03 := (x1.trans x2).trans x3
 have fin : ∀ (h5 : Heap) (cv' : CmV) (τ : Env),Ext h h5 → Blk h5 b4 43 (eCm cv') → Blk h5 b6 43 (eCm ⟨⟨0,0,0,0,⟨0,0,0,0⟩,⟨0,0⟩,0,false⟩,none,0,0,none,0,0⟩) → CmR B h cv' (if other then c else ownM p c) → AX.look τ 4 = some (ptr b4 0) → AX.look τ 6 = some (ptr b6 0) →
   wC Try.prog f54c7 (endW [.cell 6 14] R) τ h5 := by
  intro h5 cv' τ x5 D4 D6 C5 t4 t6
  (try simp (maxSteps:=1000000) (disch:=first|exact Lb rfl|omega) only [AXS,AXB,J.dst,reduceIte,Z1,Z2,Z3,Z4,Z5]); rw [f54c7_eq]; (try simp (maxSteps:=1000000) (disch:=first|exact Lb rfl|omega) only [AXS,AXB,J.dst,reduceIte,Z1,Z2,Z3,Z4,Z5,f54r5,t4,t6,D4.rd,eCm])
  refine wL_stN (show AX.look _ _ = _ from t6) rfl rfl D6 (by decide) (eCm_one cv') ?_
  rintro h6 u6 (B7 : Blk _ _ _ (eCm cv'))
  simp (maxSteps:=1000000) (disch:=first|exact Lb rfl|omega) only [AXS,AXB,J.dst,reduceIte,Z1,Z2,Z3,Z4,Z5,B7.rd,eCm,t6]
  exact hR cv' h6 (C5.ext (u6.ext x5 (by omega))) (u6.ext x5 (by omega))
 (try simp (maxSteps:=1000000) (disch:=first|exact Lb rfl|omega) only [AXS,AXB,J.dst,reduceIte,Z1,Z2,Z3,Z4,Z5]); rw [f54c1_eq]; (try simp (maxSteps:=1000000) (disch:=first|exact Lb rfl|omega) only [AXS,AXB,J.dst,reduceIte,Z1,Z2,Z3,Z4,Z5,f54r1]); rw [f54c2_eq]; (try simp (maxSteps:=1000000) (disch:=first|exact Lb rfl|omega) only [AXS,AXB,J.dst,reduceIte,Z1,Z2,Z3,Z4,Z5])
 refine ⟨fun hh => ?_,fun hh => ?_⟩
 ·have ho : other = false := by simpa using hh
  subst ho
  (try simp (maxSteps:=1000000) (disch:=first|exact Lb rfl|omega) only [AXS,AXB,J.dst,reduceIte,Z1,Z2,Z3,Z4,Z5]); rw [f54c3_eq]; (try simp (maxSteps:=1000000) (disch:=first|exact Lb rfl|omega) only [AXS,AXB,J.dst,reduceIte,Z1,Z2,Z3,Z4,Z5,f54r2,B3.cel,ePr,hp])
  refine wL_stN rfl rfl rfl B4 (by rw [eCm_len]; exact Nat.le_of_ble_eq_true rfl) int_one ?_
  rintro h4 u4 (D4 : Blk _ _ _ (eCm { cv with s := { cv.s with epoch := p.s.epoch } }))
  have C6 := u4.blk B6 (by omega)
  have y4 := u4.size
  (try simp (maxSteps:=1000000) (disch:=first|exact Lb rfl|omega) only [AXS,AXB,J.dst,reduceIte,Z1,Z2,Z3,Z4,Z5]); rw [f54c4_eq]; (try simp (maxSteps:=1000000) (disch:=first|exact Lb rfl|omega) only [AXS,AXB,J.dst,reduceIte,Z1,Z2,Z3,Z4,Z5,f54r3,D4.cel,eCm,hcs]); rw [f54c5_eq]; (try simp (maxSteps:=1000000) (disch:=first|exact Lb rfl|omega) only [AXS,AXB,J.dst,reduceIte,Z1,Z2,Z3,Z4,Z5,D4.cel,eCm,hcs])
  refine ⟨fun hk => ?_,fun hk => ?_⟩
  ·have hk' : c.s.kind = 1 := by simpa using hk
   (try simp (maxSteps:=1000000) (disch:=first|exact Lb rfl|omega) only [AXS,AXB,J.dst,reduceIte,Z1,Z2,Z3,Z4,Z5]); rw [f54c6_eq]; (try simp (maxSteps:=1000000) (disch:=first|exact Lb rfl|omega) only [AXS,AXB,J.dst,reduceIte,Z1,Z2,Z3,Z4,Z5,f54r4,D4.cel,eCm])
   rw [i64_wrap (by omega) (by omega)]
   refine wL_stN rfl rfl rfl D4 (by rw [eCm_len]; exact Nat.le_of_ble_eq_true rfl) int_one ?_
   rintro h5 u5 (D5 : Blk _ _ _ (eCm { cv with s := { cv.s with epoch := p.s.epoch + 1 } }))
   try simp (maxSteps:=1000000) (disch:=first|exact Lb rfl|omega) only [AXS,AXB,J.dst,reduceIte,Z1,Z2,Z3,Z4,Z5]
   refine fin h5 _ _ (u5.ext (u4.ext x03 (by omega)) (by omega)) D5 (u5.blk C6 (by omega)) ⟨?_,C.sn,C.wn,C.spans,C.writes⟩ rfl rfl
   show _ = { c.s with epoch := if c.s.kind = 1 then p.s.epoch + 1 else p.s.epoch }
   rw [if_pos hk',← hcs]
  ·have hk' : ¬ c.s.kind = 1 := by simpa using hk
   try simp (maxSteps:=1000000) (disch:=first|exact Lb rfl|omega) only [AXS,AXB,J.dst,reduceIte,Z1,Z2,Z3,Z4,Z5]
   refine fin h4 _ _ (u4.ext x03 (by omega)) D4 C6 ⟨?_,C.sn,C.wn,C.spans,C.writes⟩ rfl rfl
   show _ = { c.s with epoch := if c.s.kind = 1 then p.s.epoch + 1 else p.s.epoch }
   rw [if_neg hk',← hcs]
 ·have ho : other = true := by simpa using hh
  subst ho
  exact fin h3 cv _ x03 B4 B6 C rfl rfl
theorem lightM_ok (cv : CmV) (c : Cmd) (h : Heap) {B : Nat → Prop} (C : CmR B h cv c) (ws : c.spans.length ≤ maxLen) (ww : c.writes.length ≤ maxLen) {R : Value → Heap → Prop}
  (hR : ∀ (b : Bool) h',(b = true → Lt100 c) → Ext h h' → R (.bool b) h') : CallsH Try.prog 94 [.agg (eCm cv).toArray] h R := by
 unfold maxLen at ws ww
 have hsn := C.sn
 have hwn := C.wn
 refine f94ok (by simp) ?_
 (try simp (maxSteps:=1000000) (disch:=first|exact Lb rfl|omega) only [AXS,AXB,J.dst,reduceIte,Z1,Z2,Z3,Z4,Z5]); rw [f94c0_eq]; (try simp (maxSteps:=1000000) (disch:=first|exact Lb rfl|omega) only [AXS,AXB,J.dst,reduceIte,Z1,Z2,Z3,Z4,Z5,f94r0])
 refine wL_boxN rfl ?_; rintro b1 h1 x1 s1 hb1 (B1 : Blk _ _ _ (eCm cv))
 (try simp (maxSteps:=1000000) (disch:=first|exact Lb rfl|omega) only [AXS,AXB,J.dst,reduceIte,Z1,Z2,Z3,Z4,Z5]); rw [f94c1_eq]; (try simp (maxSteps:=1000000) (disch:=first|exact Lb rfl|omega) only [AXS,AXB,J.dst,reduceIte,Z1,Z2,Z3,Z4,Z5,f94r1]); rw [f94c2_eq]; (try simp (maxSteps:=1000000) (disch:=first|exact Lb rfl|omega) only [AXS,AXB,J.dst,reduceIte,Z1,Z2,Z3,Z4,Z5,f94r2])
 rw [f94c3_eq]
 refine loop_in (fun m σ h' => h' = h1 ∧ ∃ (k : Nat) (n : Int),k + m = c.spans.length ∧ 0 ≤ n ∧ n ≤ 40000 ∧ σ = [(1,ptr b1 0),(3,vi n),(4,vi k)]) c.spans.length ⟨rfl,0,0,by omega,by omega,by omega,rfl⟩ ?_
 rintro m σ h' ⟨rfl,k,n,hk,hn0,hn1,rfl⟩ Q' hnx hex hrt _
 rw [f94c4_eq]
 simp (maxSteps:=1000000) (disch:=first|exact Lb rfl|omega) only [AXJ,AXS,AXB,J.dst,reduceIte,Z1,Z2,Z3,Z4,Z5,f94r3,B1.cel,eCm,hsn]
 try simp (maxSteps:=1000000) (disch:=first|exact Lb rfl|omega) only [AXS,AXB,J.dst,reduceIte,Z1,Z2,Z3,Z4,Z5]
 (try simp (maxSteps:=1000000) (disch:=first|exact Lb rfl|omega) only [AXS,AXB,J.dst,reduceIte,Z1,Z2,Z3,Z4,Z5]); rw [f94c5_eq]; (try simp (maxSteps:=1000000) (disch:=first|exact Lb rfl|omega) only [AXS,AXB,J.dst,reduceIte,Z1,Z2,Z3,Z4,Z5])
 refine ⟨fun hh => ?_,fun hh => ?_⟩
 ·have hh' : (k : Int) < c.spans.length ∧ n < 16384 := by simpa using hh
  obtain ⟨s,hx⟩ := get_ex (show k < c.spans.length by omega)
  obtain ⟨b',o,hsa,hBb,hrow⟩ := (C.spans.ext x1).elem eSpn_len hx
  have hrow' : rd h' b' (o + k * 2) 2 = some (eSpn s) ∧ cel h' b' (o + k * 2 + 0) = some (.string s.lo) ∧ cel h' b' (o + k * 2 + 1) = some (.string s.hi) := ⟨hrow.rd0 2 (Nat.le_refl _),hrow 0 (by rw [eSpn_len]; omega),hrow 1 (by rw [eSpn_len]; omega)⟩
  try simp (maxSteps:=1000000) (disch:=first|exact Lb rfl|omega) only [AXS,AXB,J.dst,reduceIte,Z1,Z2,Z3,Z4,Z5]
  rw [f94c6_eq,f94c7_eq]
  simp (maxSteps:=1000000) (disch:=first|exact Lb rfl|omega) only [AXJ,AXS,AXB,J.dst,reduceIte,Z1,Z2,Z3,Z4,Z5,f94r4,B1.cel,eCm,hsn,hsa,hrow']
  refine ⟨by omega,by omega,fun _ => by omega,fun _ => by omega,?_⟩
  (try simp (maxSteps:=1000000) (disch:=first|exact Lb rfl|omega) only [AXS,AXB,J.dst,reduceIte,Z1,Z2,Z3,Z4,Z5]); rw [f94c8_eq]; (try simp (maxSteps:=1000000) (disch:=first|exact Lb rfl|omega) only [AXS,AXB,J.dst,reduceIte,Z1,Z2,Z3,Z4,Z5])
  refine ⟨fun h8 => ?_,fun h8 => ?_⟩
  ·(try simp (maxSteps:=1000000) (disch:=first|exact Lb rfl|omega) only [AXS,AXB,J.dst,reduceIte,Z1,Z2,Z3,Z4,Z5]); rw [f94c9_eq]; (try simp (maxSteps:=1000000) (disch:=first|exact Lb rfl|omega) only [AXS,AXB,J.dst,reduceIte,Z1,Z2,Z3,Z4,Z5,f94r5])
   refine hrt _ _ ?_
   try simp (maxSteps:=1000000) (disch:=first|exact Lb rfl|omega) only [AXS,AXB,J.dst,reduceIte,Z1,Z2,Z3,Z4,Z5]
   exact hR false _ (fun h => by cases h) x1
  ·have h8' : (s.lo.size : Int) ≤ 8192 ∧ (s.hi.size : Int) ≤ 8192 := by simpa using h8
   try simp (maxSteps:=1000000) (disch:=first|exact Lb rfl|omega) only [AXS,AXB,J.dst,reduceIte,Z1,Z2,Z3,Z4,Z5]
   rw [f94c10_eq]
   refine drw_lt ?_
   simp (maxSteps:=1000000) (disch:=first|exact Lb rfl|omega) only [AXS,AXB,J.dst,reduceIte,Z1,Z2,Z3,Z4,Z5,f94r6,B1.cel,eCm,hsn,hsa,hrow']
   have hb' := hrow.lt (by rw [eSpn_len]; omega)
   have hb1' := B1.lt
   refine ⟨hb1',by omega,by omega,hb',hb1',by omega,by omega,hb',?_⟩
   rw [i64_wrap (show (-9223372036854775808 : Int) ≤ n + s.lo.size by omega) (by omega),i64_wrap (by omega) (by omega)]
   (try simp (maxSteps:=1000000) (disch:=first|exact Lb rfl|omega) only [AXS,AXB,J.dst,reduceIte,Z1,Z2,Z3,Z4,Z5]); rw [f94c11_eq]; (try simp (maxSteps:=1000000) (disch:=first|exact Lb rfl|omega) only [AXS,AXB,J.dst,reduceIte,Z1,Z2,Z3,Z4,Z5,f94r7])
   rw [i64_wrap (by omega) (by omega)]
   exact hnx (m - 1) _ _ (by omega) ⟨rfl,k + 1,n + s.lo.size + s.hi.size,by omega,by omega,by omega,rfl⟩
 ·refine hex _ _ ?_
  clear hh hk
  (try simp (maxSteps:=1000000) (disch:=first|exact Lb rfl|omega) only [AXS,AXB,J.dst,reduceIte,Z1,Z2,Z3,Z4,Z5]); rw [f94c12_eq]; (try simp (maxSteps:=1000000) (disch:=first|exact Lb rfl|omega) only [AXS,AXB,J.dst,reduceIte,Z1,Z2,Z3,Z4,Z5,f94r8])
  rw [f94c13_eq]
  refine loop_in (fun m σ h2 => h2 = h' ∧ ∃ (k : Nat) (n : Int),k + m = c.writes.length ∧ 0 ≤ n ∧ n ≤ 40000 ∧ σ = [(1,ptr b1 0),(3,vi n),(5,vi k)]) c.writes.length ⟨rfl,0,n,by omega,by omega,by omega,rfl⟩ ?_
  clear hn0 hn1 n k
  rintro m σ h2 ⟨rfl,k,n,hk,hn0,hn1,rfl⟩ Q2 hnx2 hex2 hrt2 _
  rw [f94c14_eq]
  simp (maxSteps:=1000000) (disch:=first|exact Lb rfl|omega) only [AXJ,AXS,AXB,J.dst,reduceIte,Z1,Z2,Z3,Z4,Z5,f94r9,B1.cel,eCm,hwn]
  try simp (maxSteps:=1000000) (disch:=first|exact Lb rfl|omega) only [AXS,AXB,J.dst,reduceIte,Z1,Z2,Z3,Z4,Z5]
  (try simp (maxSteps:=1000000) (disch:=first|exact Lb rfl|omega) only [AXS,AXB,J.dst,reduceIte,Z1,Z2,Z3,Z4,Z5]); rw [f94c15_eq]; (try simp (maxSteps:=1000000) (disch:=first|exact Lb rfl|omega) only [AXS,AXB,J.dst,reduceIte,Z1,Z2,Z3,Z4,Z5])
  refine ⟨fun hh => ?_,fun hh => ?_⟩
  ·have hh' : (k : Int) < c.writes.length ∧ n < 16384 := by simpa using hh
   obtain ⟨w,hx⟩ := get_ex (show k < c.writes.length by omega)
   obtain ⟨b',o,hsa,hBb,hrow⟩ := (C.writes.ext x1).elem eWri_len hx
   have hrow' := row_wri hrow
   try simp (maxSteps:=1000000) (disch:=first|exact Lb rfl|omega) only [AXS,AXB,J.dst,reduceIte,Z1,Z2,Z3,Z4,Z5]
   rw [f94c16_eq,f94c17_eq]
   simp (maxSteps:=1000000) (disch:=first|exact Lb rfl|omega) only [AXJ,AXS,AXB,J.dst,reduceIte,Z1,Z2,Z3,Z4,Z5,f94r10,B1.cel,eCm,hwn,hsa,hrow']
   refine ⟨by omega,by omega,fun _ => by omega,fun _ => by omega,?_⟩
   (try simp (maxSteps:=1000000) (disch:=first|exact Lb rfl|omega) only [AXS,AXB,J.dst,reduceIte,Z1,Z2,Z3,Z4,Z5]); rw [f94c18_eq]; (try simp (maxSteps:=1000000) (disch:=first|exact Lb rfl|omega) only [AXS,AXB,J.dst,reduceIte,Z1,Z2,Z3,Z4,Z5])
   refine ⟨fun h8 => ?_,fun h8 => ?_⟩
   ·(try simp (maxSteps:=1000000) (disch:=first|exact Lb rfl|omega) only [AXS,AXB,J.dst,reduceIte,Z1,Z2,Z3,Z4,Z5]); rw [f94c19_eq]; (try simp (maxSteps:=1000000) (disch:=first|exact Lb rfl|omega) only [AXS,AXB,J.dst,reduceIte,Z1,Z2,Z3,Z4,Z5,f94r11])
    refine hrt2 _ _ ?_
    try simp (maxSteps:=1000000) (disch:=first|exact Lb rfl|omega) only [AXS,AXB,J.dst,reduceIte,Z1,Z2,Z3,Z4,Z5]
    exact hR false _ (fun h => by cases h) x1
   ·have h8' : (w.key.size : Int) ≤ 8192 ∧ (w.data.size : Int) ≤ 8192 := by simpa using h8
    try simp (maxSteps:=1000000) (disch:=first|exact Lb rfl|omega) only [AXS,AXB,J.dst,reduceIte,Z1,Z2,Z3,Z4,Z5]
    rw [f94c20_eq]
    refine drw_lt ?_
    simp (maxSteps:=1000000) (disch:=first|exact Lb rfl|omega) only [AXS,AXB,J.dst,reduceIte,Z1,Z2,Z3,Z4,Z5,f94r12,B1.cel,eCm,hwn,hsa,hrow']
    have hb' := hrow.lt (by rw [eWri_len]; omega)
    have hb1' := B1.lt
    refine ⟨hb1',by omega,by omega,hb',hb1',by omega,by omega,hb',?_⟩
    rw [i64_wrap (show (-9223372036854775808 : Int) ≤ n + w.key.size by omega) (by omega),i64_wrap (by omega) (by omega)]
    (try simp (maxSteps:=1000000) (disch:=first|exact Lb rfl|omega) only [AXS,AXB,J.dst,reduceIte,Z1,Z2,Z3,Z4,Z5]); rw [f94c21_eq]; (try simp (maxSteps:=1000000) (disch:=first|exact Lb rfl|omega) only [AXS,AXB,J.dst,reduceIte,Z1,Z2,Z3,Z4,Z5,f94r13])
    rw [i64_wrap (by omega) (by omega)]
    exact hnx2 (m - 1) _ _ (by omega) ⟨rfl,k + 1,n + w.key.size + w.data.size,by omega,by omega,by omega,rfl⟩
  ·refine hex2 _ _ ?_
   try simp (maxSteps:=1000000) (disch:=first|exact Lb rfl|omega) only [AXS,AXB,J.dst,reduceIte,Z1,Z2,Z3,Z4,Z5]
   rw [f94c22_eq]
   simp (maxSteps:=1000000) (disch:=first|exact Lb rfl|omega) only [AXJ,AXS,AXB,J.dst,reduceIte,Z1,Z2,Z3,Z4,Z5,f94r14,B1.cel,eCm,hsn]
   simp (maxSteps:=1000000) (disch:=first|exact Lb rfl|omega) only [AXJ,AXS,AXB,J.dst,reduceIte,Z1,Z2,Z3,Z4,Z5,f94r14a,f94r14b,B1.cel,eCm,hwn]
   generalize hcc : (decide (n < 8192) && decide ((c.spans.length : Int) < 100)) = cc
   cases cc with
   | false => rw [br_false]; exact hR false _ (fun h => by cases h) x1
   | true =>
    rw [br_true]
    refine hR _ _ (fun hw => ?_) x1
    simp only [Bool.and_eq_true,decide_eq_true_eq] at hcc hw
    exact ⟨by omega,by omega⟩
/-- Are commands not too many, too great? -/
def LightM (l : List Cmd) (most : Int) : Prop := (l.length : Int) ≤ most ∧ ∀ c ∈ l,Lt100 c
def LenM (l : List Cmd) : Prop := l.length ≤ maxLen ∧ ∀ c ∈ l,c.spans.length ≤ maxLen ∧ c.writes.length ≤ maxLen
theorem lightP_ok (l : List Cmd) (most : Int) (h : Heap) {B : Nat → Prop} {a : Option Addr} {n : Nat} (S : SlM B h a l) (F : LenM l) {R : Value → Heap → Prop}
  (hR : ∀ (b : Bool) h',(b = true → LightM l most) → Ext h h' → R (.bool b) h') : CallsH Try.prog 53 [.slice a l.length n,vi most] h R := by
 have F1 := F.1
 unfold maxLen at F1
 refine f53ok (by simp) ?_
 (try simp (maxSteps:=1000000) (disch:=first|exact Lb rfl|omega) only [AXS,AXB,J.dst,reduceIte,Z1,Z2,Z3,Z4,Z5]); rw [f53c0_eq]; (try simp (maxSteps:=1000000) (disch:=first|exact Lb rfl|omega) only [AXS,AXB,J.dst,reduceIte,Z1,Z2,Z3,Z4,Z5,f53r0]); rw [f53c1_eq]; (try simp (maxSteps:=1000000) (disch:=first|exact Lb rfl|omega) only [AXS,AXB,J.dst,reduceIte,Z1,Z2,Z3,Z4,Z5,f53r1]); rw [f53c2_eq]; (try simp (maxSteps:=1000000) (disch:=first|exact Lb rfl|omega) only [AXS,AXB,J.dst,reduceIte,Z1,Z2,Z3,Z4,Z5])
 refine ⟨fun hh => ?_,fun hh => ?_⟩
 ·(try simp (maxSteps:=1000000) (disch:=first|exact Lb rfl|omega) only [AXS,AXB,J.dst,reduceIte,Z1,Z2,Z3,Z4,Z5]); rw [f53c3_eq]; (try simp (maxSteps:=1000000) (disch:=first|exact Lb rfl|omega) only [AXS,AXB,J.dst,reduceIte,Z1,Z2,Z3,Z4,Z5,f53r2])
  exact hR false h (fun h => by cases h) (Ext.refl h)
 ·have hm : (l.length : Int) ≤ most := by have := of_decide_eq_false hh; omega
  clear hh
  (try simp (maxSteps:=1000000) (disch:=first|exact Lb rfl|omega) only [AXS,AXB,J.dst,reduceIte,Z1,Z2,Z3,Z4,Z5]); rw [f53c4_eq]; (try simp (maxSteps:=1000000) (disch:=first|exact Lb rfl|omega) only [AXS,AXB,J.dst,reduceIte,Z1,Z2,Z3,Z4,Z5,f53r3])
  rw [f53c5_eq]
  refine loop_in (fun m σ h' => Ext h h' ∧ ∃ k : Nat,k + m = l.length ∧ (∀ j c,j < k → l[j]? = some c → Lt100 c) ∧ σ = [(0,.slice a l.length n),(5,vi k)]) l.length ⟨Ext.refl h,0,by omega,by intros; omega,rfl⟩ ?_
  rintro m σ h1 ⟨x1,k,hk,hj,rfl⟩ Q' hnx hex hrt _
  (try simp (maxSteps:=1000000) (disch:=first|exact Lb rfl|omega) only [AXS,AXB,J.dst,reduceIte,Z1,Z2,Z3,Z4,Z5]); rw [f53c6_eq]; (try simp (maxSteps:=1000000) (disch:=first|exact Lb rfl|omega) only [AXS,AXB,J.dst,reduceIte,Z1,Z2,Z3,Z4,Z5,f53r4]); rw [f53c7_eq]; (try simp (maxSteps:=1000000) (disch:=first|exact Lb rfl|omega) only [AXS,AXB,J.dst,reduceIte,Z1,Z2,Z3,Z4,Z5])
  refine ⟨fun hh => ?_,fun hh => ?_⟩
  ·have hkl : k < l.length := by have := of_decide_eq_true hh; omega
   obtain ⟨c,hx⟩ := get_ex hkl
   obtain ⟨b',o,v,rfl,_,hrow,hcr⟩ := (S.ext x1).elem hx
   try simp (maxSteps:=1000000) (disch:=first|exact Lb rfl|omega) only [AXS,AXB,J.dst,reduceIte,Z1,Z2,Z3,Z4,Z5]
   rw [f53c8_eq]
   (try simp (maxSteps:=1000000) (disch:=first|exact Lb rfl|omega) only [AXS,AXB,J.dst,reduceIte,Z1,Z2,Z3,Z4,Z5]); rw [f53c9_eq]; (try simp (maxSteps:=1000000) (disch:=first|exact Lb rfl|omega) only [AXS,AXB,J.dst,reduceIte,Z1,Z2,Z3,Z4,Z5,f53r5,row_cm hrow])
   refine ⟨by omega,by omega,?_⟩
   have hF := F.2 c (List.mem_of_getElem? hx)
   refine lightM_ok v c _ hcr hF.1 hF.2 ?_
   intro b h2 hb x2
   refine ⟨trivial,?_⟩
   (try simp (maxSteps:=1000000) (disch:=first|exact Lb rfl|omega) only [AXS,AXB,J.dst,reduceIte,Z1,Z2,Z3,Z4,Z5]); rw [f53c10_eq]; (try simp (maxSteps:=1000000) (disch:=first|exact Lb rfl|omega) only [AXS,AXB,J.dst,reduceIte,Z1,Z2,Z3,Z4,Z5])
   refine ⟨fun h4 => ?_,fun h4 => ?_⟩
   ·(try simp (maxSteps:=1000000) (disch:=first|exact Lb rfl|omega) only [AXS,AXB,J.dst,reduceIte,Z1,Z2,Z3,Z4,Z5]); rw [f53c11_eq]; (try simp (maxSteps:=1000000) (disch:=first|exact Lb rfl|omega) only [AXS,AXB,J.dst,reduceIte,Z1,Z2,Z3,Z4,Z5,f53r6])
    refine hrt _ _ ?_
    try simp (maxSteps:=1000000) (disch:=first|exact Lb rfl|omega) only [AXS,AXB,J.dst,reduceIte,Z1,Z2,Z3,Z4,Z5]
    exact hR false _ (fun h => by cases h) (x1.trans x2)
   ·have hb' : b = true := by simpa using h4
    (try simp (maxSteps:=1000000) (disch:=first|exact Lb rfl|omega) only [AXS,AXB,J.dst,reduceIte,Z1,Z2,Z3,Z4,Z5]); rw [f53c12_eq]; (try simp (maxSteps:=1000000) (disch:=first|exact Lb rfl|omega) only [AXS,AXB,J.dst,reduceIte,Z1,Z2,Z3,Z4,Z5,f53r7])
    rw [i64_wrap (by omega) (by omega)]
    refine hnx (m - 1) _ _ (by omega) ⟨x1.trans x2,k + 1,by omega,?_,rfl⟩
    intro j c' hjk hc'
    rcases Nat.lt_or_ge j k with hlt | hge
    ·exact hj j c' hlt hc'
    ·have : j = k := by omega
     subst this
     rw [hx] at hc'; cases hc'; exact hb hb'
  ·have hkl : k = l.length := by have := of_decide_eq_false hh; omega
   refine hex _ _ ?_
   (try simp (maxSteps:=1000000) (disch:=first|exact Lb rfl|omega) only [AXS,AXB,J.dst,reduceIte,Z1,Z2,Z3,Z4,Z5]); rw [f53c13_eq]; (try simp (maxSteps:=1000000) (disch:=first|exact Lb rfl|omega) only [AXS,AXB,J.dst,reduceIte,Z1,Z2,Z3,Z4,Z5,f53r8])
   refine hR true _ (fun _ => ⟨hm,fun c hc => ?_⟩) x1
   obtain ⟨j,hjl,rfl⟩ := List.mem_iff_getElem.1 hc
   exact hj j _ (by omega) (List.getElem?_eq_getElem hjl)
end Go.Proofs.Ytefghfgmkndikaa
namespace Go.AX
open Go
end Go.AX
namespace Go.Proofs.Ytefghfgmkndikaa
open Go Go.AX
end Go.Proofs.Ytefghfgmkndikaa
namespace Go.AX
open Go
theorem raw_map {P : Program} {o : Oper} {σ : Env} {h : Heap} {K : Value → Heap → Prop} {t : TypeId} (ho : o.op = .makeMap t none) (H : ∀ h',Ext h h' → h'.size = h.size + 1 → h'[h.size]? = some (.map #[] 0) → K (.map (some h.size)) h') : RawW P o σ h K := by
 refine ⟨?_,?_,?_⟩
 ·rw [ho]; intro u hu
  simp only [Op.operands,Option.toArray,List.mem_toArray,List.not_mem_nil,Array.not_mem_empty] at hu
 ·rw [ho]; intro cs b hh; cases hh
 ·intro w hw
  subst hw
  have hrun : (Instr.makeMap t none).run P w = .ok (.map (some w.heap.size)) { w with heap := w.heap.push (.map #[] 0) } := rfl
  refine ⟨.value (.map (some w.heap.size)),_, { w with heap := w.heap.push (.map #[] 0) },?_,rfl,?_,H _ ((Ext.refl w.heap).push _) (by simp) (by simp)⟩
  ·simp [execOp,ho,hrun]
  ·exact ⟨rfl,rfl,rfl⟩
end Go.AX
namespace Go.Proofs.Ytefghfgmkndikaa
open Go Go.AX
theorem once_none (h : Heap) {a : Option Addr} {c : Nat} {R : Value → Heap → Prop} (hR : ∀ h',Ext h h' → R (.bool true) h') : CallsH Try.prog 102 [.slice a (0 : Nat) c] h R := by
 refine f102ok (by simp) ?_
 (try simp (maxSteps:=1000000) (disch:=first|exact Lb rfl|omega) only [AXS,AXB,J.dst,reduceIte,Z1,Z2,Z3,Z4,Z5]); rw [f102c0_eq]; (try simp (maxSteps:=1000000) (disch:=first|exact Lb rfl|omega) only [AXS,AXB,J.dst,reduceIte,Z1,Z2,Z3,Z4,Z5,f102r0]); rw [f102c1_eq]; (try simp (maxSteps:=1000000) (disch:=first|exact Lb rfl|omega) only [AXS,AXB,J.dst,reduceIte,Z1,Z2,Z3,Z4,Z5,f102r1])
 rw [wL_raw]
 refine raw_map rfl ?_
 intro h1 x1 _ _
 refine ⟨trivial,?_⟩
 (try simp (maxSteps:=1000000) (disch:=first|exact Lb rfl|omega) only [AXS,AXB,J.dst,reduceIte,Z1,Z2,Z3,Z4,Z5]); rw [f102c2_eq]; (try simp (maxSteps:=1000000) (disch:=first|exact Lb rfl|omega) only [AXS,AXB,J.dst,reduceIte,Z1,Z2,Z3,Z4,Z5,f102r2])
 rw [f102c3_eq]
 refine loop_in (fun n σ h' => h' = h1 ∧ σ = [(3,.map (some h.size)),(7,.slice a (0 : Nat) c),(8,vi (0 : Nat)),(9,vi (0 : Nat))]) 0 ⟨rfl,rfl⟩ ?_
 rintro n σ h' ⟨rfl,rfl⟩ Q' hnx hex hrt _
 (try simp (maxSteps:=1000000) (disch:=first|exact Lb rfl|omega) only [AXS,AXB,J.dst,reduceIte,Z1,Z2,Z3,Z4,Z5]); rw [f102c4_eq]; (try simp (maxSteps:=1000000) (disch:=first|exact Lb rfl|omega) only [AXS,AXB,J.dst,reduceIte,Z1,Z2,Z3,Z4,Z5,f102r3]); rw [f102c5_eq]; (try simp (maxSteps:=1000000) (disch:=first|exact Lb rfl|omega) only [AXS,AXB,J.dst,reduceIte,Z1,Z2,Z3,Z4,Z5])
 refine ⟨fun hh => ?_,fun hh => ?_⟩
 ·have := of_decide_eq_true hh; omega
 ·refine hex _ _ ?_
  (try simp (maxSteps:=1000000) (disch:=first|exact Lb rfl|omega) only [AXS,AXB,J.dst,reduceIte,Z1,Z2,Z3,Z4,Z5]); rw [f102c13_eq]; (try simp (maxSteps:=1000000) (disch:=first|exact Lb rfl|omega) only [AXS,AXB,J.dst,reduceIte,Z1,Z2,Z3,Z4,Z5,f102r9])
  exact hR _ x1
theorem mayP_none {B : Nat → Prop} {n : Nat} (pv : PrV) (p : Prt) (h : Heap) (S : PrR B h pv p) (g : GdP n p) (hn : n ≤ 900000) (hr : p.records = []) (hd : p.done = []) (hl : p.s.low ≤ p.s.closed ∨ p.s.low = 0) {R : Value → Heap → Prop}
  (hR : ∀ h',Ext h h' → R (.bool true) h') : CallsH Try.prog 60 [.agg (ePr pv).toArray] h R := by
 have hrn := S.rn
 have hdn := S.dn
 rw [hr] at hrn
 rw [hd] at hdn
 have hm : mostEpoch = 1099511627776 := rfl
 have e0 := g.e0
 have e1 := g.e1
 have hs := S.s
 refine f60ok (by simp) ?_
 (try simp (maxSteps:=1000000) (disch:=first|exact Lb rfl|omega) only [AXS,AXB,J.dst,reduceIte,Z1,Z2,Z3,Z4,Z5]); rw [f60c0_eq]; (try simp (maxSteps:=1000000) (disch:=first|exact Lb rfl|omega) only [AXS,AXB,J.dst,reduceIte,Z1,Z2,Z3,Z4,Z5,f60r0])
 refine wL_boxN rfl ?_; rintro b1 h1 x1 s1 hb1 (B1 : Blk _ _ _ (ePr pv))
 try simp (maxSteps:=1000000) (disch:=first|exact Lb rfl|omega) only [AXS,AXB,J.dst,reduceIte,Z1,Z2,Z3,Z4,Z5]
 rw [f60c1_eq]
 simp (maxSteps:=1000000) (disch:=first|exact Lb rfl|omega) only [AXJ,AXS,AXB,J.dst,reduceIte,Z1,Z2,Z3,Z4,Z5,f60r1,B1.cel,ePr,S.cn]
 refine mayG g.sz.cells hn (S.cells.ext x1) ?_
 intro h2 x2
 refine ⟨trivial,?_⟩
 have B2 := B1.ext x2
 simp (maxSteps:=1000000) (disch:=first|exact Lb rfl|omega) only [AXJ,AXS,AXB,J.dst,reduceIte,Z1,Z2,Z3,Z4,Z5,B2.cel,ePr,hrn,List.length_nil]
 refine once_none _ ?_
 intro h3 x3
 refine ⟨trivial,?_⟩
 have B3 := B2.ext x3
 simp (maxSteps:=1000000) (disch:=first|exact Lb rfl|omega) only [AXJ,AXS,AXB,J.dst,reduceIte,Z1,Z2,Z3,Z4,Z5,f60r1a,B3.cel,ePr,hdn,List.length_nil]
 refine once_none _ ?_
 intro h4 x4
 refine ⟨trivial,?_⟩
 have B4 := B3.ext x4
 simp (maxSteps:=1000000) (disch:=first|exact Lb rfl|omega) only [AXJ,AXS,AXB,J.dst,reduceIte,Z1,Z2,Z3,Z4,Z5]
 simp (maxSteps:=1000000) (disch:=first|exact Lb rfl|omega) only [AXJ,AXS,AXB,J.dst,reduceIte,Z1,Z2,Z3,Z4,Z5,f60r1b,B4.cel,ePr,hs]
 simp (maxSteps:=1000000) (disch:=first|exact Lb rfl|omega) only [AXJ,AXS,AXB,J.dst,reduceIte,Z1,Z2,Z3,Z4,Z5,f60r1c,B4.cel,ePr,hs]
 simp (maxSteps:=1000000) (disch:=first|exact Lb rfl|omega) only [AXJ,AXS,AXB,J.dst,reduceIte,Z1,Z2,Z3,Z4,Z5,f60r1d,B4.cel,ePr,hs]
 simp (maxSteps:=1000000) (disch:=first|exact Lb rfl|omega) only [AXJ,AXS,AXB,J.dst,reduceIte,Z1,Z2,Z3,Z4,Z5,f60r1e]
 have hfin : (decide (p.s.epoch ≥ 0) && decide (p.s.epoch ≤ 1099511627776) && (decide (p.s.low ≤ p.s.closed) || p.s.low == 0)) = true := by
  simp only [Bool.and_eq_true,Bool.or_eq_true,decide_eq_true_eq,beq_iff_eq]
  exact ⟨⟨e0,by omega⟩,hl⟩
 rw [hfin]
 exact hR _ (((x1.trans x2).trans x3).trans x4)
def pg1 : Cmd := ⟨⟨1,1,2,0,⟨0,0,0,0⟩,⟨0,0⟩,0,false⟩,[],[]⟩
def pg2 : Cmd := ⟨⟨3,1,0,0,⟨1,0,0,0⟩,⟨5,0⟩,0,false⟩,[],[⟨⟨#[107]⟩,false,⟨#[120]⟩⟩]⟩
def pg3 : Cmd := ⟨⟨2,1,0,0,⟨0,0,0,0⟩,⟨9,0⟩,0,false⟩,[⟨⟨#[97]⟩,⟨#[122]⟩⟩],[]⟩
theorem pg_facts : (applyP emptyP pg1).2.s.err = 0 ∧ (applyP emptyP pg1).1.s.holder = 2 ∧ (applyP (applyP emptyP pg1).1 pg2).2.s.err = 0 ∧ (applyP (applyP (applyP emptyP pg1).1 pg2).1 pg3).2.s.err = 20 ∧
  (applyP (applyP emptyP pg1).1 pg2).1.records = [] ∧ (applyP (applyP emptyP pg1).1 pg2).1.done = [] ∧ (applyP (applyP emptyP pg1).1 pg2).1.s.low = 0 := by
 refine ⟨rfl,rfl,by decide,?_,by decide,by decide,by decide⟩
 kernel_rfl
def zPr : PrV := ⟨⟨0,0,⟨0,0⟩,0,0⟩,none,0,0,none,0,0,none,0,0⟩
theorem zPr_ok {B : Nat → Prop} (h : Heap) : PrR B h zPr emptyP := ⟨rfl,rfl,Nat.le_refl _,rfl,rfl,⟨[],.nil,.nil⟩,.nil,.nil⟩
theorem begunP_ok (h : Heap) {R : Value → Heap → Prop} (hR : ∀ h',Ext h h' → R (.bool true) h') : CallsH Try.prog 52 [] h R := by
 have hbig : big = 1000000 := rfl
 obtain ⟨f1,f2,f3,f4,f5,f6,f7⟩ := pg_facts
 have g0 := emptyG
 have g1 := applyG (c := pg1) g0 ⟨by decide,by decide⟩
 have g2 := applyG (c := pg2) g1 ⟨by decide,by decide⟩
 refine f52ok (by simp) ?_
 (try simp (maxSteps:=1000000) (disch:=first|exact Lb rfl|omega) only [AXS,AXB,J.dst,reduceIte,Z1,Z2,Z3,Z4,Z5]); rw [f52c0_eq]; (try simp (maxSteps:=1000000) (disch:=first|exact Lb rfl|omega) only [AXS,AXB,J.dst,reduceIte,Z1,Z2,Z3,Z4,Z5,f52r0]); rw [f52c1_eq]; (try simp (maxSteps:=1000000) (disch:=first|exact Lb rfl|omega) only [AXS,AXB,J.dst,reduceIte,Z1,Z2,Z3,Z4,Z5,f52r1])
 refine apply_ok (B := fun _ => True) (B' := fun _ => True) zPr emptyP ⟨pg1.s,none,0,0,none,0,0⟩ pg1 _ (zPr_ok _) ⟨rfl,rfl,rfl,.nil,.nil⟩ g0.sz (by decide) (by decide) g0.e0 ?_
 intro p1 r1 h1 P1 K1 x1
 refine ⟨trivial,?_⟩
 try simp (maxSteps:=1000000) (disch:=first|exact Lb rfl|omega) only [AXS,AXB,J.dst,reduceIte,Z1,Z2,Z3,Z4,Z5]
 refine wL_newN ?_; rintro b1 h2 x2 s2 hb1 B1
 try simp (maxSteps:=1000000) (disch:=first|exact Lb rfl|omega) only [AXS,AXB,J.dst,reduceIte,Z1,Z2,Z3,Z4,Z5]
 refine wL_newN ?_; rintro b2 h3 x3 s3 hb2 B2
 replace B1 := B1.ext x3
 try simp (maxSteps:=1000000) (disch:=first|exact Lb rfl|omega) only [AXS,AXB,J.dst,reduceIte,Z1,Z2,Z3,Z4,Z5]
 refine wL_stN rfl rfl rfl B1 (by decide) (ePr_one p1) ?_
 rintro h4 u4 (B1 : Blk _ _ _ (ePr p1))
 try simp (maxSteps:=1000000) (disch:=first|exact Lb rfl|omega) only [AXS,AXB,J.dst,reduceIte,Z1,Z2,Z3,Z4,Z5]
 refine wL_stN rfl rfl rfl (u4.blk B2 (by omega)) (by decide) (eRp_one r1) ?_
 rintro h5 u5 (B2 : Blk _ _ _ (eRp r1))
 replace B1 := u5.blk B1 (by omega)
 have x15 := u5.ext (u4.ext (x2.trans x3) (by omega)) (by omega)
 have y4 := u4.size
 have y5 := u5.size
 have P5 := P1.prr.ext x15
 have hr1 := K1.s
 (try simp (maxSteps:=1000000) (disch:=first|exact Lb rfl|omega) only [AXS,AXB,J.dst,reduceIte,Z1,Z2,Z3,Z4,Z5]); rw [f52c2_eq]; (try simp (maxSteps:=1000000) (disch:=first|exact Lb rfl|omega) only [AXS,AXB,J.dst,reduceIte,Z1,Z2,Z3,Z4,Z5,f52r2,B1.rd,ePr])
 refine wL_bslN rfl ?_; rintro b3 h6 x6 s6 hb3 (B3 : Blk _ _ _ (eWri ⟨⟨#[107]⟩,false,⟨#[120]⟩⟩))
 try simp (maxSteps:=1000000) (disch:=first|exact Lb rfl|omega) only [AXS,AXB,J.dst,reduceIte,Z1,Z2,Z3,Z4,Z5]
 refine apply_ok (B' := fun _ => True) p1 (applyP emptyP pg1).1 ⟨pg2.s,none,0,0,some ⟨b3,0,none⟩,1,1⟩ pg2 _ (P5.ext x6) ⟨rfl,rfl,rfl,.nil,fun _ => ⟨b3,0,rfl,trivial,B3.row⟩⟩ g1.sz (by decide) (by decide) g1.e0 ?_
 intro p2 r2 h7 P2 K2 x7
 refine ⟨trivial,?_⟩
 replace B1 := B1.ext (x6.trans x7); replace B2 := B2.ext (x6.trans x7)
 have y6 := x6.size
 have y7 := x7.size
 try simp (maxSteps:=1000000) (disch:=first|exact Lb rfl|omega) only [AXS,AXB,J.dst,reduceIte,Z1,Z2,Z3,Z4,Z5]
 refine wL_newN ?_; rintro b4 h8 x8 s8 hb4 B4
 try simp (maxSteps:=1000000) (disch:=first|exact Lb rfl|omega) only [AXS,AXB,J.dst,reduceIte,Z1,Z2,Z3,Z4,Z5]
 refine wL_newN ?_; rintro b5 h9 x9 s9 hb5 B5
 replace B1 := B1.ext x8; replace B2 := B2.ext x8
 replace B1 := B1.ext x9; replace B2 := B2.ext x9; replace B4 := B4.ext x9
 try simp (maxSteps:=1000000) (disch:=first|exact Lb rfl|omega) only [AXS,AXB,J.dst,reduceIte,Z1,Z2,Z3,Z4,Z5]
 refine wL_stN rfl rfl rfl B4 (by decide) (ePr_one p2) ?_
 rintro h10 u10 (B4 : Blk _ _ _ (ePr p2))
 try simp (maxSteps:=1000000) (disch:=first|exact Lb rfl|omega) only [AXS,AXB,J.dst,reduceIte,Z1,Z2,Z3,Z4,Z5]
 refine wL_stN rfl rfl rfl (u10.blk B5 (by omega)) (by decide) (eRp_one r2) ?_
 rintro h11 u11 (B5 : Blk _ _ _ (eRp r2))
 replace B4 := u11.blk B4 (by omega)
 replace B1 := u11.blk (u10.blk B1 (by omega)) (by omega)
 replace B2 := u11.blk (u10.blk B2 (by omega)) (by omega)
 have x711 := u11.ext (u10.ext (x8.trans x9) (by omega)) (by omega)
 have y10 := u10.size
 have y11 := u11.size
 have P11 := P2.prr.ext x711
 have hr2 := K2.s
 (try simp (maxSteps:=1000000) (disch:=first|exact Lb rfl|omega) only [AXS,AXB,J.dst,reduceIte,Z1,Z2,Z3,Z4,Z5]); rw [f52c3_eq]; (try simp (maxSteps:=1000000) (disch:=first|exact Lb rfl|omega) only [AXS,AXB,J.dst,reduceIte,Z1,Z2,Z3,Z4,Z5,f52r3,B4.rd,ePr])
 refine wL_bslN rfl ?_; rintro b6 h12 x12 s12 hb6 (B6 : Blk _ _ _ (eSpn ⟨⟨#[97]⟩,⟨#[122]⟩⟩))
 try simp (maxSteps:=1000000) (disch:=first|exact Lb rfl|omega) only [AXS,AXB,J.dst,reduceIte,Z1,Z2,Z3,Z4,Z5]
 refine apply_ok (B' := fun _ => True) p2 (applyP (applyP emptyP pg1).1 pg2).1 ⟨pg3.s,some ⟨b6,0,none⟩,1,1,none,0,0⟩ pg3 _ (P11.ext x12) ⟨rfl,rfl,rfl,fun _ => ⟨b6,0,rfl,trivial,B6.row⟩,.nil⟩ g2.sz (by decide) (by decide) g2.e0 ?_
 intro p3 r3 h13 P3 K3 x13
 refine ⟨trivial,?_⟩
 replace B1 := B1.ext (x12.trans x13); replace B2 := B2.ext (x12.trans x13); replace B4 := B4.ext (x12.trans x13); replace B5 := B5.ext (x12.trans x13)
 have y12 := x12.size
 have y13 := x13.size
 try simp (maxSteps:=1000000) (disch:=first|exact Lb rfl|omega) only [AXS,AXB,J.dst,reduceIte,Z1,Z2,Z3,Z4,Z5]
 refine wL_newN ?_; rintro b7 h14 x14 s14 hb7 B7
 try simp (maxSteps:=1000000) (disch:=first|exact Lb rfl|omega) only [AXS,AXB,J.dst,reduceIte,Z1,Z2,Z3,Z4,Z5]
 refine wL_newN ?_; rintro b8 h15 xb15 s15 hb8 B8
 replace B1 := B1.ext x14; replace B2 := B2.ext x14; replace B4 := B4.ext x14; replace B5 := B5.ext x14
 replace B1 := B1.ext xb15; replace B2 := B2.ext xb15; replace B4 := B4.ext xb15; replace B5 := B5.ext xb15; replace B7 := B7.ext xb15
 try simp (maxSteps:=1000000) (disch:=first|exact Lb rfl|omega) only [AXS,AXB,J.dst,reduceIte,Z1,Z2,Z3,Z4,Z5]
 refine wL_stN rfl rfl rfl B7 (by decide) (ePr_one p3) ?_
 rintro h16 u16 (B7 : Blk _ _ _ (ePr p3))
 try simp (maxSteps:=1000000) (disch:=first|exact Lb rfl|omega) only [AXS,AXB,J.dst,reduceIte,Z1,Z2,Z3,Z4,Z5]
 refine wL_stN rfl rfl rfl (u16.blk B8 (by omega)) (by decide) (eRp_one r3) ?_
 rintro h17 u17 (B8 : Blk _ _ _ (eRp r3))
 replace B1 := u17.blk (u16.blk B1 (by omega)) (by omega)
 replace B2 := u17.blk (u16.blk B2 (by omega)) (by omega)
 replace B4 := u17.blk (u16.blk B4 (by omega)) (by omega)
 replace B5 := u17.blk (u16.blk B5 (by omega)) (by omega)
 have x1117 := u17.ext (u16.ext (((x12.trans x13).trans x14).trans xb15) (by omega)) (by omega)
 have P17 := P11.ext x1117
 have hp1 := P1.s
 have hr3 := K3.s
 try simp (maxSteps:=1000000) (disch:=first|exact Lb rfl|omega) only [AXS,AXB,J.dst,reduceIte,Z1,Z2,Z3,Z4,Z5]
 rw [f52c4_eq]
 simp (maxSteps:=1000000) (disch:=first|exact Lb rfl|omega) only [AXJ,AXS,AXB,J.dst,reduceIte,Z1,Z2,Z3,Z4,Z5,f52r4,B2.cel,eRp,hr1,f1,B1.cel,ePr,hp1,f2]
 simp (maxSteps:=1000000) (disch:=first|exact Lb rfl|omega) only [AXJ,AXS,AXB,J.dst,reduceIte,Z1,Z2,Z3,Z4,Z5,f52r4a,B5.cel,eRp,hr2,f3]
 simp (maxSteps:=1000000) (disch:=first|exact Lb rfl|omega) only [AXJ,AXS,AXB,J.dst,reduceIte,Z1,Z2,Z3,Z4,Z5,f52r4b,B8.cel,eRp,hr3,f4]
 simp (maxSteps:=1000000) (disch:=first|exact Lb rfl|omega) only [AXJ,AXS,AXB,J.dst,reduceIte,Z1,Z2,Z3,Z4,Z5,f52r4c,B4.rd,ePr]
 refine mayP_none p2 (applyP (applyP emptyP pg1).1 pg2).1 _ P17 g2 (by decide) f5 f6 (.inr f7) ?_
 intro h18 x18
 refine ⟨trivial,?_⟩
 try simp (maxSteps:=1000000) (disch:=first|exact Lb rfl|omega) only [AXJ,AXS,AXB,J.dst,reduceIte,Z1,Z2,Z3,Z4,Z5]
 try simp (maxSteps:=1000000) (disch:=first|exact Lb rfl|omega) only [AXJ,AXS,AXB,J.dst,reduceIte,Z1,Z2,Z3,Z4,Z5,f52r4d]
 exact hR _ ((((x1.trans (x15.trans (x6.trans x7))).trans x711).trans x1117).trans x18)
end Go.Proofs.Ytefghfgmkndikaa
namespace Go.Proofs.Ytefghfgmkndikaa
open Go Go.AX
/-- b is a state that came behind a. -/
structure Later (a b : Prt) : Prop where
 closed : a.s.closed ≤ b.s.closed
 low : a.s.low ≤ b.s.low
 epoch : a.s.epoch ≤ b.s.epoch
 floor : Stamp.lt b.s.floor a.s.floor = false
 records : a.records <+: b.records
 done : a.done <+: b.done
end Go.Proofs.Ytefghfgmkndikaa
namespace Go.Proofs.Ytefghfgmkndikaa
open Go Go.AX Go.ChangeShapes Go.WideShapes Go.RowKit Go.Deep
section
variable {H : Type} {enc : TypeId × Value → H} {w : World} {base : Nat}
theorem drop_split {α : Type} (l : List α) (a k b : Nat) (h : b = a + k) : l.drop a = (l.drop a).take k ++ l.drop b := by
 subst h
 rw [← List.drop_drop,List.take_append_drop]
theorem kdI {cs : List Value} (h0 : All2 kdV [.i .i64] cs) : ∃ x : Int,cs = [vi x] := by
 obtain ⟨c0,m0,rfl,⟨x,rfl,_⟩,h1⟩ := all2_cons h0
 have := all2_nil h1; subst this
 exact ⟨x,rfl⟩
theorem kdB {cs : List Value} (h0 : All2 kdV [.b] cs) : ∃ x : Bool,cs = [.bool x] := by
 obtain ⟨c0,m0,rfl,⟨x,rfl⟩,h1⟩ := all2_cons h0
 have := all2_nil h1; subst this
 exact ⟨x,rfl⟩
theorem sz43 : Try.prog.cellsOf 43 = 14 := by kernel_rfl
theorem sz3 : Try.prog.cellsOf 3 = 1 := by kernel_rfl
theorem sz2 : Try.prog.cellsOf 2 = 1 := by kernel_rfl
theorem sz37 : Try.prog.cellsOf 37 = 4 := by kernel_rfl
theorem sz39 : Try.prog.cellsOf 39 = 2 := by kernel_rfl
theorem sz40 : Try.prog.cellsOf 40 = 1 := by kernel_rfl
theorem sz41 : Try.prog.cellsOf 41 = 1 := by kernel_rfl
theorem sz94 : Try.prog.cellsOf 94 = 2 := by kernel_rfl
theorem sz70 : Try.prog.cellsOf 70 = 3 := by kernel_rfl
theorem flat3 : flatT Try.prog 20 3 = some [.i .i64] := by kernel_rfl
theorem flat2 : flatT Try.prog 20 2 = some [.i .i64] := by kernel_rfl
theorem flat4 : flatT Try.prog 20 4 = some [.b] := by kernel_rfl
theorem und40 : Try.prog.underlying 40 = some (.slice 94) := by kernel_rfl
theorem und41 : Try.prog.underlying 41 = some (.slice 70) := by kernel_rfl
theorem und111 : Try.prog.underlying 111 = some (.slice 43) := by kernel_rfl
theorem fld43 : isStrF Try.prog 43 [(3,0),(3,1),(3,2),(3,3),(37,4),(39,8),(2,10),(4,11),(40,12),(41,13)] = true := by kernel_rfl
set_option maxRecDepth 100000 in
theorem trod_cmd {n : Nat} {cs : List Value} {y : DataW H × List MemPlace} (h : DataW.trod enc Try.prog w 0 (fun _ => true) true n 43 cs = some y) :
  ∃ v,cs = eCm v ∧ ∃ c,CmR (fun b => b < w.heap.size) w.heap v c ∧ c.spans.length ≤ maxLen ∧ c.writes.length ≤ maxLen := by
 obtain ⟨hlen,hf⟩ := trod_fields fld43 h
 obtain ⟨n0,y0,h0⟩ := hf (3,0) (by simp)
 obtain ⟨n1,y1,h1⟩ := hf (3,1) (by simp)
 obtain ⟨n2,y2,h2⟩ := hf (3,2) (by simp)
 obtain ⟨n3,y3,h3⟩ := hf (3,3) (by simp)
 obtain ⟨n4,y4,h4⟩ := hf (37,4) (by simp)
 obtain ⟨n5,y5,h5⟩ := hf (39,8) (by simp)
 obtain ⟨n6,y6,h6⟩ := hf (2,10) (by simp)
 obtain ⟨n7,y7,h7⟩ := hf (4,11) (by simp)
 obtain ⟨n8,y8,h8⟩ := hf (40,12) (by simp)
 obtain ⟨n9,y9,h9⟩ := hf (41,13) (by simp)
 simp only [sz3,sz37,sz39,sz2,sz4,sz40,sz41] at h0 h1 h2 h3 h4 h5 h6 h7 h8 h9
 rw [sz43] at hlen
 obtain ⟨kind,e0⟩ := kdI (flatT_trod _ _ _ _ _ _ flat3 h0)
 obtain ⟨epoch,e1⟩ := kdI (flatT_trod _ _ _ _ _ _ flat3 h1)
 obtain ⟨node,e2⟩ := kdI (flatT_trod _ _ _ _ _ _ flat3 h2)
 obtain ⟨home,e3⟩ := kdI (flatT_trod _ _ _ _ _ _ flat3 h3)
 obtain ⟨by_,e4⟩ := kdTry (flatT_trod _ _ _ _ _ _ flat37 h4)
 obtain ⟨at_,e5⟩ := kdStamp (flatT_trod _ _ _ _ _ _ flat39 h5)
 obtain ⟨wall,e6⟩ := kdI (flatT_trod _ _ _ _ _ _ flat2 h6)
 obtain ⟨yes,e7⟩ := kdB (flatT_trod _ _ _ _ _ _ flat4 h7)
 obtain ⟨sa,sn,sc,ss,e8,hs1,hs2,hs3,S⟩ := open_flat und40 flat94 sz94 (by decide) (fun _ => kdSpn) eSpn_len h8
 obtain ⟨wa,wn,wc,ws,e9,hw1,hw2,hw3,W⟩ := open_flat und41 flat70 sz70 (by decide) (fun _ => kdWri) eWri_len h9
 have hcs : cs = (cs.drop 0).take 1 ++ ((cs.drop 1).take 1 ++ ((cs.drop 2).take 1 ++ ((cs.drop 3).take 1 ++ ((cs.drop 4).take 4 ++ ((cs.drop 8).take 2 ++ ((cs.drop 10).take 1 ++ ((cs.drop 11).take 1 ++ ((cs.drop 12).take 1 ++ (cs.drop 13).take 1)))))))) := by
  have e : (cs.drop 13).take 1 = cs.drop 13 := by rw [List.take_of_length_le]; rw [List.length_drop]; omega
  rw [e,← drop_split cs 12 1 13 rfl,← drop_split cs 11 1 12 rfl,← drop_split cs 10 1 11 rfl,← drop_split cs 8 2 10 rfl,← drop_split cs 4 4 8 rfl,← drop_split cs 3 1 4 rfl,← drop_split cs 2 1 3 rfl,← drop_split cs 1 1 2 rfl,← drop_split cs 0 1 1 rfl,List.drop_zero]
 rw [e0,e1,e2,e3,e4,e5,e6,e7,e8,e9] at hcs
 refine ⟨⟨⟨kind,epoch,node,home,by_,at_,wall,yes⟩,sa,sn,sc,wa,wn,wc⟩,hcs,⟨⟨kind,epoch,node,home,by_,at_,wall,yes⟩,ss,ws⟩,⟨rfl,hs1.symm,hw1.symm,S,W⟩,?_,?_⟩
 ·show ss.length ≤ maxLen; omega
 ·show ws.length ≤ maxLen; omega
set_option maxRecDepth 100000 in
theorem argCmds {v : Value} {d : DataW H} {p : List MemPlace} (hv : Value.okWide Try.prog w .any base 111 v) (h : DataW.Trod enc Try.prog w 0 (fun _ => true) true 111 v d p) :
  ∃ a c l,v = .slice a l.length c ∧ LenM l ∧ SlM (fun b => b < w.heap.size) w.heap a l := by
 obtain ⟨a0,n0,c0,rfl⟩ := okWide_slice und111 hv
 obtain ⟨fuel,hf⟩ := h
 obtain ⟨a,n,c,ds,h1,h2,h3,h4,S,hQ⟩ := open_rows (e := eCm) (Q := fun v => ∃ c,CmR (fun b => b < w.heap.size) w.heap v c ∧ c.spans.length ≤ maxLen ∧ c.writes.length ≤ maxLen) und111 sz43 (by decide) (fun n cs y h => trod_cmd h) eCm_len hf
 obtain ⟨cs,hcs⟩ := all2_ex hQ
 have : a0 = a ∧ n0 = n ∧ c0 = c := by simpa [Value.cells] using h1
 obtain ⟨rfl,rfl,rfl⟩ := this
 have hl := hcs.length
 subst h2
 refine ⟨a0,c0,cs,by rw [hl],⟨by omega,?_⟩,⟨ds,hcs.imp fun _ _ r => r.1,S⟩⟩
 clear S hQ hl
 intro c hc
 obtain ⟨i,hi,rfl⟩ := List.mem_iff_getElem.1 hc
 obtain ⟨v,_,hr⟩ := hcs.get (List.getElem?_eq_getElem hi)
 exact hr.2
end
end Go.Proofs.Ytefghfgmkndikaa
namespace Go.Proofs.Ytefghfgmkndikaa
open Go.AX
set_option maxRecDepth 100000
def f55r0 : List I := [.op (.box 1 116 (.tmp 0)),
 .op (.new 2 116 [.int .i64 0,.int .i64 0,.int .i64 0,.int .i64 0,.int .i64 0,.int .i64 0,.slice none 0 0,.slice none 0 0,.slice none 0 0]),
 .kp [1,2]]
def f55r1 : List I := [.op (.fad 3 6 (.tmp 1)),
 .op (.ld 4 none (.tmp 3)),
 .op (.call (some 5) 48 [(.tmp 4)]),
 .op (.fad 6 6 (.tmp 1)),
 .op (.st 1 (.tmp 6) (.tmp 5)),
 .kp [1,2]]
def f55r2 : L := (.one [.op (.fad 8 7 (.tmp 1)),
 .op (.fad 12 8 (.tmp 1))] (.alt (.one [.op (.bsl 7 126 0 [] [])] (.alt (.one [.opn (.ld 9 none (.tmp 8))] (.alt (.one [.op (.raw (some 10) ⟨(some 10), (.call ⟨(.builtin .append), #[(.tmp 7), (.tmp 9)], #[114, 114]⟩), 114, "ref.go:41", #[⟨0, .data⟩, ⟨2, .data⟩], none⟩)] (.alt (.one [.op (.bsl 11 126 0 [] []),
 .opn (.ld 13 none (.tmp 12)),
 .op (.fad 15 7 (.tmp 1)),
 .op (.raw (some 14) ⟨(some 14), (.call ⟨(.builtin .append), #[(.tmp 11), (.tmp 13)], #[114, 114]⟩), 114, "ref.go:41", #[⟨4, .data⟩, ⟨6, .data⟩, ⟨3, .chain⟩], none⟩),
 .op (.st 1 (.tmp 15) (.tmp 10)),
 .op (.fad 16 8 (.tmp 1)),
 .op (.st 1 (.tmp 16) (.tmp 14)),
 .kp [1,2]] .nil) (.one [.opn (.ld 13 none (.tmp 12)),
 .op (.fad 15 7 (.tmp 1)),
 .op (.bsl 11 126 0 [] []),
 .op (.raw (some 14) ⟨(some 14), (.call ⟨(.builtin .append), #[(.tmp 11), (.tmp 13)], #[114, 114]⟩), 114, "ref.go:41", #[⟨4, .data⟩, ⟨6, .data⟩, ⟨3, .chain⟩], none⟩),
 .op (.st 1 (.tmp 15) (.tmp 10)),
 .op (.fad 16 8 (.tmp 1)),
 .op (.st 1 (.tmp 16) (.tmp 14)),
 .kp [1, 2]] .nil))) (.alt (.one [.op (.bsl 11 126 0 [] [])] (.alt (.one [.op (.raw (some 10) ⟨(some 10), (.call ⟨(.builtin .append), #[(.tmp 7), (.tmp 9)], #[114, 114]⟩), 114, "ref.go:41", #[⟨0, .data⟩, ⟨2, .data⟩], none⟩),
 .opn (.ld 13 none (.tmp 12)),
 .op (.fad 15 7 (.tmp 1)),
 .op (.raw (some 14) ⟨(some 14), (.call ⟨(.builtin .append), #[(.tmp 11), (.tmp 13)], #[114, 114]⟩), 114, "ref.go:41", #[⟨4, .data⟩, ⟨6, .data⟩, ⟨3, .chain⟩], none⟩),
 .op (.st 1 (.tmp 15) (.tmp 10)),
 .op (.fad 16 8 (.tmp 1)),
 .op (.st 1 (.tmp 16) (.tmp 14)),
 .kp [1,2]] .nil) (.one [.opn (.ld 13 none (.tmp 12)),
 .op (.raw (some 10) ⟨(some 10), (.call ⟨(.builtin .append), #[(.tmp 7), (.tmp 9)], #[114, 114]⟩), 114, "ref.go:41", #[⟨0, .data⟩, ⟨2, .data⟩], none⟩),
 .op (.fad 15 7 (.tmp 1)),
 .op (.raw (some 14) ⟨(some 14), (.call ⟨(.builtin .append), #[(.tmp 11), (.tmp 13)], #[114, 114]⟩), 114, "ref.go:41", #[⟨4, .data⟩, ⟨6, .data⟩, ⟨3, .chain⟩], none⟩),
 .op (.st 1 (.tmp 15) (.tmp 10)),
 .op (.fad 16 8 (.tmp 1)),
 .op (.st 1 (.tmp 16) (.tmp 14)),
 .kp [1, 2]] .nil))) (.one [.opn (.ld 13 none (.tmp 12))] (.alt (.one [.op (.raw (some 10) ⟨(some 10), (.call ⟨(.builtin .append), #[(.tmp 7), (.tmp 9)], #[114, 114]⟩), 114, "ref.go:41", #[⟨0, .data⟩, ⟨2, .data⟩], none⟩),
 .op (.fad 15 7 (.tmp 1)),
 .op (.bsl 11 126 0 [] []),
 .op (.raw (some 14) ⟨(some 14), (.call ⟨(.builtin .append), #[(.tmp 11), (.tmp 13)], #[114, 114]⟩), 114, "ref.go:41", #[⟨4, .data⟩, ⟨6, .data⟩, ⟨3, .chain⟩], none⟩),
 .op (.st 1 (.tmp 15) (.tmp 10)),
 .op (.fad 16 8 (.tmp 1)),
 .op (.st 1 (.tmp 16) (.tmp 14)),
 .kp [1,2]] .nil) (.one [.op (.bsl 11 126 0 [] []),
 .op (.raw (some 10) ⟨(some 10), (.call ⟨(.builtin .append), #[(.tmp 7), (.tmp 9)], #[114, 114]⟩), 114, "ref.go:41", #[⟨0, .data⟩, ⟨2, .data⟩], none⟩),
 .op (.fad 15 7 (.tmp 1)),
 .op (.raw (some 14) ⟨(some 14), (.call ⟨(.builtin .append), #[(.tmp 11), (.tmp 13)], #[114, 114]⟩), 114, "ref.go:41", #[⟨4, .data⟩, ⟨6, .data⟩, ⟨3, .chain⟩], none⟩),
 .op (.st 1 (.tmp 15) (.tmp 10)),
 .op (.fad 16 8 (.tmp 1)),
 .op (.st 1 (.tmp 16) (.tmp 14)),
 .kp [1, 2]] .nil)))))) (.alt (.one [.op (.bsl 11 126 0 [] [])] (.alt (.one [.opn (.ld 9 none (.tmp 8))] (.alt (.one [.op (.raw (some 10) ⟨(some 10), (.call ⟨(.builtin .append), #[(.tmp 7), (.tmp 9)], #[114, 114]⟩), 114, "ref.go:41", #[⟨0, .data⟩, ⟨2, .data⟩], none⟩),
 .opn (.ld 13 none (.tmp 12)),
 .op (.fad 15 7 (.tmp 1)),
 .op (.raw (some 14) ⟨(some 14), (.call ⟨(.builtin .append), #[(.tmp 11), (.tmp 13)], #[114, 114]⟩), 114, "ref.go:41", #[⟨4, .data⟩, ⟨6, .data⟩, ⟨3, .chain⟩], none⟩),
 .op (.st 1 (.tmp 15) (.tmp 10)),
 .op (.fad 16 8 (.tmp 1)),
 .op (.st 1 (.tmp 16) (.tmp 14)),
 .kp [1,2]] .nil) (.one [.opn (.ld 13 none (.tmp 12)),
 .op (.raw (some 10) ⟨(some 10), (.call ⟨(.builtin .append), #[(.tmp 7), (.tmp 9)], #[114, 114]⟩), 114, "ref.go:41", #[⟨0, .data⟩, ⟨2, .data⟩], none⟩),
 .op (.fad 15 7 (.tmp 1)),
 .op (.raw (some 14) ⟨(some 14), (.call ⟨(.builtin .append), #[(.tmp 11), (.tmp 13)], #[114, 114]⟩), 114, "ref.go:41", #[⟨4, .data⟩, ⟨6, .data⟩, ⟨3, .chain⟩], none⟩),
 .op (.st 1 (.tmp 15) (.tmp 10)),
 .op (.fad 16 8 (.tmp 1)),
 .op (.st 1 (.tmp 16) (.tmp 14)),
 .kp [1,2]] .nil))) (.one [.opn (.ld 13 none (.tmp 12)),
 .opn (.ld 9 none (.tmp 8)),
 .op (.raw (some 10) ⟨(some 10), (.call ⟨(.builtin .append), #[(.tmp 7), (.tmp 9)], #[114, 114]⟩), 114, "ref.go:41", #[⟨0, .data⟩, ⟨2, .data⟩], none⟩),
 .op (.fad 15 7 (.tmp 1)),
 .op (.raw (some 14) ⟨(some 14), (.call ⟨(.builtin .append), #[(.tmp 11), (.tmp 13)], #[114, 114]⟩), 114, "ref.go:41", #[⟨4, .data⟩, ⟨6, .data⟩, ⟨3, .chain⟩], none⟩),
 .op (.st 1 (.tmp 15) (.tmp 10)),
 .op (.fad 16 8 (.tmp 1)),
 .op (.st 1 (.tmp 16) (.tmp 14)),
 .kp [1, 2]] .nil))) (.one [.opn (.ld 13 none (.tmp 12))] (.alt (.one [.opn (.ld 9 none (.tmp 8))] (.alt (.one [.op (.raw (some 10) ⟨(some 10), (.call ⟨(.builtin .append), #[(.tmp 7), (.tmp 9)], #[114, 114]⟩), 114, "ref.go:41", #[⟨0, .data⟩, ⟨2, .data⟩], none⟩),
 .op (.fad 15 7 (.tmp 1)),
 .op (.bsl 11 126 0 [] []),
 .op (.raw (some 14) ⟨(some 14), (.call ⟨(.builtin .append), #[(.tmp 11), (.tmp 13)], #[114, 114]⟩), 114, "ref.go:41", #[⟨4, .data⟩, ⟨6, .data⟩, ⟨3, .chain⟩], none⟩),
 .op (.st 1 (.tmp 15) (.tmp 10)),
 .op (.fad 16 8 (.tmp 1)),
 .op (.st 1 (.tmp 16) (.tmp 14)),
 .kp [1,2]] .nil) (.one [.op (.bsl 11 126 0 [] []),
 .op (.raw (some 10) ⟨(some 10), (.call ⟨(.builtin .append), #[(.tmp 7), (.tmp 9)], #[114, 114]⟩), 114, "ref.go:41", #[⟨0, .data⟩, ⟨2, .data⟩], none⟩),
 .op (.fad 15 7 (.tmp 1)),
 .op (.raw (some 14) ⟨(some 14), (.call ⟨(.builtin .append), #[(.tmp 11), (.tmp 13)], #[114, 114]⟩), 114, "ref.go:41", #[⟨4, .data⟩, ⟨6, .data⟩, ⟨3, .chain⟩], none⟩),
 .op (.st 1 (.tmp 15) (.tmp 10)),
 .op (.fad 16 8 (.tmp 1)),
 .op (.st 1 (.tmp 16) (.tmp 14)),
 .kp [1,2]] .nil))) (.one [.op (.bsl 11 126 0 [] []),
 .opn (.ld 9 none (.tmp 8)),
 .op (.raw (some 10) ⟨(some 10), (.call ⟨(.builtin .append), #[(.tmp 7), (.tmp 9)], #[114, 114]⟩), 114, "ref.go:41", #[⟨0, .data⟩, ⟨2, .data⟩], none⟩),
 .op (.fad 15 7 (.tmp 1)),
 .op (.raw (some 14) ⟨(some 14), (.call ⟨(.builtin .append), #[(.tmp 11), (.tmp 13)], #[114, 114]⟩), 114, "ref.go:41", #[⟨4, .data⟩, ⟨6, .data⟩, ⟨3, .chain⟩], none⟩),
 .op (.st 1 (.tmp 15) (.tmp 10)),
 .op (.fad 16 8 (.tmp 1)),
 .op (.st 1 (.tmp 16) (.tmp 14)),
 .kp [1, 2]] .nil)))))) (.alt (.one [.opn (.ld 9 none (.tmp 8))] (.alt (.one [.op (.bsl 7 126 0 [] [])] (.alt (.one [.op (.raw (some 10) ⟨(some 10), (.call ⟨(.builtin .append), #[(.tmp 7), (.tmp 9)], #[114, 114]⟩), 114, "ref.go:41", #[⟨0, .data⟩, ⟨2, .data⟩], none⟩)] (.alt (.one [.op (.bsl 11 126 0 [] []),
 .opn (.ld 13 none (.tmp 12)),
 .op (.fad 15 7 (.tmp 1)),
 .op (.raw (some 14) ⟨(some 14), (.call ⟨(.builtin .append), #[(.tmp 11), (.tmp 13)], #[114, 114]⟩), 114, "ref.go:41", #[⟨4, .data⟩, ⟨6, .data⟩, ⟨3, .chain⟩], none⟩),
 .op (.st 1 (.tmp 15) (.tmp 10)),
 .op (.fad 16 8 (.tmp 1)),
 .op (.st 1 (.tmp 16) (.tmp 14)),
 .kp [1,2]] .nil) (.one [.opn (.ld 13 none (.tmp 12)),
 .op (.fad 15 7 (.tmp 1)),
 .op (.bsl 11 126 0 [] []),
 .op (.raw (some 14) ⟨(some 14), (.call ⟨(.builtin .append), #[(.tmp 11), (.tmp 13)], #[114, 114]⟩), 114, "ref.go:41", #[⟨4, .data⟩, ⟨6, .data⟩, ⟨3, .chain⟩], none⟩),
 .op (.st 1 (.tmp 15) (.tmp 10)),
 .op (.fad 16 8 (.tmp 1)),
 .op (.st 1 (.tmp 16) (.tmp 14)),
 .kp [1, 2]] .nil))) (.alt (.one [.op (.bsl 11 126 0 [] [])] (.alt (.one [.op (.raw (some 10) ⟨(some 10), (.call ⟨(.builtin .append), #[(.tmp 7), (.tmp 9)], #[114, 114]⟩), 114, "ref.go:41", #[⟨0, .data⟩, ⟨2, .data⟩], none⟩),
 .opn (.ld 13 none (.tmp 12)),
 .op (.fad 15 7 (.tmp 1)),
 .op (.raw (some 14) ⟨(some 14), (.call ⟨(.builtin .append), #[(.tmp 11), (.tmp 13)], #[114, 114]⟩), 114, "ref.go:41", #[⟨4, .data⟩, ⟨6, .data⟩, ⟨3, .chain⟩], none⟩),
 .op (.st 1 (.tmp 15) (.tmp 10)),
 .op (.fad 16 8 (.tmp 1)),
 .op (.st 1 (.tmp 16) (.tmp 14)),
 .kp [1,2]] .nil) (.one [.opn (.ld 13 none (.tmp 12)),
 .op (.raw (some 10) ⟨(some 10), (.call ⟨(.builtin .append), #[(.tmp 7), (.tmp 9)], #[114, 114]⟩), 114, "ref.go:41", #[⟨0, .data⟩, ⟨2, .data⟩], none⟩),
 .op (.fad 15 7 (.tmp 1)),
 .op (.raw (some 14) ⟨(some 14), (.call ⟨(.builtin .append), #[(.tmp 11), (.tmp 13)], #[114, 114]⟩), 114, "ref.go:41", #[⟨4, .data⟩, ⟨6, .data⟩, ⟨3, .chain⟩], none⟩),
 .op (.st 1 (.tmp 15) (.tmp 10)),
 .op (.fad 16 8 (.tmp 1)),
 .op (.st 1 (.tmp 16) (.tmp 14)),
 .kp [1, 2]] .nil))) (.one [.opn (.ld 13 none (.tmp 12))] (.alt (.one [.op (.raw (some 10) ⟨(some 10), (.call ⟨(.builtin .append), #[(.tmp 7), (.tmp 9)], #[114, 114]⟩), 114, "ref.go:41", #[⟨0, .data⟩, ⟨2, .data⟩], none⟩),
 .op (.fad 15 7 (.tmp 1)),
 .op (.bsl 11 126 0 [] []),
 .op (.raw (some 14) ⟨(some 14), (.call ⟨(.builtin .append), #[(.tmp 11), (.tmp 13)], #[114, 114]⟩), 114, "ref.go:41", #[⟨4, .data⟩, ⟨6, .data⟩, ⟨3, .chain⟩], none⟩),
 .op (.st 1 (.tmp 15) (.tmp 10)),
 .op (.fad 16 8 (.tmp 1)),
 .op (.st 1 (.tmp 16) (.tmp 14)),
 .kp [1,2]] .nil) (.one [.op (.bsl 11 126 0 [] []),
 .op (.raw (some 10) ⟨(some 10), (.call ⟨(.builtin .append), #[(.tmp 7), (.tmp 9)], #[114, 114]⟩), 114, "ref.go:41", #[⟨0, .data⟩, ⟨2, .data⟩], none⟩),
 .op (.fad 15 7 (.tmp 1)),
 .op (.raw (some 14) ⟨(some 14), (.call ⟨(.builtin .append), #[(.tmp 11), (.tmp 13)], #[114, 114]⟩), 114, "ref.go:41", #[⟨4, .data⟩, ⟨6, .data⟩, ⟨3, .chain⟩], none⟩),
 .op (.st 1 (.tmp 15) (.tmp 10)),
 .op (.fad 16 8 (.tmp 1)),
 .op (.st 1 (.tmp 16) (.tmp 14)),
 .kp [1, 2]] .nil)))))) (.alt (.one [.op (.bsl 11 126 0 [] [])] (.alt (.one [.op (.bsl 7 126 0 [] [])] (.alt (.one [.op (.raw (some 10) ⟨(some 10), (.call ⟨(.builtin .append), #[(.tmp 7), (.tmp 9)], #[114, 114]⟩), 114, "ref.go:41", #[⟨0, .data⟩, ⟨2, .data⟩], none⟩),
 .opn (.ld 13 none (.tmp 12)),
 .op (.fad 15 7 (.tmp 1)),
 .op (.raw (some 14) ⟨(some 14), (.call ⟨(.builtin .append), #[(.tmp 11), (.tmp 13)], #[114, 114]⟩), 114, "ref.go:41", #[⟨4, .data⟩, ⟨6, .data⟩, ⟨3, .chain⟩], none⟩),
 .op (.st 1 (.tmp 15) (.tmp 10)),
 .op (.fad 16 8 (.tmp 1)),
 .op (.st 1 (.tmp 16) (.tmp 14)),
 .kp [1,2]] .nil) (.one [.opn (.ld 13 none (.tmp 12)),
 .op (.raw (some 10) ⟨(some 10), (.call ⟨(.builtin .append), #[(.tmp 7), (.tmp 9)], #[114, 114]⟩), 114, "ref.go:41", #[⟨0, .data⟩, ⟨2, .data⟩], none⟩),
 .op (.fad 15 7 (.tmp 1)),
 .op (.raw (some 14) ⟨(some 14), (.call ⟨(.builtin .append), #[(.tmp 11), (.tmp 13)], #[114, 114]⟩), 114, "ref.go:41", #[⟨4, .data⟩, ⟨6, .data⟩, ⟨3, .chain⟩], none⟩),
 .op (.st 1 (.tmp 15) (.tmp 10)),
 .op (.fad 16 8 (.tmp 1)),
 .op (.st 1 (.tmp 16) (.tmp 14)),
 .kp [1,2]] .nil))) (.one [.opn (.ld 13 none (.tmp 12)),
 .op (.bsl 7 126 0 [] []),
 .op (.raw (some 10) ⟨(some 10), (.call ⟨(.builtin .append), #[(.tmp 7), (.tmp 9)], #[114, 114]⟩), 114, "ref.go:41", #[⟨0, .data⟩, ⟨2, .data⟩], none⟩),
 .op (.fad 15 7 (.tmp 1)),
 .op (.raw (some 14) ⟨(some 14), (.call ⟨(.builtin .append), #[(.tmp 11), (.tmp 13)], #[114, 114]⟩), 114, "ref.go:41", #[⟨4, .data⟩, ⟨6, .data⟩, ⟨3, .chain⟩], none⟩),
 .op (.st 1 (.tmp 15) (.tmp 10)),
 .op (.fad 16 8 (.tmp 1)),
 .op (.st 1 (.tmp 16) (.tmp 14)),
 .kp [1, 2]] .nil))) (.one [.opn (.ld 13 none (.tmp 12))] (.alt (.one [.op (.bsl 7 126 0 [] [])] (.alt (.one [.op (.raw (some 10) ⟨(some 10), (.call ⟨(.builtin .append), #[(.tmp 7), (.tmp 9)], #[114, 114]⟩), 114, "ref.go:41", #[⟨0, .data⟩, ⟨2, .data⟩], none⟩),
 .op (.fad 15 7 (.tmp 1)),
 .op (.bsl 11 126 0 [] []),
 .op (.raw (some 14) ⟨(some 14), (.call ⟨(.builtin .append), #[(.tmp 11), (.tmp 13)], #[114, 114]⟩), 114, "ref.go:41", #[⟨4, .data⟩, ⟨6, .data⟩, ⟨3, .chain⟩], none⟩),
 .op (.st 1 (.tmp 15) (.tmp 10)),
 .op (.fad 16 8 (.tmp 1)),
 .op (.st 1 (.tmp 16) (.tmp 14)),
 .kp [1,2]] .nil) (.one [.op (.bsl 11 126 0 [] []),
 .op (.raw (some 10) ⟨(some 10), (.call ⟨(.builtin .append), #[(.tmp 7), (.tmp 9)], #[114, 114]⟩), 114, "ref.go:41", #[⟨0, .data⟩, ⟨2, .data⟩], none⟩),
 .op (.fad 15 7 (.tmp 1)),
 .op (.raw (some 14) ⟨(some 14), (.call ⟨(.builtin .append), #[(.tmp 11), (.tmp 13)], #[114, 114]⟩), 114, "ref.go:41", #[⟨4, .data⟩, ⟨6, .data⟩, ⟨3, .chain⟩], none⟩),
 .op (.st 1 (.tmp 15) (.tmp 10)),
 .op (.fad 16 8 (.tmp 1)),
 .op (.st 1 (.tmp 16) (.tmp 14)),
 .kp [1,2]] .nil))) (.one [.op (.bsl 11 126 0 [] []),
 .op (.bsl 7 126 0 [] []),
 .op (.raw (some 10) ⟨(some 10), (.call ⟨(.builtin .append), #[(.tmp 7), (.tmp 9)], #[114, 114]⟩), 114, "ref.go:41", #[⟨0, .data⟩, ⟨2, .data⟩], none⟩),
 .op (.fad 15 7 (.tmp 1)),
 .op (.raw (some 14) ⟨(some 14), (.call ⟨(.builtin .append), #[(.tmp 11), (.tmp 13)], #[114, 114]⟩), 114, "ref.go:41", #[⟨4, .data⟩, ⟨6, .data⟩, ⟨3, .chain⟩], none⟩),
 .op (.st 1 (.tmp 15) (.tmp 10)),
 .op (.fad 16 8 (.tmp 1)),
 .op (.st 1 (.tmp 16) (.tmp 14)),
 .kp [1, 2]] .nil)))))) (.alt (.one [.op (.bsl 11 126 0 [] [])] (.alt (.one [.op (.bsl 7 126 0 [] [])] (.alt (.one [.opn (.ld 9 none (.tmp 8))] (.alt (.one [.op (.raw (some 10) ⟨(some 10), (.call ⟨(.builtin .append), #[(.tmp 7), (.tmp 9)], #[114, 114]⟩), 114, "ref.go:41", #[⟨0, .data⟩, ⟨2, .data⟩], none⟩),
 .opn (.ld 13 none (.tmp 12)),
 .op (.fad 15 7 (.tmp 1)),
 .op (.raw (some 14) ⟨(some 14), (.call ⟨(.builtin .append), #[(.tmp 11), (.tmp 13)], #[114, 114]⟩), 114, "ref.go:41", #[⟨4, .data⟩, ⟨6, .data⟩, ⟨3, .chain⟩], none⟩),
 .op (.st 1 (.tmp 15) (.tmp 10)),
 .op (.fad 16 8 (.tmp 1)),
 .op (.st 1 (.tmp 16) (.tmp 14)),
 .kp [1,2]] .nil) (.one [.opn (.ld 13 none (.tmp 12)),
 .op (.raw (some 10) ⟨(some 10), (.call ⟨(.builtin .append), #[(.tmp 7), (.tmp 9)], #[114, 114]⟩), 114, "ref.go:41", #[⟨0, .data⟩, ⟨2, .data⟩], none⟩),
 .op (.fad 15 7 (.tmp 1)),
 .op (.raw (some 14) ⟨(some 14), (.call ⟨(.builtin .append), #[(.tmp 11), (.tmp 13)], #[114, 114]⟩), 114, "ref.go:41", #[⟨4, .data⟩, ⟨6, .data⟩, ⟨3, .chain⟩], none⟩),
 .op (.st 1 (.tmp 15) (.tmp 10)),
 .op (.fad 16 8 (.tmp 1)),
 .op (.st 1 (.tmp 16) (.tmp 14)),
 .kp [1,2]] .nil))) (.one [.opn (.ld 13 none (.tmp 12)),
 .opn (.ld 9 none (.tmp 8)),
 .op (.raw (some 10) ⟨(some 10), (.call ⟨(.builtin .append), #[(.tmp 7), (.tmp 9)], #[114, 114]⟩), 114, "ref.go:41", #[⟨0, .data⟩, ⟨2, .data⟩], none⟩),
 .op (.fad 15 7 (.tmp 1)),
 .op (.raw (some 14) ⟨(some 14), (.call ⟨(.builtin .append), #[(.tmp 11), (.tmp 13)], #[114, 114]⟩), 114, "ref.go:41", #[⟨4, .data⟩, ⟨6, .data⟩, ⟨3, .chain⟩], none⟩),
 .op (.st 1 (.tmp 15) (.tmp 10)),
 .op (.fad 16 8 (.tmp 1)),
 .op (.st 1 (.tmp 16) (.tmp 14)),
 .kp [1, 2]] .nil))) (.alt (.one [.opn (.ld 9 none (.tmp 8))] (.alt (.one [.op (.bsl 7 126 0 [] [])] (.alt (.one [.op (.raw (some 10) ⟨(some 10), (.call ⟨(.builtin .append), #[(.tmp 7), (.tmp 9)], #[114, 114]⟩), 114, "ref.go:41", #[⟨0, .data⟩, ⟨2, .data⟩], none⟩),
 .opn (.ld 13 none (.tmp 12)),
 .op (.fad 15 7 (.tmp 1)),
 .op (.raw (some 14) ⟨(some 14), (.call ⟨(.builtin .append), #[(.tmp 11), (.tmp 13)], #[114, 114]⟩), 114, "ref.go:41", #[⟨4, .data⟩, ⟨6, .data⟩, ⟨3, .chain⟩], none⟩),
 .op (.st 1 (.tmp 15) (.tmp 10)),
 .op (.fad 16 8 (.tmp 1)),
 .op (.st 1 (.tmp 16) (.tmp 14)),
 .kp [1,2]] .nil) (.one [.opn (.ld 13 none (.tmp 12)),
 .op (.raw (some 10) ⟨(some 10), (.call ⟨(.builtin .append), #[(.tmp 7), (.tmp 9)], #[114, 114]⟩), 114, "ref.go:41", #[⟨0, .data⟩, ⟨2, .data⟩], none⟩),
 .op (.fad 15 7 (.tmp 1)),
 .op (.raw (some 14) ⟨(some 14), (.call ⟨(.builtin .append), #[(.tmp 11), (.tmp 13)], #[114, 114]⟩), 114, "ref.go:41", #[⟨4, .data⟩, ⟨6, .data⟩, ⟨3, .chain⟩], none⟩),
 .op (.st 1 (.tmp 15) (.tmp 10)),
 .op (.fad 16 8 (.tmp 1)),
 .op (.st 1 (.tmp 16) (.tmp 14)),
 .kp [1,2]] .nil))) (.one [.opn (.ld 13 none (.tmp 12)),
 .op (.bsl 7 126 0 [] []),
 .op (.raw (some 10) ⟨(some 10), (.call ⟨(.builtin .append), #[(.tmp 7), (.tmp 9)], #[114, 114]⟩), 114, "ref.go:41", #[⟨0, .data⟩, ⟨2, .data⟩], none⟩),
 .op (.fad 15 7 (.tmp 1)),
 .op (.raw (some 14) ⟨(some 14), (.call ⟨(.builtin .append), #[(.tmp 11), (.tmp 13)], #[114, 114]⟩), 114, "ref.go:41", #[⟨4, .data⟩, ⟨6, .data⟩, ⟨3, .chain⟩], none⟩),
 .op (.st 1 (.tmp 15) (.tmp 10)),
 .op (.fad 16 8 (.tmp 1)),
 .op (.st 1 (.tmp 16) (.tmp 14)),
 .kp [1,2]] .nil))) (.one [.opn (.ld 13 none (.tmp 12))] (.alt (.one [.op (.bsl 7 126 0 [] []),
 .opn (.ld 9 none (.tmp 8)),
 .op (.raw (some 10) ⟨(some 10), (.call ⟨(.builtin .append), #[(.tmp 7), (.tmp 9)], #[114, 114]⟩), 114, "ref.go:41", #[⟨0, .data⟩, ⟨2, .data⟩], none⟩),
 .op (.fad 15 7 (.tmp 1)),
 .op (.raw (some 14) ⟨(some 14), (.call ⟨(.builtin .append), #[(.tmp 11), (.tmp 13)], #[114, 114]⟩), 114, "ref.go:41", #[⟨4, .data⟩, ⟨6, .data⟩, ⟨3, .chain⟩], none⟩),
 .op (.st 1 (.tmp 15) (.tmp 10)),
 .op (.fad 16 8 (.tmp 1)),
 .op (.st 1 (.tmp 16) (.tmp 14)),
 .kp [1,2]] .nil) (.one [.opn (.ld 9 none (.tmp 8)),
 .op (.bsl 7 126 0 [] []),
 .op (.raw (some 10) ⟨(some 10), (.call ⟨(.builtin .append), #[(.tmp 7), (.tmp 9)], #[114, 114]⟩), 114, "ref.go:41", #[⟨0, .data⟩, ⟨2, .data⟩], none⟩),
 .op (.fad 15 7 (.tmp 1)),
 .op (.raw (some 14) ⟨(some 14), (.call ⟨(.builtin .append), #[(.tmp 11), (.tmp 13)], #[114, 114]⟩), 114, "ref.go:41", #[⟨4, .data⟩, ⟨6, .data⟩, ⟨3, .chain⟩], none⟩),
 .op (.st 1 (.tmp 15) (.tmp 10)),
 .op (.fad 16 8 (.tmp 1)),
 .op (.st 1 (.tmp 16) (.tmp 14)),
 .kp [1, 2]] .nil)))))) (.one [.opn (.ld 13 none (.tmp 12))] (.alt (.one [.op (.bsl 7 126 0 [] [])] (.alt (.one [.opn (.ld 9 none (.tmp 8))] (.alt (.one [.op (.raw (some 10) ⟨(some 10), (.call ⟨(.builtin .append), #[(.tmp 7), (.tmp 9)], #[114, 114]⟩), 114, "ref.go:41", #[⟨0, .data⟩, ⟨2, .data⟩], none⟩),
 .op (.fad 15 7 (.tmp 1)),
 .op (.bsl 11 126 0 [] []),
 .op (.raw (some 14) ⟨(some 14), (.call ⟨(.builtin .append), #[(.tmp 11), (.tmp 13)], #[114, 114]⟩), 114, "ref.go:41", #[⟨4, .data⟩, ⟨6, .data⟩, ⟨3, .chain⟩], none⟩),
 .op (.st 1 (.tmp 15) (.tmp 10)),
 .op (.fad 16 8 (.tmp 1)),
 .op (.st 1 (.tmp 16) (.tmp 14)),
 .kp [1,2]] .nil) (.one [.op (.bsl 11 126 0 [] []),
 .op (.raw (some 10) ⟨(some 10), (.call ⟨(.builtin .append), #[(.tmp 7), (.tmp 9)], #[114, 114]⟩), 114, "ref.go:41", #[⟨0, .data⟩, ⟨2, .data⟩], none⟩),
 .op (.fad 15 7 (.tmp 1)),
 .op (.raw (some 14) ⟨(some 14), (.call ⟨(.builtin .append), #[(.tmp 11), (.tmp 13)], #[114, 114]⟩), 114, "ref.go:41", #[⟨4, .data⟩, ⟨6, .data⟩, ⟨3, .chain⟩], none⟩),
 .op (.st 1 (.tmp 15) (.tmp 10)),
 .op (.fad 16 8 (.tmp 1)),
 .op (.st 1 (.tmp 16) (.tmp 14)),
 .kp [1,2]] .nil))) (.one [.op (.bsl 11 126 0 [] []),
 .opn (.ld 9 none (.tmp 8)),
 .op (.raw (some 10) ⟨(some 10), (.call ⟨(.builtin .append), #[(.tmp 7), (.tmp 9)], #[114, 114]⟩), 114, "ref.go:41", #[⟨0, .data⟩, ⟨2, .data⟩], none⟩),
 .op (.fad 15 7 (.tmp 1)),
 .op (.raw (some 14) ⟨(some 14), (.call ⟨(.builtin .append), #[(.tmp 11), (.tmp 13)], #[114, 114]⟩), 114, "ref.go:41", #[⟨4, .data⟩, ⟨6, .data⟩, ⟨3, .chain⟩], none⟩),
 .op (.st 1 (.tmp 15) (.tmp 10)),
 .op (.fad 16 8 (.tmp 1)),
 .op (.st 1 (.tmp 16) (.tmp 14)),
 .kp [1, 2]] .nil))) (.alt (.one [.opn (.ld 9 none (.tmp 8))] (.alt (.one [.op (.bsl 7 126 0 [] [])] (.alt (.one [.op (.raw (some 10) ⟨(some 10), (.call ⟨(.builtin .append), #[(.tmp 7), (.tmp 9)], #[114, 114]⟩), 114, "ref.go:41", #[⟨0, .data⟩, ⟨2, .data⟩], none⟩),
 .op (.fad 15 7 (.tmp 1)),
 .op (.bsl 11 126 0 [] []),
 .op (.raw (some 14) ⟨(some 14), (.call ⟨(.builtin .append), #[(.tmp 11), (.tmp 13)], #[114, 114]⟩), 114, "ref.go:41", #[⟨4, .data⟩, ⟨6, .data⟩, ⟨3, .chain⟩], none⟩),
 .op (.st 1 (.tmp 15) (.tmp 10)),
 .op (.fad 16 8 (.tmp 1)),
 .op (.st 1 (.tmp 16) (.tmp 14)),
 .kp [1,2]] .nil) (.one [.op (.bsl 11 126 0 [] []),
 .op (.raw (some 10) ⟨(some 10), (.call ⟨(.builtin .append), #[(.tmp 7), (.tmp 9)], #[114, 114]⟩), 114, "ref.go:41", #[⟨0, .data⟩, ⟨2, .data⟩], none⟩),
 .op (.fad 15 7 (.tmp 1)),
 .op (.raw (some 14) ⟨(some 14), (.call ⟨(.builtin .append), #[(.tmp 11), (.tmp 13)], #[114, 114]⟩), 114, "ref.go:41", #[⟨4, .data⟩, ⟨6, .data⟩, ⟨3, .chain⟩], none⟩),
 .op (.st 1 (.tmp 15) (.tmp 10)),
 .op (.fad 16 8 (.tmp 1)),
 .op (.st 1 (.tmp 16) (.tmp 14)),
 .kp [1,2]] .nil))) (.one [.op (.bsl 11 126 0 [] []),
 .op (.bsl 7 126 0 [] []),
 .op (.raw (some 10) ⟨(some 10), (.call ⟨(.builtin .append), #[(.tmp 7), (.tmp 9)], #[114, 114]⟩), 114, "ref.go:41", #[⟨0, .data⟩, ⟨2, .data⟩], none⟩),
 .op (.fad 15 7 (.tmp 1)),
 .op (.raw (some 14) ⟨(some 14), (.call ⟨(.builtin .append), #[(.tmp 11), (.tmp 13)], #[114, 114]⟩), 114, "ref.go:41", #[⟨4, .data⟩, ⟨6, .data⟩, ⟨3, .chain⟩], none⟩),
 .op (.st 1 (.tmp 15) (.tmp 10)),
 .op (.fad 16 8 (.tmp 1)),
 .op (.st 1 (.tmp 16) (.tmp 14)),
 .kp [1,2]] .nil))) (.one [.op (.bsl 11 126 0 [] [])] (.alt (.one [.op (.bsl 7 126 0 [] []),
 .opn (.ld 9 none (.tmp 8)),
 .op (.raw (some 10) ⟨(some 10), (.call ⟨(.builtin .append), #[(.tmp 7), (.tmp 9)], #[114, 114]⟩), 114, "ref.go:41", #[⟨0, .data⟩, ⟨2, .data⟩], none⟩),
 .op (.fad 15 7 (.tmp 1)),
 .op (.raw (some 14) ⟨(some 14), (.call ⟨(.builtin .append), #[(.tmp 11), (.tmp 13)], #[114, 114]⟩), 114, "ref.go:41", #[⟨4, .data⟩, ⟨6, .data⟩, ⟨3, .chain⟩], none⟩),
 .op (.st 1 (.tmp 15) (.tmp 10)),
 .op (.fad 16 8 (.tmp 1)),
 .op (.st 1 (.tmp 16) (.tmp 14)),
 .kp [1,2]] .nil) (.one [.opn (.ld 9 none (.tmp 8)),
 .op (.bsl 7 126 0 [] []),
 .op (.raw (some 10) ⟨(some 10), (.call ⟨(.builtin .append), #[(.tmp 7), (.tmp 9)], #[114, 114]⟩), 114, "ref.go:41", #[⟨0, .data⟩, ⟨2, .data⟩], none⟩),
 .op (.fad 15 7 (.tmp 1)),
 .op (.raw (some 14) ⟨(some 14), (.call ⟨(.builtin .append), #[(.tmp 11), (.tmp 13)], #[114, 114]⟩), 114, "ref.go:41", #[⟨4, .data⟩, ⟨6, .data⟩, ⟨3, .chain⟩], none⟩),
 .op (.st 1 (.tmp 15) (.tmp 10)),
 .op (.fad 16 8 (.tmp 1)),
 .op (.st 1 (.tmp 16) (.tmp 14)),
 .kp [1,2]] .nil))))))))))
def f55r3 : List I := [.op (.ld 17 (some 9) (.tmp 1)),
 .op (.st 9 (.tmp 2) (.tmp 17)),
 .kp [2]]
def f55c3 : C := (.seq (.reg f55r3) .ret)
def f55c2 : C := (.seq (.drt f55r2) f55c3)
def f55c1 : C := (.seq (.reg f55r1) f55c2)
def f55c0 : C := (.seq (.reg f55r0) f55c1)
theorem f55cmp : cmpF Try.prog Try.f55 [.l [.o 0,.o 1,.kp [1,2]],
 .l [.o 0,.o 1,.o 2,.o 3,.o 4,.kp [1,2]],
 .t (.one [.o 1,.o 5] (.alt (.one [.o 0] (.alt (.one [.x 2] (.alt (.one [.o 3] (.alt (.one [.o 4,.x 6,.o 8,.o 7,.o 9,.o 10,.o 11,.kp [1,2]] .nil) (.one [.x 6,.o 8,.o 4,.o 7,.o 9,.o 10,.o 11,.kp [1,2]] .nil))) (.alt (.one [.o 4] (.alt (.one [.o 3,.x 6,.o 8,.o 7,.o 9,.o 10,.o 11,.kp [1,2]] .nil) (.one [.x 6,.o 3,.o 8,.o 7,.o 9,.o 10,.o 11,.kp [1,2]] .nil))) (.one [.x 6] (.alt (.one [.o 3,.o 8,.o 4,.o 7,.o 9,.o 10,.o 11,.kp [1,2]] .nil) (.one [.o 4,.o 3,.o 8,.o 7,.o 9,.o 10,.o 11,.kp [1,2]] .nil)))))) (.alt (.one [.o 4] (.alt (.one [.x 2] (.alt (.one [.o 3,.x 6,.o 8,.o 7,.o 9,.o 10,.o 11,.kp [1,2]] .nil) (.one [.x 6,.o 3,.o 8,.o 7,.o 9,.o 10,.o 11,.kp [1,2]] .nil))) (.one [.x 6,.x 2,.o 3,.o 8,.o 7,.o 9,.o 10,.o 11,.kp [1,2]] .nil))) (.one [.x 6] (.alt (.one [.x 2] (.alt (.one [.o 3,.o 8,.o 4,.o 7,.o 9,.o 10,.o 11,.kp [1,2]] .nil) (.one [.o 4,.o 3,.o 8,.o 7,.o 9,.o 10,.o 11,.kp [1,2]] .nil))) (.one [.o 4,.x 2,.o 3,.o 8,.o 7,.o 9,.o 10,.o 11,.kp [1,2]] .nil)))))) (.alt (.one [.x 2] (.alt (.one [.o 0] (.alt (.one [.o 3] (.alt (.one [.o 4,.x 6,.o 8,.o 7,.o 9,.o 10,.o 11,.kp [1,2]] .nil) (.one [.x 6,.o 8,.o 4,.o 7,.o 9,.o 10,.o 11,.kp [1,2]] .nil))) (.alt (.one [.o 4] (.alt (.one [.o 3,.x 6,.o 8,.o 7,.o 9,.o 10,.o 11,.kp [1,2]] .nil) (.one [.x 6,.o 3,.o 8,.o 7,.o 9,.o 10,.o 11,.kp [1,2]] .nil))) (.one [.x 6] (.alt (.one [.o 3,.o 8,.o 4,.o 7,.o 9,.o 10,.o 11,.kp [1,2]] .nil) (.one [.o 4,.o 3,.o 8,.o 7,.o 9,.o 10,.o 11,.kp [1,2]] .nil)))))) (.alt (.one [.o 4] (.alt (.one [.o 0] (.alt (.one [.o 3,.x 6,.o 8,.o 7,.o 9,.o 10,.o 11,.kp [1,2]] .nil) (.one [.x 6,.o 3,.o 8,.o 7,.o 9,.o 10,.o 11,.kp [1,2]] .nil))) (.one [.x 6,.o 0,.o 3,.o 8,.o 7,.o 9,.o 10,.o 11,.kp [1,2]] .nil))) (.one [.x 6] (.alt (.one [.o 0] (.alt (.one [.o 3,.o 8,.o 4,.o 7,.o 9,.o 10,.o 11,.kp [1,2]] .nil) (.one [.o 4,.o 3,.o 8,.o 7,.o 9,.o 10,.o 11,.kp [1,2]] .nil))) (.one [.o 4,.o 0,.o 3,.o 8,.o 7,.o 9,.o 10,.o 11,.kp [1,2]] .nil)))))) (.alt (.one [.o 4] (.alt (.one [.o 0] (.alt (.one [.x 2] (.alt (.one [.o 3,.x 6,.o 8,.o 7,.o 9,.o 10,.o 11,.kp [1,2]] .nil) (.one [.x 6,.o 3,.o 8,.o 7,.o 9,.o 10,.o 11,.kp [1,2]] .nil))) (.one [.x 6,.x 2,.o 3,.o 8,.o 7,.o 9,.o 10,.o 11,.kp [1,2]] .nil))) (.alt (.one [.x 2] (.alt (.one [.o 0] (.alt (.one [.o 3,.x 6,.o 8,.o 7,.o 9,.o 10,.o 11,.kp [1,2]] .nil) (.one [.x 6,.o 3,.o 8,.o 7,.o 9,.o 10,.o 11,.kp [1,2]] .nil))) (.one [.x 6,.o 0,.o 3,.o 8,.o 7,.o 9,.o 10,.o 11,.kp [1,2]] .nil))) (.one [.x 6] (.alt (.one [.o 0,.x 2,.o 3,.o 8,.o 7,.o 9,.o 10,.o 11,.kp [1,2]] .nil) (.one [.x 2,.o 0,.o 3,.o 8,.o 7,.o 9,.o 10,.o 11,.kp [1,2]] .nil)))))) (.one [.x 6] (.alt (.one [.o 0] (.alt (.one [.x 2] (.alt (.one [.o 3,.o 8,.o 4,.o 7,.o 9,.o 10,.o 11,.kp [1,2]] .nil) (.one [.o 4,.o 3,.o 8,.o 7,.o 9,.o 10,.o 11,.kp [1,2]] .nil))) (.one [.o 4,.x 2,.o 3,.o 8,.o 7,.o 9,.o 10,.o 11,.kp [1,2]] .nil))) (.alt (.one [.x 2] (.alt (.one [.o 0] (.alt (.one [.o 3,.o 8,.o 4,.o 7,.o 9,.o 10,.o 11,.kp [1,2]] .nil) (.one [.o 4,.o 3,.o 8,.o 7,.o 9,.o 10,.o 11,.kp [1,2]] .nil))) (.one [.o 4,.o 0,.o 3,.o 8,.o 7,.o 9,.o 10,.o 11,.kp [1,2]] .nil))) (.one [.o 4] (.alt (.one [.o 0,.x 2,.o 3,.o 8,.o 7,.o 9,.o 10,.o 11,.kp [1,2]] .nil) (.one [.x 2,.o 0,.o 3,.o 8,.o 7,.o 9,.o 10,.o 11,.kp [1,2]] .nil)))))))))),
 .l [.o 0,.o 1,.kp [2]]] = some (f55c0,[.cell 2 9]) := by kernel_rfl
theorem f55ok {args : List Value} {h : Heap} {R : Value → Heap → Prop} (hn : args.length ≤ 18) (H : wC Try.prog f55c0 (endW [.cell 2 9] R) (envOf 0 args) h) : CallsH Try.prog 55 args h R :=
 fn_ok2 Try.func55 f55cmp hn H
section
variable {P : Program} {Q : X → Env → Heap → Prop} {σ : Env} {h : Heap}
theorem f55c3_eq : wC P f55c3 Q σ h = (wL P none f55r3 0 (fun σ h => Q .ret σ h) σ h) := rfl
theorem f55c2_eq : wC P f55c2 Q σ h = (drtW P f55r2 (fun σ h => wC P f55c3 Q σ h) σ h) := rfl
theorem f55c1_eq : wC P f55c1 Q σ h = (wL P none f55r1 0 (fun σ h => wC P f55c2 Q σ h) σ h) := rfl
theorem f55c0_eq : wC P f55c0 Q σ h = (wL P none f55r0 0 (fun σ h => wC P f55c1 Q σ h) σ h) := rfl
end
def f57r0 : List I := [.op (.box 2 116 (.tmp 0)),
 .op (.box 3 43 (.tmp 1)),
 .op (.new 4 116 [.int .i64 0,.int .i64 0,.int .i64 0,.int .i64 0,.int .i64 0,.int .i64 0,.slice none 0 0,.slice none 0 0,.slice none 0 0]),
 .op (.new 5 47 [.int .i64 0,.slice none 0 0,.int .i64 0,.int .i64 0,.int .i64 0,.int .i64 0,.int .i64 0,.int .i64 0,.int .i64 0,.int .i64 0,.bool false]),
 .kp [2,3,4,5]]
def f57r1 : List I := [.op (.ld 13 (some 9) (.tmp 2)),
 .op (.call (some 14) 55 [(.tmp 13)]),
 .op (.new 6 116 [.int .i64 0,.int .i64 0,.int .i64 0,.int .i64 0,.int .i64 0,.int .i64 0,.slice none 0 0,.slice none 0 0,.slice none 0 0]),
 .op (.st 9 (.tmp 6) (.tmp 14)),
 .kp [3,4,5,6]]
def f57r2 : List I := [.op (.fad 15 0 (.tmp 3)),
 .op (.ld 16 none (.tmp 15)),
 .op (.bin 17 .eql (.tmp 16) (.const (.int .i64 1))),
 .kp [3,4,5,6,17]]
def f57r3 : List I := [.op (.fad 18 1 (.tmp 3)),
 .op (.ld 19 none (.tmp 18)),
 .op (.fad 20 0 (.tmp 6)),
 .op (.ld 21 none (.tmp 20)),
 .op (.bin 22 .add (.tmp 21) (.const (.int .i64 1))),
 .op (.bin 23 .neq (.tmp 19) (.tmp 22)),
 .op (.mov 24 (.tmp 23)),
 .sc 24 false 3,
 .g 24 false (.fad 25 1 (.tmp 3)),
 .g 24 false (.ld 26 none (.tmp 25)),
 .g 24 false (.bin 27 .gtr (.tmp 26) (.const (.int .i64 1099511627776))),
 .op (.pick 28 (.tmp 24) (.const (.bool true)) (.tmp 27)),
 .kp [28,3,4,5,6]]
def f57r4 : List I := [.op (.ld 29 (some 9) (.tmp 6)),
 .op (.bld 30 [.int .i64 0,.slice none 0 0,.int .i64 0,.int .i64 0,.int .i64 0,.int .i64 0,.int .i64 0,.int .i64 0,.int .i64 0,.int .i64 0,.bool false] [(0,1,(.const (.int .i64 25)))]),
 .op (.st 9 (.tmp 4) (.tmp 29)),
 .op (.st 11 (.tmp 5) (.tmp 30)),
 .kp [4,5]]
def f57r5 : List I := [.op (.fad 31 1 (.tmp 3)),
 .op (.ld 32 none (.tmp 31)),
 .op (.fad 33 2 (.tmp 3)),
 .op (.ld 34 none (.tmp 33)),
 .op (.fad 35 0 (.tmp 6)),
 .op (.st 1 (.tmp 35) (.tmp 32)),
 .op (.fad 36 1 (.tmp 6)),
 .op (.st 1 (.tmp 36) (.tmp 34)),
 .kp [4,5,6]]
def f57r6 : List I := [.op (.ld 37 (some 9) (.tmp 6)),
 .op (.bld 38 [.int .i64 0,.slice none 0 0,.int .i64 0,.int .i64 0,.int .i64 0,.int .i64 0,.int .i64 0,.int .i64 0,.int .i64 0,.int .i64 0,.bool false] []),
 .op (.st 9 (.tmp 4) (.tmp 37)),
 .op (.st 11 (.tmp 5) (.tmp 38)),
 .kp [4,5]]
def f57r7 : List I := [.op (.fad 39 0 (.tmp 6)),
 .op (.ld 40 none (.tmp 39)),
 .op (.bin 41 .eql (.tmp 40) (.const (.int .i64 0))),
 .op (.mov 42 (.tmp 41)),
 .sc 42 false 5,
 .g 42 false (.fad 43 1 (.tmp 3)),
 .g 42 false (.ld 44 none (.tmp 43)),
 .g 42 false (.fad 45 0 (.tmp 6)),
 .g 42 false (.ld 46 none (.tmp 45)),
 .g 42 false (.bin 47 .neq (.tmp 44) (.tmp 46)),
 .op (.pick 48 (.tmp 42) (.const (.bool true)) (.tmp 47)),
 .kp [48,3,4,5,6]]
def f57r8 : List I := [.op (.ld 49 (some 9) (.tmp 6)),
 .op (.bld 50 [.int .i64 0,.slice none 0 0,.int .i64 0,.int .i64 0,.int .i64 0,.int .i64 0,.int .i64 0,.int .i64 0,.int .i64 0,.int .i64 0,.bool false] [(0,1,(.const (.int .i64 25)))]),
 .op (.st 9 (.tmp 4) (.tmp 49)),
 .op (.st 11 (.tmp 5) (.tmp 50)),
 .kp [4,5]]
def f57r9 : List I := [.op (.fad 51 0 (.tmp 3)),
 .op (.ld 52 none (.tmp 51)),
 .kp [3,4,5,6,52]]
def f57r10 : List I := [.op (.bin 54 .eql (.tmp 52) (.const (.int .i64 2))),
 .op (.mov 53 (.tmp 54)),
 .kp [3,4,5,6,52,53]]
def f57r11 : List I := [.op (.fad 55 8 (.tmp 3)),
 .op (.fad 56 0 (.tmp 55)),
 .op (.ld 57 none (.tmp 56)),
 .op (.fad 58 5 (.tmp 6)),
 .op (.ld 59 none (.tmp 58)),
 .op (.bin 60 .lss (.tmp 57) (.tmp 59)),
 .kp [3,4,5,6,60]]
def f57r12 : List I := [.op (.ld 61 (some 9) (.tmp 6)),
 .op (.fad 62 5 (.tmp 6)),
 .op (.ld 63 none (.tmp 62)),
 .op (.bld 64 [.int .i64 0,.slice none 0 0,.int .i64 0,.int .i64 0,.int .i64 0,.int .i64 0,.int .i64 0,.int .i64 0,.int .i64 0,.int .i64 0,.bool false] [(0,1,(.const (.int .i64 24))),(9,1,(.tmp 63))]),
 .op (.st 9 (.tmp 4) (.tmp 61)),
 .op (.st 11 (.tmp 5) (.tmp 64)),
 .kp [4,5]]
def f57r13 : List I := [.op (.ld 66 (some 9) (.tmp 6)),
 .op (.fad 67 8 (.tmp 3)),
 .op (.ld 68 (some 2) (.tmp 67)),
 .op (.fad 69 12 (.tmp 3)),
 .op (.ld 70 none (.tmp 69)),
 .op (.call (some 71) 98 [(.tmp 66),(.tmp 68),(.tmp 70)]),
 .op (.mov 65 (.tmp 71)),
 .op (.ext 72 (.tmp 65) 0),
 .op (.ext 73 (.tmp 65) 1),
 .op (.new 8 47 [.int .i64 0,.slice none 0 0,.int .i64 0,.int .i64 0,.int .i64 0,.int .i64 0,.int .i64 0,.int .i64 0,.int .i64 0,.int .i64 0,.bool false]),
 .kp [3,4,5,6,8,72,73],
 .op (.mov 7 (.tmp 72)),
 .op (.st 11 (.tmp 8) (.tmp 73)),
 .kp [3,4,5,6,7,8]]
def f57r14 : List I := [.op (.fad 74 0 (.tmp 8)),
 .op (.ld 75 none (.tmp 74)),
 .op (.bin 76 .neq (.tmp 75) (.const (.int .i64 0))),
 .kp [3,4,5,6,7,8,76]]
def f57r15 : List I := [.op (.ld 77 (some 9) (.tmp 6)),
 .op (.ld 78 (some 11) (.tmp 8)),
 .op (.st 9 (.tmp 4) (.tmp 77)),
 .op (.st 11 (.tmp 5) (.tmp 78)),
 .kp [4,5]]
def f57r16 : List I := [.op (.fad 79 2 (.tmp 6)),
 .op (.ld 80 (some 2) (.tmp 79)),
 .op (.fad 81 8 (.tmp 3)),
 .op (.ld 82 (some 2) (.tmp 81)),
 .op (.call (some 83) 99 [(.tmp 80),(.tmp 82)]),
 .op (.fad 84 2 (.tmp 6)),
 .op (.st 2 (.tmp 84) (.tmp 83)),
 .kp [4,5,6,7]]
def f57r17 : List I := [.op (.ld 85 (some 9) (.tmp 6)),
 .op (.mov 86 (.tmp 7)),
 .op (.bld 87 [.int .i64 0,.slice none 0 0,.int .i64 0,.int .i64 0,.int .i64 0,.int .i64 0,.int .i64 0,.int .i64 0,.int .i64 0,.int .i64 0,.bool false] [(1,1,(.tmp 86))]),
 .op (.st 9 (.tmp 4) (.tmp 85)),
 .op (.st 11 (.tmp 5) (.tmp 87)),
 .kp [4,5]]
def f57r18 : List I := [.op (.bin 89 .eql (.tmp 52) (.const (.int .i64 3))),
 .op (.mov 88 (.tmp 89)),
 .kp [3,4,5,6,52,88]]
def f57r19 : List I := [.op (.ld 90 (some 9) (.tmp 6)),
 .op (.ld 91 (some 14) (.tmp 3)),
 .op (.call (some 92) 100 [(.tmp 90),(.tmp 91)]),
 .op (.ext 93 (.tmp 92) 0),
 .op (.ext 94 (.tmp 92) 1),
 .op (.st 9 (.tmp 4) (.tmp 93)),
 .op (.st 11 (.tmp 5) (.tmp 94)),
 .kp [4,5]]
def f57r20 : List I := [.op (.bin 96 .eql (.tmp 52) (.const (.int .i64 4))),
 .op (.mov 95 (.tmp 96)),
 .kp [3,4,5,6,52,95]]
def f57r21 : List I := [.op (.fad 98 7 (.tmp 6)),
 .op (.ld 99 none (.tmp 98)),
 .op (.fad 100 4 (.tmp 3)),
 .op (.ld 101 (some 4) (.tmp 100)),
 .op (.call (some 102) 64 [(.tmp 99),(.tmp 101)]),
 .op (.mov 97 (.tmp 102)),
 .op (.ext 103 (.tmp 97) 0),
 .op (.ext 104 (.tmp 97) 1),
 .op (.new 9 126 [.int .i64 0,.int .i64 0,.int .i64 0,.int .i64 0,.int .i64 0,.int .i64 0,.bool false]),
 .op (.st 7 (.tmp 9) (.tmp 103)),
 .kp [3,4,5,6,9,104],
 .op (.mov 10 (.tmp 104)),
 .kp [3,4,5,6,9,10]]
def f57r22 : List I := [.op (.mov 105 (.tmp 10)),
 .op (.un 106 .not (.tmp 105)),
 .kp [3,4,5,6,9,106]]
def f57r23 : List I := [.op (.fad 107 4 (.tmp 3)),
 .op (.ld 108 (some 4) (.tmp 107)),
 .op (.fad 109 8 (.tmp 3)),
 .op (.ld 110 (some 2) (.tmp 109)),
 .op (.fad 111 11 (.tmp 3)),
 .op (.ld 112 none (.tmp 111)),
 .op (.bld 113 [.int .i64 0,.int .i64 0,.int .i64 0,.int .i64 0,.int .i64 0,.int .i64 0,.bool false] [(0,4,(.tmp 108)),(4,2,(.tmp 110)),(6,1,(.tmp 112))]),
 .op (.st 7 (.tmp 9) (.tmp 113)),
 .kp [4,5,6,9]]
def f57r24 : List I := [.op (.fad 114 7 (.tmp 6)),
 .op (.ld 115 none (.tmp 114)),
 .op (.ld 116 (some 7) (.tmp 9)),
 .op (.bsl 117 126 1 [.int .i64 0,.int .i64 0,.int .i64 0,.int .i64 0,.int .i64 0,.int .i64 0,.bool false] [(0,7,(.tmp 116))]),
 .op (.raw (some 118) ⟨(some 118), (.call ⟨(.builtin .append), #[(.tmp 115), (.tmp 117)], #[114, 114]⟩), 114, "ref.go:98", #[⟨1, .data⟩, ⟨3, .data⟩], none⟩),
 .op (.fad 119 7 (.tmp 6)),
 .op (.st 1 (.tmp 119) (.tmp 118)),
 .kp [4,5,6,9]]
def f57r25 : List I := [.op (.ld 120 (some 9) (.tmp 6)),
 .op (.fad 121 4 (.tmp 9)),
 .op (.ld 122 (some 2) (.tmp 121)),
 .op (.fad 123 6 (.tmp 9)),
 .op (.ld 124 none (.tmp 123)),
 .op (.bld 125 [.int .i64 0,.slice none 0 0,.int .i64 0,.int .i64 0,.int .i64 0,.int .i64 0,.int .i64 0,.int .i64 0,.int .i64 0,.int .i64 0,.bool false] [(7,2,(.tmp 122)),(10,1,(.tmp 124))]),
 .op (.st 9 (.tmp 4) (.tmp 120)),
 .op (.st 11 (.tmp 5) (.tmp 125)),
 .kp [4,5]]
def f57r26 : List I := [.op (.bin 127 .eql (.tmp 52) (.const (.int .i64 5))),
 .op (.mov 126 (.tmp 127)),
 .kp [3,4,5,6,52,126]]
def f57r27 : List I := [.op (.fad 128 6 (.tmp 6)),
 .op (.ld 129 none (.tmp 128)),
 .op (.fad 130 4 (.tmp 3)),
 .op (.ld 131 (some 4) (.tmp 130)),
 .op (.fad 132 11 (.tmp 3)),
 .op (.ld 133 none (.tmp 132)),
 .op (.call (some 134) 80 [(.tmp 129),(.tmp 131),(.tmp 133)]),
 .op (.fad 135 6 (.tmp 6)),
 .op (.st 1 (.tmp 135) (.tmp 134)),
 .kp [3,4,5,6]]
def f57r28 : List I := [.op (.fad 137 8 (.tmp 6)),
 .op (.ld 138 none (.tmp 137)),
 .op (.fad 139 4 (.tmp 3)),
 .op (.ld 140 (some 4) (.tmp 139)),
 .op (.call (some 141) 64 [(.tmp 138),(.tmp 140)]),
 .op (.mov 136 (.tmp 141)),
 .op (.ext 142 (.tmp 136) 0),
 .op (.ext 143 (.tmp 136) 1),
 .op (.new 11 126 [.int .i64 0,.int .i64 0,.int .i64 0,.int .i64 0,.int .i64 0,.int .i64 0,.bool false]),
 .op (.st 7 (.tmp 11) (.tmp 142)),
 .kp [3,4,5,6,143],
 .op (.mov 12 (.tmp 143)),
 .kp [3,4,5,6,12]]
def f57r29 : List I := [.op (.mov 144 (.tmp 12)),
 .op (.un 145 .not (.tmp 144)),
 .kp [3,4,5,6,145]]
def f57r30 : List I := [.op (.fad 146 8 (.tmp 6)),
 .op (.ld 147 none (.tmp 146)),
 .op (.fad 148 4 (.tmp 3)),
 .op (.ld 149 (some 4) (.tmp 148)),
 .op (.fad 150 8 (.tmp 3)),
 .op (.ld 151 (some 2) (.tmp 150)),
 .op (.fad 152 11 (.tmp 3)),
 .op (.ld 153 none (.tmp 152)),
 .op (.bld 154 [.int .i64 0,.int .i64 0,.int .i64 0,.int .i64 0,.int .i64 0,.int .i64 0,.bool false] [(0,4,(.tmp 149)),(4,2,(.tmp 151)),(6,1,(.tmp 153))]),
 .op (.bsl 155 126 1 [.int .i64 0,.int .i64 0,.int .i64 0,.int .i64 0,.int .i64 0,.int .i64 0,.bool false] [(0,7,(.tmp 154))]),
 .kp [4,5,6,147,155],
 .op (.raw (some 156) ⟨(some 156), (.call ⟨(.builtin .append), #[(.tmp 147), (.tmp 155)], #[114, 114]⟩), 114, "ref.go:105", #[⟨1, .data⟩, ⟨9, .data⟩], none⟩),
 .op (.fad 157 8 (.tmp 6)),
 .op (.st 1 (.tmp 157) (.tmp 156)),
 .kp [4,5,6]]
def f57r31 : List I := [.op (.ld 158 (some 9) (.tmp 6)),
 .op (.bld 159 [.int .i64 0,.slice none 0 0,.int .i64 0,.int .i64 0,.int .i64 0,.int .i64 0,.int .i64 0,.int .i64 0,.int .i64 0,.int .i64 0,.bool false] []),
 .op (.st 9 (.tmp 4) (.tmp 158)),
 .op (.st 11 (.tmp 5) (.tmp 159)),
 .kp [4,5]]
def f57r32 : List I := [.op (.bin 161 .eql (.tmp 52) (.const (.int .i64 6))),
 .op (.mov 160 (.tmp 161)),
 .kp [3,4,5,6,52,160]]
def f57r33 : List I := [.op (.fad 162 4 (.tmp 6)),
 .op (.ld 163 none (.tmp 162)),
 .op (.fad 164 10 (.tmp 3)),
 .op (.ld 165 none (.tmp 164)),
 .op (.mm 166 false (.tmp 165) (.const (.int .i64 4611686018427387904))),
 .op (.mm 167 true (.tmp 163) (.tmp 166)),
 .op (.fad 168 4 (.tmp 6)),
 .op (.st 1 (.tmp 168) (.tmp 167)),
 .kp [4,5,6]]
def f57r34 : List I := [.op (.ld 169 (some 9) (.tmp 6)),
 .op (.fad 170 4 (.tmp 6)),
 .op (.ld 171 none (.tmp 170)),
 .op (.bld 172 [.int .i64 0,.slice none 0 0,.int .i64 0,.int .i64 0,.int .i64 0,.int .i64 0,.int .i64 0,.int .i64 0,.int .i64 0,.int .i64 0,.bool false] [(9,1,(.tmp 171))]),
 .op (.st 9 (.tmp 4) (.tmp 169)),
 .op (.st 11 (.tmp 5) (.tmp 172)),
 .kp [4,5]]
def f57r35 : List I := [.op (.bin 174 .eql (.tmp 52) (.const (.int .i64 7))),
 .op (.mov 173 (.tmp 174)),
 .kp [3,4,5,6,173]]
def f57r36 : List I := [.op (.fad 175 5 (.tmp 6)),
 .op (.ld 176 none (.tmp 175)),
 .op (.fad 177 10 (.tmp 3)),
 .op (.ld 178 none (.tmp 177)),
 .op (.fad 179 4 (.tmp 6)),
 .op (.ld 180 none (.tmp 179)),
 .op (.mm 181 false (.tmp 178) (.tmp 180)),
 .op (.mm 182 true (.tmp 176) (.tmp 181)),
 .op (.fad 183 5 (.tmp 6)),
 .op (.st 1 (.tmp 183) (.tmp 182)),
 .kp [4,5,6]]
def f57r37 : List I := [.op (.fad 184 6 (.tmp 6)),
 .op (.ld 185 none (.tmp 184)),
 .op (.fad 186 5 (.tmp 6)),
 .op (.ld 187 none (.tmp 186)),
 .op (.bld 188 [.int .i64 0,.int .i64 0] [(0,1,(.tmp 187))]),
 .op (.call (some 189) 81 [(.tmp 185),(.tmp 188)]),
 .op (.fad 190 6 (.tmp 6)),
 .op (.st 1 (.tmp 190) (.tmp 189)),
 .kp [4,5,6]]
def f57r38 : List I := [.op (.ld 191 (some 9) (.tmp 6)),
 .op (.fad 192 5 (.tmp 6)),
 .op (.ld 193 none (.tmp 192)),
 .op (.bld 194 [.int .i64 0,.slice none 0 0,.int .i64 0,.int .i64 0,.int .i64 0,.int .i64 0,.int .i64 0,.int .i64 0,.int .i64 0,.int .i64 0,.bool false] [(9,1,(.tmp 193))]),
 .op (.st 9 (.tmp 4) (.tmp 191)),
 .op (.st 11 (.tmp 5) (.tmp 194)),
 .kp [4,5]]
def f57r39 : List I := [.op (.ld 195 (some 9) (.tmp 6)),
 .op (.bld 196 [.int .i64 0,.slice none 0 0,.int .i64 0,.int .i64 0,.int .i64 0,.int .i64 0,.int .i64 0,.int .i64 0,.int .i64 0,.int .i64 0,.bool false] [(0,1,(.const (.int .i64 9)))]),
 .op (.st 9 (.tmp 4) (.tmp 195)),
 .op (.st 11 (.tmp 5) (.tmp 196)),
 .kp [4,5]]
def f57c6 : C := (.seq (.reg f57r4) .ret)
def f57c8 : C := (.seq (.reg f57r6) .ret)
def f57c7 : C := (.seq (.drw f57r5) f57c8)
def f57c5 : C := (.seq (.cond (.tmp 28) f57c6 .skip) f57c7)
def f57c4 : C := (.seq (.reg f57r3) f57c5)
def f57c11 : C := (.seq (.reg f57r8) .ret)
def f57c18 : C := (.seq (.drw f57r12) .ret)
def f57c22 : C := (.seq (.drw f57r15) .ret)
def f57c24 : C := (.seq (.reg f57r17) .ret)
def f57c23 : C := (.seq (.reg f57r16) f57c24)
def f57c21 : C := (.seq (.cond (.tmp 76) f57c22 .skip) f57c23)
def f57c20 : C := (.seq (.reg f57r14) f57c21)
def f57c19 : C := (.seq (.reg f57r13) f57c20)
def f57c17 : C := (.seq (.cond (.tmp 60) f57c18 .skip) f57c19)
def f57c16 : C := (.seq (.reg f57r11) f57c17)
def f57c27 : C := (.seq (.reg f57r19) .ret)
def f57c34 : C := (.reg f57r24)
def f57c33 : C := (.seq (.reg f57r23) f57c34)
def f57c35 : C := (.seq (.drw f57r25) .ret)
def f57c32 : C := (.seq (.cond (.tmp 106) f57c33 .skip) f57c35)
def f57c31 : C := (.seq (.reg f57r22) f57c32)
def f57c30 : C := (.seq (.reg f57r21) f57c31)
def f57c42 : C := (.reg f57r30)
def f57c43 : C := (.seq (.reg f57r31) .ret)
def f57c41 : C := (.seq (.cond (.tmp 145) f57c42 .skip) f57c43)
def f57c40 : C := (.seq (.reg f57r29) f57c41)
def f57c39 : C := (.seq (.reg f57r28) f57c40)
def f57c38 : C := (.seq (.reg f57r27) f57c39)
def f57c47 : C := (.seq (.drw f57r34) .ret)
def f57c46 : C := (.seq (.reg f57r33) f57c47)
def f57c52 : C := (.seq (.drw f57r38) .ret)
def f57c51 : C := (.seq (.reg f57r37) f57c52)
def f57c50 : C := (.seq (.reg f57r36) f57c51)
def f57c49 : C := (.cond (.tmp 173) f57c50 .skip)
def f57c48 : C := (.seq (.reg f57r35) f57c49)
def f57c45 : C := (.cond (.tmp 160) f57c46 f57c48)
def f57c44 : C := (.seq (.reg f57r32) f57c45)
def f57c37 : C := (.cond (.tmp 126) f57c38 f57c44)
def f57c36 : C := (.seq (.reg f57r26) f57c37)
def f57c29 : C := (.cond (.tmp 95) f57c30 f57c36)
def f57c28 : C := (.seq (.reg f57r20) f57c29)
def f57c26 : C := (.cond (.tmp 88) f57c27 f57c28)
def f57c25 : C := (.seq (.reg f57r18) f57c26)
def f57c15 : C := (.cond (.tmp 53) f57c16 f57c25)
def f57c14 : C := (.seq (.reg f57r10) f57c15)
def f57c53 : C := (.seq (.reg f57r39) .ret)
def f57c13 : C := (.seq (.block 0 f57c14) f57c53)
def f57c12 : C := (.seq (.reg f57r9) f57c13)
def f57c10 : C := (.seq (.cond (.tmp 48) f57c11 .skip) f57c12)
def f57c9 : C := (.seq (.reg f57r7) f57c10)
def f57c3 : C := (.seq (.cond (.tmp 17) f57c4 .skip) f57c9)
def f57c2 : C := (.seq (.reg f57r2) f57c3)
def f57c1 : C := (.seq (.reg f57r1) f57c2)
def f57c0 : C := (.seq (.reg f57r0) f57c1)
theorem f57cmp : cmpF Try.prog Try.f57 [.l [.o 0,.o 1,.o 2,.o 3,.kp [2,3,4,5]],
 .l [.o 0,.o 1,.o 2,.o 3,.kp [3,4,5,6]],
 .l [.o 0,.o 1,.o 2,.kp [3,4,5,6,17]],
 .l [.o 0,.o 1,.o 2,.o 3,.o 4,.o 5,.o 6,.sc 24 false 3,.o 7,.o 8,.o 9,.o 10,.kp [28,3,4,5,6]],
 .l [.o 0,.o 1,.o 2,.o 3,.kp [4,5]],
 .l [.o 0,.o 1,.o 2,.o 3,.o 4,.o 5,.o 6,.o 7,.kp [4,5,6]],
 .l [.o 0,.o 1,.o 2,.o 3,.kp [4,5]],
 .l [.o 0,.o 1,.o 2,.o 3,.sc 42 false 5,.o 4,.o 5,.o 6,.o 7,.o 8,.o 9,.kp [48,3,4,5,6]],
 .l [.o 0,.o 1,.o 2,.o 3,.kp [4,5]],
 .l [.o 0,.o 1,.kp [3,4,5,6,52]],
 .l [.o 0,.o 1,.kp [3,4,5,6,52,53]],
 .l [.o 0,.o 1,.o 2,.o 3,.o 4,.o 5,.kp [3,4,5,6,60]],
 .l [.o 0,.o 1,.o 2,.o 3,.o 4,.o 5,.kp [4,5]],
 .l [.o 0,.o 1,.o 2,.o 3,.o 4,.o 5,.o 6,.o 7,.o 8,.o 9,.kp [3,4,5,6,8,72,73],.o 10,.o 11,.kp [3,4,5,6,7,8]],
 .l [.o 0,.o 1,.o 2,.kp [3,4,5,6,7,8,76]],
 .l [.o 0,.o 1,.o 2,.o 3,.kp [4,5]],
 .l [.o 0,.o 1,.o 2,.o 3,.o 4,.o 5,.o 6,.kp [4,5,6,7]],
 .l [.o 0,.o 1,.o 2,.o 3,.o 4,.kp [4,5]],
 .l [.o 0,.o 1,.kp [3,4,5,6,52,88]],
 .l [.o 0,.o 1,.o 2,.o 3,.o 4,.o 5,.o 6,.kp [4,5]],
 .l [.o 0,.o 1,.kp [3,4,5,6,52,95]],
 .l [.o 0,.o 1,.o 2,.o 3,.o 4,.o 5,.o 6,.o 7,.o 8,.o 9,.kp [3,4,5,6,9,104],.o 10,.kp [3,4,5,6,9,10]],
 .l [.o 0,.o 1,.kp [3,4,5,6,9,106]],
 .l [.o 0,.o 1,.o 2,.o 3,.o 4,.o 5,.o 6,.o 7,.kp [4,5,6,9]],
 .l [.o 0,.o 1,.o 2,.o 3,.o 4,.o 5,.o 6,.kp [4,5,6,9]],
 .l [.o 0,.o 1,.o 2,.o 3,.o 4,.o 5,.o 6,.o 7,.kp [4,5]],
 .l [.o 0,.o 1,.kp [3,4,5,6,52,126]],
 .l [.o 0,.o 1,.o 2,.o 3,.o 4,.o 5,.o 6,.o 7,.o 8,.kp [3,4,5,6]],
 .l [.o 0,.o 1,.o 2,.o 3,.o 4,.o 5,.o 6,.o 7,.o 8,.o 9,.kp [3,4,5,6,143],.o 10,.kp [3,4,5,6,12]],
 .l [.o 0,.o 1,.kp [3,4,5,6,145]],
 .l [.o 0,.o 1,.o 2,.o 3,.o 4,.o 5,.o 6,.o 7,.o 8,.o 9,.kp [4,5,6,147,155],.o 10,.o 11,.o 12,.kp [4,5,6]],
 .l [.o 0,.o 1,.o 2,.o 3,.kp [4,5]],
 .l [.o 0,.o 1,.kp [3,4,5,6,52,160]],
 .l [.o 0,.o 1,.o 2,.o 3,.o 4,.o 5,.o 6,.o 7,.kp [4,5,6]],
 .l [.o 0,.o 1,.o 2,.o 3,.o 4,.o 5,.kp [4,5]],
 .l [.o 0,.o 1,.kp [3,4,5,6,173]],
 .l [.o 0,.o 1,.o 2,.o 3,.o 4,.o 5,.o 6,.o 7,.o 8,.o 9,.kp [4,5,6]],
 .l [.o 0,.o 1,.o 2,.o 3,.o 4,.o 5,.o 6,.o 7,.kp [4,5,6]],
 .l [.o 0,.o 1,.o 2,.o 3,.o 4,.o 5,.kp [4,5]],
 .l [.o 0,.o 1,.o 2,.o 3,.kp [4,5]]] = some (f57c0,[.cell 4 9,.cell 5 11]) := by kernel_rfl
theorem f57ok {args : List Value} {h : Heap} {R : Value → Heap → Prop} (hn : args.length ≤ 197) (H : wC Try.prog f57c0 (endW [.cell 4 9,.cell 5 11] R) (envOf 0 args) h) : CallsH Try.prog 57 args h R :=
 fn_ok2 Try.func57 f57cmp hn H
section
variable {P : Program} {Q : X → Env → Heap → Prop} {σ : Env} {h : Heap}
theorem f57c6_eq : wC P f57c6 Q σ h = (wL P none f57r4 0 (fun σ h => Q .ret σ h) σ h) := rfl
theorem f57c8_eq : wC P f57c8 Q σ h = (wL P none f57r6 0 (fun σ h => Q .ret σ h) σ h) := rfl
theorem f57c7_eq : wC P f57c7 Q σ h = (drwW P f57r5 (fun σ h => wC P f57c8 Q σ h) σ h) := rfl
theorem f57c5_eq : wC P f57c5 Q σ h = (bd (evO σ (.tmp 28)) fun v => bd (asB v) fun t => br t (wC P f57c6 (X.then (fun σ h => wC P f57c7 Q σ h) Q) σ h) (wC P f57c7 Q σ h)) := rfl
theorem f57c4_eq : wC P f57c4 Q σ h = (wL P none f57r3 0 (fun σ h => wC P f57c5 Q σ h) σ h) := rfl
theorem f57c11_eq : wC P f57c11 Q σ h = (wL P none f57r8 0 (fun σ h => Q .ret σ h) σ h) := rfl
theorem f57c18_eq : wC P f57c18 Q σ h = (drwW P f57r12 (fun σ h => Q .ret σ h) σ h) := rfl
theorem f57c22_eq : wC P f57c22 Q σ h = (drwW P f57r15 (fun σ h => Q .ret σ h) σ h) := rfl
theorem f57c24_eq : wC P f57c24 Q σ h = (wL P none f57r17 0 (fun σ h => Q .ret σ h) σ h) := rfl
theorem f57c23_eq : wC P f57c23 Q σ h = (wL P none f57r16 0 (fun σ h => wC P f57c24 Q σ h) σ h) := rfl
theorem f57c21_eq : wC P f57c21 Q σ h = (bd (evO σ (.tmp 76)) fun v => bd (asB v) fun t => br t (wC P f57c22 (X.then (fun σ h => wC P f57c23 Q σ h) Q) σ h) (wC P f57c23 Q σ h)) := rfl
theorem f57c20_eq : wC P f57c20 Q σ h = (wL P none f57r14 0 (fun σ h => wC P f57c21 Q σ h) σ h) := rfl
theorem f57c19_eq : wC P f57c19 Q σ h = (wL P none f57r13 0 (fun σ h => wC P f57c20 Q σ h) σ h) := rfl
theorem f57c17_eq : wC P f57c17 Q σ h = (bd (evO σ (.tmp 60)) fun v => bd (asB v) fun t => br t (wC P f57c18 (X.then (fun σ h => wC P f57c19 Q σ h) Q) σ h) (wC P f57c19 Q σ h)) := rfl
theorem f57c16_eq : wC P f57c16 Q σ h = (wL P none f57r11 0 (fun σ h => wC P f57c17 Q σ h) σ h) := rfl
theorem f57c27_eq : wC P f57c27 Q σ h = (wL P none f57r19 0 (fun σ h => Q .ret σ h) σ h) := rfl
theorem f57c34_eq : wC P f57c34 Q σ h = (wL P none f57r24 0 (fun σ h => Q .normal σ h) σ h) := rfl
theorem f57c33_eq : wC P f57c33 Q σ h = (wL P none f57r23 0 (fun σ h => wC P f57c34 Q σ h) σ h) := rfl
theorem f57c35_eq : wC P f57c35 Q σ h = (drwW P f57r25 (fun σ h => Q .ret σ h) σ h) := rfl
theorem f57c32_eq : wC P f57c32 Q σ h = (bd (evO σ (.tmp 106)) fun v => bd (asB v) fun t => br t (wC P f57c33 (X.then (fun σ h => wC P f57c35 Q σ h) Q) σ h) (wC P f57c35 Q σ h)) := rfl
theorem f57c31_eq : wC P f57c31 Q σ h = (wL P none f57r22 0 (fun σ h => wC P f57c32 Q σ h) σ h) := rfl
theorem f57c30_eq : wC P f57c30 Q σ h = (wL P none f57r21 0 (fun σ h => wC P f57c31 Q σ h) σ h) := rfl
theorem f57c42_eq : wC P f57c42 Q σ h = (wL P none f57r30 0 (fun σ h => Q .normal σ h) σ h) := rfl
theorem f57c43_eq : wC P f57c43 Q σ h = (wL P none f57r31 0 (fun σ h => Q .ret σ h) σ h) := rfl
theorem f57c41_eq : wC P f57c41 Q σ h = (bd (evO σ (.tmp 145)) fun v => bd (asB v) fun t => br t (wC P f57c42 (X.then (fun σ h => wC P f57c43 Q σ h) Q) σ h) (wC P f57c43 Q σ h)) := rfl
theorem f57c40_eq : wC P f57c40 Q σ h = (wL P none f57r29 0 (fun σ h => wC P f57c41 Q σ h) σ h) := rfl
theorem f57c39_eq : wC P f57c39 Q σ h = (wL P none f57r28 0 (fun σ h => wC P f57c40 Q σ h) σ h) := rfl
theorem f57c38_eq : wC P f57c38 Q σ h = (wL P none f57r27 0 (fun σ h => wC P f57c39 Q σ h) σ h) := rfl
theorem f57c47_eq : wC P f57c47 Q σ h = (drwW P f57r34 (fun σ h => Q .ret σ h) σ h) := rfl
theorem f57c46_eq : wC P f57c46 Q σ h = (wL P none f57r33 0 (fun σ h => wC P f57c47 Q σ h) σ h) := rfl
theorem f57c52_eq : wC P f57c52 Q σ h = (drwW P f57r38 (fun σ h => Q .ret σ h) σ h) := rfl
theorem f57c51_eq : wC P f57c51 Q σ h = (wL P none f57r37 0 (fun σ h => wC P f57c52 Q σ h) σ h) := rfl
theorem f57c50_eq : wC P f57c50 Q σ h = (wL P none f57r36 0 (fun σ h => wC P f57c51 Q σ h) σ h) := rfl
theorem f57c49_eq : wC P f57c49 Q σ h = (bd (evO σ (.tmp 173)) fun v => bd (asB v) fun t => br t (wC P f57c50 Q σ h) (Q .normal σ h)) := rfl
theorem f57c48_eq : wC P f57c48 Q σ h = (wL P none f57r35 0 (fun σ h => wC P f57c49 Q σ h) σ h) := rfl
theorem f57c45_eq : wC P f57c45 Q σ h = (bd (evO σ (.tmp 160)) fun v => bd (asB v) fun t => br t (wC P f57c46 Q σ h) (wC P f57c48 Q σ h)) := rfl
theorem f57c44_eq : wC P f57c44 Q σ h = (wL P none f57r32 0 (fun σ h => wC P f57c45 Q σ h) σ h) := rfl
theorem f57c37_eq : wC P f57c37 Q σ h = (bd (evO σ (.tmp 126)) fun v => bd (asB v) fun t => br t (wC P f57c38 Q σ h) (wC P f57c44 Q σ h)) := rfl
theorem f57c36_eq : wC P f57c36 Q σ h = (wL P none f57r26 0 (fun σ h => wC P f57c37 Q σ h) σ h) := rfl
theorem f57c29_eq : wC P f57c29 Q σ h = (bd (evO σ (.tmp 95)) fun v => bd (asB v) fun t => br t (wC P f57c30 Q σ h) (wC P f57c36 Q σ h)) := rfl
theorem f57c28_eq : wC P f57c28 Q σ h = (wL P none f57r20 0 (fun σ h => wC P f57c29 Q σ h) σ h) := rfl
theorem f57c26_eq : wC P f57c26 Q σ h = (bd (evO σ (.tmp 88)) fun v => bd (asB v) fun t => br t (wC P f57c27 Q σ h) (wC P f57c28 Q σ h)) := rfl
theorem f57c25_eq : wC P f57c25 Q σ h = (wL P none f57r18 0 (fun σ h => wC P f57c26 Q σ h) σ h) := rfl
theorem f57c15_eq : wC P f57c15 Q σ h = (bd (evO σ (.tmp 53)) fun v => bd (asB v) fun t => br t (wC P f57c16 Q σ h) (wC P f57c25 Q σ h)) := rfl
theorem f57c14_eq : wC P f57c14 Q σ h = (wL P none f57r10 0 (fun σ h => wC P f57c15 Q σ h) σ h) := rfl
theorem f57c53_eq : wC P f57c53 Q σ h = (wL P none f57r39 0 (fun σ h => Q .ret σ h) σ h) := rfl
theorem f57c13_eq : wC P f57c13 Q σ h = (wC P f57c14 (X.inBlock 0 (X.then (fun σ h => wC P f57c53 Q σ h) Q)) σ h) := rfl
theorem f57c12_eq : wC P f57c12 Q σ h = (wL P none f57r9 0 (fun σ h => wC P f57c13 Q σ h) σ h) := rfl
theorem f57c10_eq : wC P f57c10 Q σ h = (bd (evO σ (.tmp 48)) fun v => bd (asB v) fun t => br t (wC P f57c11 (X.then (fun σ h => wC P f57c12 Q σ h) Q) σ h) (wC P f57c12 Q σ h)) := rfl
theorem f57c9_eq : wC P f57c9 Q σ h = (wL P none f57r7 0 (fun σ h => wC P f57c10 Q σ h) σ h) := rfl
theorem f57c3_eq : wC P f57c3 Q σ h = (bd (evO σ (.tmp 17)) fun v => bd (asB v) fun t => br t (wC P f57c4 (X.then (fun σ h => wC P f57c9 Q σ h) Q) σ h) (wC P f57c9 Q σ h)) := rfl
theorem f57c2_eq : wC P f57c2 Q σ h = (wL P none f57r2 0 (fun σ h => wC P f57c3 Q σ h) σ h) := rfl
theorem f57c1_eq : wC P f57c1 Q σ h = (wL P none f57r1 0 (fun σ h => wC P f57c2 Q σ h) σ h) := rfl
theorem f57c0_eq : wC P f57c0 Q σ h = (wL P none f57r0 0 (fun σ h => wC P f57c1 Q σ h) σ h) := rfl
end
def f58r0 : List I := [.op (.box 2 116 (.tmp 0)),
 .op (.box 3 116 (.tmp 1)),
 .op (.mov 4 (.const (.bool false))),
 .kp [2,3]]
def f58r1d : List I := [.op (.mov 38 (.tmp 37)),
 .sc 38 false 6,
 .g 38 false (.fad 39 6 (.tmp 2)),
 .g 38 false (.ld 40 none (.tmp 39)),
 .g 38 false (.fad 41 6 (.tmp 3)),
 .g 38 false (.ld 42 none (.tmp 41)),
 .g 38 false (.call (some 43) 43 [(.tmp 40),(.tmp 42)]),
 .g 38 false (.un 44 .not (.tmp 43)),
 .op (.pick 45 (.tmp 38) (.const (.bool true)) (.tmp 44)),
 .kp [45,2,3]]
def f58r1c : List I := .op (.mov 31 (.tmp 30)) ::
 .sc 31 false 5 ::
 .g 31 false (.fad 32 5 (.tmp 2)) ::
 .g 31 false (.ld 33 none (.tmp 32)) ::
 .g 31 false (.fad 34 5 (.tmp 3)) ::
 .g 31 false (.ld 35 none (.tmp 34)) ::
 .g 31 false (.bin 36 .neq (.tmp 33) (.tmp 35)) ::
 .op (.pick 37 (.tmp 31) (.const (.bool true)) (.tmp 36)) ::
 .kp [37,2,3] ::
 f58r1d
def f58r1b : List I := .op (.mov 24 (.tmp 23)) ::
 .sc 24 false 5 ::
 .g 24 false (.fad 25 4 (.tmp 2)) ::
 .g 24 false (.ld 26 none (.tmp 25)) ::
 .g 24 false (.fad 27 4 (.tmp 3)) ::
 .g 24 false (.ld 28 none (.tmp 27)) ::
 .g 24 false (.bin 29 .neq (.tmp 26) (.tmp 28)) ::
 .op (.pick 30 (.tmp 24) (.const (.bool true)) (.tmp 29)) ::
 .kp [30,2,3] ::
 f58r1c
def f58r1a : List I := .op (.mov 17 (.tmp 16)) ::
 .sc 17 false 5 ::
 .g 17 false (.fad 18 2 (.tmp 2)) ::
 .g 17 false (.ld 19 (some 2) (.tmp 18)) ::
 .g 17 false (.fad 20 2 (.tmp 3)) ::
 .g 17 false (.ld 21 (some 2) (.tmp 20)) ::
 .g 17 false (.eqa 22 true [.i .i64,.i .i64] (.tmp 19) (.tmp 21)) ::
 .op (.pick 23 (.tmp 17) (.const (.bool true)) (.tmp 22)) ::
 .kp [23,2,3] ::
 f58r1b
def f58r1 : List I := .op (.fad 5 0 (.tmp 2)) ::
 .op (.ld 6 none (.tmp 5)) ::
 .op (.fad 7 0 (.tmp 3)) ::
 .op (.ld 8 none (.tmp 7)) ::
 .op (.bin 9 .neq (.tmp 6) (.tmp 8)) ::
 .op (.mov 10 (.tmp 9)) ::
 .sc 10 false 5 ::
 .g 10 false (.fad 11 1 (.tmp 2)) ::
 .g 10 false (.ld 12 none (.tmp 11)) ::
 .g 10 false (.fad 13 1 (.tmp 3)) ::
 .g 10 false (.ld 14 none (.tmp 13)) ::
 .g 10 false (.bin 15 .neq (.tmp 12) (.tmp 14)) ::
 .op (.pick 16 (.tmp 10) (.const (.bool true)) (.tmp 15)) ::
 .kp [16,2,3] ::
 f58r1a
def f58r2 : List I := [.op (.mov 4 (.const (.bool false))),
 .kp [4]]
def f58r3a : List I := [.op (.mov 4 (.tmp 57)),
 .kp [4]]
def f58r3 : List I := .op (.fad 46 7 (.tmp 2)) ::
 .op (.ld 47 none (.tmp 46)) ::
 .op (.fad 48 7 (.tmp 3)) ::
 .op (.ld 49 none (.tmp 48)) ::
 .op (.call (some 50) 101 [(.tmp 47),(.tmp 49)]) ::
 .op (.mov 51 (.tmp 50)) ::
 .sc 51 true 5 ::
 .g 51 true (.fad 52 8 (.tmp 2)) ::
 .g 51 true (.ld 53 none (.tmp 52)) ::
 .g 51 true (.fad 54 8 (.tmp 3)) ::
 .g 51 true (.ld 55 none (.tmp 54)) ::
 .g 51 true (.call (some 56) 101 [(.tmp 53),(.tmp 55)]) ::
 .op (.pick 57 (.tmp 51) (.tmp 56) (.const (.bool false))) ::
 .kp [57] ::
 f58r3a
def f58c3 : C := (.seq (.reg f58r2) .ret)
def f58c4 : C := (.seq (.reg f58r3) .ret)
def f58c2 : C := (.seq (.cond (.tmp 45) f58c3 .skip) f58c4)
def f58c1 : C := (.seq (.reg f58r1) f58c2)
def f58c0 : C := (.seq (.reg f58r0) f58c1)
theorem f58cmp : cmpF Try.prog Try.f58 [.l [.o 0,.o 1,.o 2,.kp [2,3]],
 .l [.o 0,.o 1,.o 2,.o 3,.o 4,.o 5,.sc 10 false 5,.o 6,.o 7,.o 8,.o 9,.o 10,.o 11,.kp [16,2,3],.o 12,.sc 17 false 5,.o 13,.o 14,.o 15,.o 16,.o 17,.o 18,.kp [23,2,3],.o 19,.sc 24 false 5,.o 20,.o 21,.o 22,.o 23,.o 24,.o 25,.kp [30,2,3],.o 26,.sc 31 false 5,.o 27,.o 28,.o 29,.o 30,.o 31,.o 32,.kp [37,2,3],.o 33,.sc 38 false 6,.o 34,.o 35,.o 36,.o 37,.o 38,.o 39,.o 40,.kp [45,2,3]],
 .l [.o 0,.kp [4]],
 .l [.o 0,.o 1,.o 2,.o 3,.o 4,.o 5,.sc 51 true 5,.o 6,.o 7,.o 8,.o 9,.o 10,.o 11,.kp [57],.o 12,.kp [4]]] = some (f58c0,[.tmp 4]) := by kernel_rfl
theorem f58ok {args : List Value} {h : Heap} {R : Value → Heap → Prop} (hn : args.length ≤ 58) (H : wC Try.prog f58c0 (endW [.tmp 4] R) (envOf 0 args) h) : CallsH Try.prog 58 args h R :=
 fn_ok2 Try.func58 f58cmp hn H
section
variable {P : Program} {Q : X → Env → Heap → Prop} {σ : Env} {h : Heap}
theorem f58c4_eq : wC P f58c4 Q σ h = (wL P none f58r3 0 (fun σ h => Q .ret σ h) σ h) := rfl
theorem f58c2_eq : wC P f58c2 Q σ h = (bd (evO σ (.tmp 45)) fun v => bd (asB v) fun t => br t (wC P f58c3 (X.then (fun σ h => wC P f58c4 Q σ h) Q) σ h) (wC P f58c4 Q σ h)) := rfl
theorem f58c1_eq : wC P f58c1 Q σ h = (wL P none f58r1 0 (fun σ h => wC P f58c2 Q σ h) σ h) := rfl
theorem f58c0_eq : wC P f58c0 Q σ h = (wL P none f58r0 0 (fun σ h => wC P f58c1 Q σ h) σ h) := rfl
end
def f59r0 : List I := [.op (.box 2 47 (.tmp 0)),
 .op (.box 3 47 (.tmp 1)),
 .op (.mov 4 (.const (.bool false))),
 .kp [2,3]]
def f59r1e : List I := [.op (.mov 46 (.tmp 45)),
 .sc 46 false 7,
 .g 46 false (.fad 47 1 (.tmp 2)),
 .g 46 false (.ld 48 none (.tmp 47)),
 .g 46 false (.len 49 true (.tmp 48)),
 .g 46 false (.fad 50 1 (.tmp 3)),
 .g 46 false (.ld 51 none (.tmp 50)),
 .g 46 false (.len 52 true (.tmp 51)),
 .g 46 false (.bin 53 .neq (.tmp 49) (.tmp 52)),
 .op (.pick 54 (.tmp 46) (.const (.bool true)) (.tmp 53)),
 .kp [54,2,3]]
def f59r1d : List I := .op (.mov 39 (.tmp 38)) ::
 .sc 39 false 5 ::
 .g 39 false (.fad 40 10 (.tmp 2)) ::
 .g 39 false (.ld 41 none (.tmp 40)) ::
 .g 39 false (.fad 42 10 (.tmp 3)) ::
 .g 39 false (.ld 43 none (.tmp 42)) ::
 .g 39 false (.eqb 44 true (.tmp 41) (.tmp 43)) ::
 .op (.pick 45 (.tmp 39) (.const (.bool true)) (.tmp 44)) ::
 .kp [45,2,3] ::
 f59r1e
def f59r1c : List I := .op (.mov 32 (.tmp 31)) ::
 .sc 32 false 5 ::
 .g 32 false (.fad 33 9 (.tmp 2)) ::
 .g 32 false (.ld 34 none (.tmp 33)) ::
 .g 32 false (.fad 35 9 (.tmp 3)) ::
 .g 32 false (.ld 36 none (.tmp 35)) ::
 .g 32 false (.bin 37 .neq (.tmp 34) (.tmp 36)) ::
 .op (.pick 38 (.tmp 32) (.const (.bool true)) (.tmp 37)) ::
 .kp [38,2,3] ::
 f59r1d
def f59r1b : List I := .op (.mov 25 (.tmp 24)) ::
 .sc 25 false 5 ::
 .g 25 false (.fad 26 7 (.tmp 2)) ::
 .g 25 false (.ld 27 (some 2) (.tmp 26)) ::
 .g 25 false (.fad 28 7 (.tmp 3)) ::
 .g 25 false (.ld 29 (some 2) (.tmp 28)) ::
 .g 25 false (.eqa 30 true [.i .i64,.i .i64] (.tmp 27) (.tmp 29)) ::
 .op (.pick 31 (.tmp 25) (.const (.bool true)) (.tmp 30)) ::
 .kp [31,2,3] ::
 f59r1c
def f59r1a : List I := .op (.mov 18 (.tmp 17)) ::
 .sc 18 false 5 ::
 .g 18 false (.fad 19 6 (.tmp 2)) ::
 .g 18 false (.ld 20 none (.tmp 19)) ::
 .g 18 false (.fad 21 6 (.tmp 3)) ::
 .g 18 false (.ld 22 none (.tmp 21)) ::
 .g 18 false (.bin 23 .neq (.tmp 20) (.tmp 22)) ::
 .op (.pick 24 (.tmp 18) (.const (.bool true)) (.tmp 23)) ::
 .kp [24,2,3] ::
 f59r1b
def f59r1 : List I := .op (.fad 6 0 (.tmp 2)) ::
 .op (.ld 7 none (.tmp 6)) ::
 .op (.fad 8 0 (.tmp 3)) ::
 .op (.ld 9 none (.tmp 8)) ::
 .op (.bin 10 .neq (.tmp 7) (.tmp 9)) ::
 .op (.mov 11 (.tmp 10)) ::
 .sc 11 false 5 ::
 .g 11 false (.fad 12 2 (.tmp 2)) ::
 .g 11 false (.ld 13 (some 4) (.tmp 12)) ::
 .g 11 false (.fad 14 2 (.tmp 3)) ::
 .g 11 false (.ld 15 (some 4) (.tmp 14)) ::
 .g 11 false (.eqa 16 true [.i .i64,.i .i64,.i .i64,.i .i64] (.tmp 13) (.tmp 15)) ::
 .op (.pick 17 (.tmp 11) (.const (.bool true)) (.tmp 16)) ::
 .kp [17,2,3] ::
 f59r1a
def f59r2 : List I := [.op (.mov 4 (.const (.bool false))),
 .kp [4]]
def f59r3 : List I := [.op (.mov 5 (.const (.int .i64 0))),
 .kp [2,3,5]]
def f59r4 : List I := [.op (.mov 55 (.tmp 5)),
 .op (.fad 56 1 (.tmp 2)),
 .op (.ld 57 none (.tmp 56)),
 .op (.len 58 true (.tmp 57)),
 .op (.bin 59 .lss (.tmp 55) (.tmp 58)),
 .kp [2,3,5,59]]
def f59r5 : List I := [.op (.fad 62 1 (.tmp 2)),
 .op (.ld 63 none (.tmp 62)),
 .op (.mov 64 (.tmp 5)),
 .op (.iad 65 2 (.tmp 63) (.tmp 64)),
 .op (.ld 66 (some 2) (.tmp 65)),
 .op (.fad 67 1 (.tmp 3)),
 .op (.ld 68 none (.tmp 67)),
 .op (.mov 69 (.tmp 5)),
 .op (.iad 70 2 (.tmp 68) (.tmp 69)),
 .op (.ld 71 (some 2) (.tmp 70)),
 .kp [2,3,5,66,71],
 .op (.eqa 72 true [.s,.s] (.tmp 66) (.tmp 71)),
 .kp [2,3,5,72]]
def f59r6 : List I := [.op (.mov 4 (.const (.bool false))),
 .kp [4]]
def f59r7 : List I := [.op (.mov 60 (.tmp 5)),
 .op (.bin 61 .add (.tmp 60) (.const (.int .i64 1))),
 .op (.mov 5 (.tmp 61)),
 .kp [2,3,5]]
def f59r8 : List I := [.op (.mov 4 (.const (.bool true))),
 .kp [4]]
def f59c3 : C := (.seq (.reg f59r2) .ret)
def f59c11 : C := (.seq (.reg f59r6) .ret)
def f59c10 : C := (.cond (.tmp 72) f59c11 .skip)
def f59c9 : C := (.seq (.drw f59r5) f59c10)
def f59c12 : C := (.reg f59r7)
def f59c8 : C := (.seq (.block 1 f59c9) f59c12)
def f59c7 : C := (.seq (.cond (.tmp 59) .skip (.exit 0)) f59c8)
def f59c6 : C := (.seq (.reg f59r4) f59c7)
def f59c13 : C := (.seq (.reg f59r8) .ret)
def f59c5 : C := (.seq (.block 0 (.loop f59c6)) f59c13)
def f59c4 : C := (.seq (.reg f59r3) f59c5)
def f59c2 : C := (.seq (.cond (.tmp 54) f59c3 .skip) f59c4)
def f59c1 : C := (.seq (.reg f59r1) f59c2)
def f59c0 : C := (.seq (.reg f59r0) f59c1)
theorem f59cmp : cmpF Try.prog Try.f59 [.l [.o 0,.o 1,.o 2,.kp [2,3]],
 .l [.o 0,.o 1,.o 2,.o 3,.o 4,.o 5,.sc 11 false 5,.o 6,.o 7,.o 8,.o 9,.o 10,.o 11,.kp [17,2,3],.o 12,.sc 18 false 5,.o 13,.o 14,.o 15,.o 16,.o 17,.o 18,.kp [24,2,3],.o 19,.sc 25 false 5,.o 20,.o 21,.o 22,.o 23,.o 24,.o 25,.kp [31,2,3],.o 26,.sc 32 false 5,.o 27,.o 28,.o 29,.o 30,.o 31,.o 32,.kp [38,2,3],.o 33,.sc 39 false 5,.o 34,.o 35,.o 36,.o 37,.o 38,.o 39,.kp [45,2,3],.o 40,.sc 46 false 7,.o 41,.o 42,.o 43,.o 44,.o 45,.o 46,.o 47,.o 48,.kp [54,2,3]],
 .l [.o 0,.kp [4]],
 .l [.o 0,.kp [2,3,5]],
 .l [.o 0,.o 1,.o 2,.o 3,.o 4,.kp [2,3,5,59]],
 .l [.o 0,.o 1,.o 2,.o 3,.o 4,.o 5,.o 6,.o 7,.o 8,.o 9,.kp [2,3,5,66,71],.o 10,.kp [2,3,5,72]],
 .l [.o 0,.kp [4]],
 .l [.o 0,.o 1,.o 2,.kp [2,3,5]],
 .l [.o 0,.kp [4]]] = some (f59c0,[.tmp 4]) := by kernel_rfl
theorem f59ok {args : List Value} {h : Heap} {R : Value → Heap → Prop} (hn : args.length ≤ 73) (H : wC Try.prog f59c0 (endW [.tmp 4] R) (envOf 0 args) h) : CallsH Try.prog 59 args h R :=
 fn_ok2 Try.func59 f59cmp hn H
section
variable {P : Program} {Q : X → Env → Heap → Prop} {σ : Env} {h : Heap}
theorem f59c10_eq : wC P f59c10 Q σ h = (bd (evO σ (.tmp 72)) fun v => bd (asB v) fun t => br t (wC P f59c11 Q σ h) (Q .normal σ h)) := rfl
theorem f59c9_eq : wC P f59c9 Q σ h = (drwW P f59r5 (fun σ h => wC P f59c10 Q σ h) σ h) := rfl
theorem f59c12_eq : wC P f59c12 Q σ h = (wL P none f59r7 0 (fun σ h => Q .normal σ h) σ h) := rfl
theorem f59c8_eq : wC P f59c8 Q σ h = (wC P f59c9 (X.inBlock 1 (X.then (fun σ h => wC P f59c12 Q σ h) Q)) σ h) := rfl
theorem f59c7_eq : wC P f59c7 Q σ h = (bd (evO σ (.tmp 59)) fun v => bd (asB v) fun t => br t (wC P f59c8 Q σ h) (Q (.exit 0) σ h)) := rfl
theorem f59c6_eq : wC P f59c6 Q σ h = (wL P none f59r4 0 (fun σ h => wC P f59c7 Q σ h) σ h) := rfl
theorem f59c13_eq : wC P f59c13 Q σ h = (wL P none f59r8 0 (fun σ h => Q .ret σ h) σ h) := rfl
theorem f59c5_eq : wC P f59c5 Q σ h = (loopW (wC P f59c6) (X.inBlock 0 (X.then (fun σ h => wC P f59c13 Q σ h) Q)) σ h) := rfl
theorem f59c4_eq : wC P f59c4 Q σ h = (wL P none f59r3 0 (fun σ h => wC P f59c5 Q σ h) σ h) := rfl
theorem f59c2_eq : wC P f59c2 Q σ h = (bd (evO σ (.tmp 54)) fun v => bd (asB v) fun t => br t (wC P f59c3 (X.then (fun σ h => wC P f59c4 Q σ h) Q) σ h) (wC P f59c4 Q σ h)) := rfl
theorem f59c1_eq : wC P f59c1 Q σ h = (wL P none f59r1 0 (fun σ h => wC P f59c2 Q σ h) σ h) := rfl
theorem f59c0_eq : wC P f59c0 Q σ h = (wL P none f59r0 0 (fun σ h => wC P f59c1 Q σ h) σ h) := rfl
end
def f61r0 : List I := [.op (.box 1 116 (.tmp 0)),
 .op (.mov 2 (.const (.bool false))),
 .kp [1]]
def f61r1b : List I := [.op (.mov 17 (.tmp 16)),
 .sc 17 false 11,
 .g 17 false (.fad 18 5 (.tmp 1)),
 .g 17 false (.ld 19 none (.tmp 18)),
 .g 17 false (.fad 20 4 (.tmp 1)),
 .g 17 false (.ld 21 none (.tmp 20)),
 .g 17 false (.bin 22 .gtr (.tmp 19) (.tmp 21)),
 .g 17 false (.mov 23 (.tmp 22)),
 .sc 23 true 3,
 .g 23 true (.fad 24 5 (.tmp 1)),
 .g 23 true (.ld 25 none (.tmp 24)),
 .g 23 true (.bin 26 .neq (.tmp 25) (.const (.int .i64 0))),
 .g 17 false (.pick 27 (.tmp 23) (.tmp 26) (.const (.bool false))),
 .op (.pick 28 (.tmp 17) (.const (.bool true)) (.tmp 27)),
 .kp [28,1]]
def f61r1a : List I := .op (.mov 12 (.tmp 11)) ::
 .sc 12 false 3 ::
 .g 12 false (.fad 13 0 (.tmp 1)) ::
 .g 12 false (.ld 14 none (.tmp 13)) ::
 .g 12 false (.bin 15 .gtr (.tmp 14) (.const (.int .i64 1099511627776))) ::
 .op (.pick 16 (.tmp 12) (.const (.bool true)) (.tmp 15)) ::
 .kp [16,1] ::
 f61r1b
def f61r1 : List I := .op (.fad 3 6 (.tmp 1)) ::
 .op (.ld 4 none (.tmp 3)) ::
 .op (.call (some 5) 51 [(.tmp 4)]) ::
 .op (.un 6 .not (.tmp 5)) ::
 .op (.mov 7 (.tmp 6)) ::
 .sc 7 false 3 ::
 .g 7 false (.fad 8 0 (.tmp 1)) ::
 .g 7 false (.ld 9 none (.tmp 8)) ::
 .g 7 false (.bin 10 .lss (.tmp 9) (.const (.int .i64 0))) ::
 .op (.pick 11 (.tmp 7) (.const (.bool true)) (.tmp 10)) ::
 .kp [11,1] ::
 f61r1a
def f61r2 : List I := [.op (.mov 2 (.const (.bool false))),
 .kp [2]]
def f61r3a : List I := [.op (.mov 2 (.tmp 36)),
 .kp [2]]
def f61r3 : List I := .op (.fad 29 7 (.tmp 1)) ::
 .op (.ld 30 none (.tmp 29)) ::
 .op (.call (some 31) 103 [(.tmp 30)]) ::
 .op (.mov 32 (.tmp 31)) ::
 .sc 32 true 3 ::
 .g 32 true (.fad 33 8 (.tmp 1)) ::
 .g 32 true (.ld 34 none (.tmp 33)) ::
 .g 32 true (.call (some 35) 103 [(.tmp 34)]) ::
 .op (.pick 36 (.tmp 32) (.tmp 35) (.const (.bool false))) ::
 .kp [36] ::
 f61r3a
def f61c3 : C := (.seq (.reg f61r2) .ret)
def f61c4 : C := (.seq (.reg f61r3) .ret)
def f61c2 : C := (.seq (.cond (.tmp 28) f61c3 .skip) f61c4)
def f61c1 : C := (.seq (.reg f61r1) f61c2)
def f61c0 : C := (.seq (.reg f61r0) f61c1)
theorem f61cmp : cmpF Try.prog Try.f61 [.l [.o 0,.o 1,.kp [1]],
 .l [.o 0,.o 1,.o 2,.o 3,.o 4,.sc 7 false 3,.o 5,.o 6,.o 7,.o 8,.kp [11,1],.o 9,.sc 12 false 3,.o 10,.o 11,.o 12,.o 13,.kp [16,1],.o 14,.sc 17 false 11,.o 15,.o 16,.o 17,.o 18,.o 19,.o 20,.sc 23 true 3,.o 21,.o 22,.o 23,.o 24,.o 25,.kp [28,1]],
 .l [.o 0,.kp [2]],
 .l [.o 0,.o 1,.o 2,.o 3,.sc 32 true 3,.o 4,.o 5,.o 6,.o 7,.kp [36],.o 8,.kp [2]]] = some (f61c0,[.tmp 2]) := by kernel_rfl
theorem f61ok {args : List Value} {h : Heap} {R : Value → Heap → Prop} (hn : args.length ≤ 37) (H : wC Try.prog f61c0 (endW [.tmp 2] R) (envOf 0 args) h) : CallsH Try.prog 61 args h R :=
 fn_ok2 Try.func61 f61cmp hn H
section
variable {P : Program} {Q : X → Env → Heap → Prop} {σ : Env} {h : Heap}
theorem f61c3_eq : wC P f61c3 Q σ h = (wL P none f61r2 0 (fun σ h => Q .ret σ h) σ h) := rfl
theorem f61c4_eq : wC P f61c4 Q σ h = (wL P none f61r3 0 (fun σ h => Q .ret σ h) σ h) := rfl
theorem f61c2_eq : wC P f61c2 Q σ h = (bd (evO σ (.tmp 28)) fun v => bd (asB v) fun t => br t (wC P f61c3 (X.then (fun σ h => wC P f61c4 Q σ h) Q) σ h) (wC P f61c4 Q σ h)) := rfl
theorem f61c1_eq : wC P f61c1 Q σ h = (wL P none f61r1 0 (fun σ h => wC P f61c2 Q σ h) σ h) := rfl
theorem f61c0_eq : wC P f61c0 Q σ h = (wL P none f61r0 0 (fun σ h => wC P f61c1 Q σ h) σ h) := rfl
end
section
variable {P : Program} {Q : X → Env → Heap → Prop} {σ : Env} {h : Heap}
end
def f64r0 : List I := [.op (.box 3 37 (.tmp 1)),
 .op (.new 4 126 [.int .i64 0,.int .i64 0,.int .i64 0,.int .i64 0,.int .i64 0,.int .i64 0,.bool false]),
 .op (.mov 5 (.const (.bool false))),
 .kp [0,3,4]]
def f64r1 : List I := [.op (.mov 6 (.const (.int .i64 0))),
 .kp [0,3,4,6]]
def f64r2 : List I := [.op (.mov 7 (.tmp 6)),
 .op (.mov 8 (.tmp 0)),
 .op (.len 9 true (.tmp 8)),
 .op (.bin 10 .lss (.tmp 7) (.tmp 9)),
 .kp [0,3,4,6,10]]
def f64r3 : List I := [.op (.mov 13 (.tmp 0)),
 .op (.mov 14 (.tmp 6)),
 .op (.iad 15 7 (.tmp 13) (.tmp 14)),
 .op (.fad 16 0 (.tmp 15)),
 .op (.ld 17 (some 4) (.tmp 16)),
 .op (.ld 18 (some 4) (.tmp 3)),
 .op (.eqa 19 false [.i .i64,.i .i64,.i .i64,.i .i64] (.tmp 17) (.tmp 18)),
 .kp [0,3,4,6,19]]
def f64r4 : List I := [.op (.mov 20 (.tmp 0)),
 .op (.mov 21 (.tmp 6)),
 .op (.iad 22 7 (.tmp 20) (.tmp 21)),
 .op (.ld 23 (some 7) (.tmp 22)),
 .op (.st 7 (.tmp 4) (.tmp 23)),
 .op (.mov 5 (.const (.bool true))),
 .kp [4,5]]
def f64r5 : List I := [.op (.mov 11 (.tmp 6)),
 .op (.bin 12 .add (.tmp 11) (.const (.int .i64 1))),
 .op (.mov 6 (.tmp 12)),
 .kp [0,3,4,6]]
def f64r6 : List I := [.op (.bld 24 [.int .i64 0,.int .i64 0,.int .i64 0,.int .i64 0,.int .i64 0,.int .i64 0,.bool false] []),
 .op (.st 7 (.tmp 4) (.tmp 24)),
 .op (.mov 5 (.const (.bool false))),
 .kp [4,5]]
def f64c8 : C := (.seq (.reg f64r4) .ret)
def f64c7 : C := (.cond (.tmp 19) f64c8 .skip)
def f64c6 : C := (.seq (.drw f64r3) f64c7)
def f64c9 : C := (.reg f64r5)
def f64c5 : C := (.seq (.block 1 f64c6) f64c9)
def f64c4 : C := (.seq (.cond (.tmp 10) .skip (.exit 0)) f64c5)
def f64c3 : C := (.seq (.reg f64r2) f64c4)
def f64c10 : C := (.seq (.reg f64r6) .ret)
def f64c2 : C := (.seq (.block 0 (.loop f64c3)) f64c10)
def f64c1 : C := (.seq (.reg f64r1) f64c2)
def f64c0 : C := (.seq (.reg f64r0) f64c1)
theorem f64cmp : cmpF Try.prog Try.f64 [.l [.o 0,.o 1,.o 2,.kp [0,3,4]],
 .l [.o 0,.kp [0,3,4,6]],
 .l [.o 0,.o 1,.o 2,.o 3,.kp [0,3,4,6,10]],
 .l [.o 0,.o 1,.o 2,.o 3,.o 4,.o 5,.o 6,.kp [0,3,4,6,19]],
 .l [.o 0,.o 1,.o 2,.o 3,.o 4,.o 5,.kp [4,5]],
 .l [.o 0,.o 1,.o 2,.kp [0,3,4,6]],
 .l [.o 0,.o 1,.o 2,.kp [4,5]]] = some (f64c0,[.cell 4 7,.tmp 5]) := by kernel_rfl
theorem f64ok {args : List Value} {h : Heap} {R : Value → Heap → Prop} (hn : args.length ≤ 25) (H : wC Try.prog f64c0 (endW [.cell 4 7,.tmp 5] R) (envOf 0 args) h) : CallsH Try.prog 64 args h R :=
 fn_ok2 Try.func64 f64cmp hn H
section
variable {P : Program} {Q : X → Env → Heap → Prop} {σ : Env} {h : Heap}
theorem f64c8_eq : wC P f64c8 Q σ h = (wL P none f64r4 0 (fun σ h => Q .ret σ h) σ h) := rfl
theorem f64c7_eq : wC P f64c7 Q σ h = (bd (evO σ (.tmp 19)) fun v => bd (asB v) fun t => br t (wC P f64c8 Q σ h) (Q .normal σ h)) := rfl
theorem f64c6_eq : wC P f64c6 Q σ h = (drwW P f64r3 (fun σ h => wC P f64c7 Q σ h) σ h) := rfl
theorem f64c9_eq : wC P f64c9 Q σ h = (wL P none f64r5 0 (fun σ h => Q .normal σ h) σ h) := rfl
theorem f64c5_eq : wC P f64c5 Q σ h = (wC P f64c6 (X.inBlock 1 (X.then (fun σ h => wC P f64c9 Q σ h) Q)) σ h) := rfl
theorem f64c4_eq : wC P f64c4 Q σ h = (bd (evO σ (.tmp 10)) fun v => bd (asB v) fun t => br t (wC P f64c5 Q σ h) (Q (.exit 0) σ h)) := rfl
theorem f64c3_eq : wC P f64c3 Q σ h = (wL P none f64r2 0 (fun σ h => wC P f64c4 Q σ h) σ h) := rfl
theorem f64c10_eq : wC P f64c10 Q σ h = (wL P none f64r6 0 (fun σ h => Q .ret σ h) σ h) := rfl
theorem f64c2_eq : wC P f64c2 Q σ h = (loopW (wC P f64c3) (X.inBlock 0 (X.then (fun σ h => wC P f64c10 Q σ h) Q)) σ h) := rfl
theorem f64c1_eq : wC P f64c1 Q σ h = (wL P none f64r1 0 (fun σ h => wC P f64c2 Q σ h) σ h) := rfl
theorem f64c0_eq : wC P f64c0 Q σ h = (wL P none f64r0 0 (fun σ h => wC P f64c1 Q σ h) σ h) := rfl
end
def f98r0 : List I := [.op (.box 3 116 (.tmp 0)),
 .op (.box 4 39 (.tmp 1)),
 .op (.mov 6 (.const (.slice none 0 0))),
 .op (.new 7 47 [.int .i64 0,.slice none 0 0,.int .i64 0,.int .i64 0,.int .i64 0,.int .i64 0,.int .i64 0,.int .i64 0,.int .i64 0,.int .i64 0,.bool false]),
 .kp [2,3,4,7]]
def f98r1 : List I := [.op (.mov 8 (.const (.slice none 0 0))),
 .kp [2,3,4,7,8]]
def f98r2 : List I := [.op (.mov 9 (.const (.int .i64 0))),
 .kp [2,3,4,7,8,9]]
def f98r3 : List I := [.op (.mov 15 (.tmp 9)),
 .op (.mov 16 (.tmp 2)),
 .op (.len 17 true (.tmp 16)),
 .op (.bin 18 .lss (.tmp 15) (.tmp 17)),
 .kp [2,3,4,7,8,9,18]]
def f98r4 : L := (.one [.op (.fad 22 6 (.tmp 3)),
 .op (.ld 23 none (.tmp 22)),
 .op (.mov 24 (.tmp 2)),
 .op (.mov 25 (.tmp 9)),
 .op (.iad 26 2 (.tmp 24) (.tmp 25)),
 .op (.ld 27 (some 2) (.tmp 26)),
 .op (.ld 28 (some 2) (.tmp 4))] (.alt (.one [.op (.call (some 29) 67 [(.tmp 23),(.tmp 27),(.tmp 28)]),
 .op (.mov 21 (.tmp 29)),
 .op (.ext 30 (.tmp 21) 0),
 .op (.ext 31 (.tmp 21) 1),
 .op (.new 10 72 [.int .i64 0,.int .i64 0,.int .i64 0,.int .i64 0,.int .i64 0,.int .i64 0,.int .i64 0,.bool false,.string ⟨#[]⟩]),
 .op (.st 9 (.tmp 10) (.tmp 30)),
 .op (.mov 11 (.tmp 31)),
 .kp [2,3,4,7,8,9,10,11]] .nil) (.one [.op (.new 10 72 [.int .i64 0,.int .i64 0,.int .i64 0,.int .i64 0,.int .i64 0,.int .i64 0,.int .i64 0,.bool false,.string ⟨#[]⟩]),
 .op (.call (some 29) 67 [(.tmp 23),(.tmp 27),(.tmp 28)]),
 .op (.mov 21 (.tmp 29)),
 .op (.ext 30 (.tmp 21) 0),
 .op (.ext 31 (.tmp 21) 1),
 .op (.st 9 (.tmp 10) (.tmp 30)),
 .op (.mov 11 (.tmp 31)),
 .kp [2,3,4,7,8,9,10,11]] .nil)))
def f98r5 : List I := [.op (.mov 32 (.tmp 11)),
 .kp [2,3,4,7,8,9,10,32]]
def f98r6 : List I := [.op (.ld 33 (some 9) (.tmp 10)),
 .op (.call (some 34) 128 [(.tmp 33)]),
 .op (.mov 6 (.const (.slice none 0 0))),
 .op (.st 11 (.tmp 7) (.tmp 34)),
 .kp [6,7]]
def f98r7 : List I := [.op (.mov 19 (.tmp 9)),
 .op (.bin 20 .add (.tmp 19) (.const (.int .i64 1))),
 .op (.mov 9 (.tmp 20)),
 .kp [2,3,4,7,8,9]]
def f98r8 : List I := [.op (.mov 12 (.const (.int .i64 0))),
 .kp [2,3,4,7,8,12]]
def f98r9 : List I := [.op (.mov 35 (.tmp 12)),
 .op (.mov 36 (.tmp 2)),
 .op (.len 37 true (.tmp 36)),
 .op (.bin 38 .lss (.tmp 35) (.tmp 37)),
 .kp [2,3,4,7,8,12,38]]
def f98r10 : List I := [.op (.fad 42 6 (.tmp 3)),
 .op (.ld 43 none (.tmp 42)),
 .op (.mov 44 (.tmp 2)),
 .op (.mov 45 (.tmp 12)),
 .op (.iad 46 2 (.tmp 44) (.tmp 45)),
 .op (.ld 47 (some 2) (.tmp 46)),
 .op (.ld 48 (some 2) (.tmp 4)),
 .op (.mov 49 (.tmp 8)),
 .op (.len 50 true (.tmp 49)),
 .op (.bin 51 .sub (.const (.int .i64 512)) (.tmp 50)),
 .kp [2,3,4,7,8,12,43,47,48,51],
 .op (.call (some 52) 68 [(.tmp 43),(.tmp 47),(.tmp 48),(.tmp 51)]),
 .op (.mov 41 (.tmp 52)),
 .op (.ext 53 (.tmp 41) 0),
 .op (.ext 54 (.tmp 41) 1),
 .op (.mov 13 (.tmp 53)),
 .op (.mov 14 (.tmp 54)),
 .kp [2,3,4,7,8,12,13,14]]
def f98r11 : List I := [.op (.mov 55 (.tmp 14)),
 .op (.bin 56 .neq (.tmp 55) (.const (.int .i64 0))),
 .kp [2,3,4,7,8,12,13,14,56]]
def f98r12 : List I := [.op (.mov 57 (.tmp 14)),
 .op (.bld 58 [.int .i64 0,.slice none 0 0,.int .i64 0,.int .i64 0,.int .i64 0,.int .i64 0,.int .i64 0,.int .i64 0,.int .i64 0,.int .i64 0,.bool false] [(0,1,(.tmp 57))]),
 .op (.mov 6 (.const (.slice none 0 0))),
 .op (.st 11 (.tmp 7) (.tmp 58)),
 .kp [6,7]]
def f98r13 : List I := [.op (.mov 59 (.tmp 8)),
 .op (.mov 60 (.tmp 13)),
 .op (.raw (some 61) ⟨(some 61), (.call ⟨(.builtin .append), #[(.tmp 59), (.tmp 60)], #[45, 45]⟩), 45, "ref.go:63", #[⟨0, .data⟩, ⟨1, .data⟩], none⟩),
 .op (.mov 8 (.tmp 61)),
 .kp [2,3,4,7,8,12]]
def f98r14 : List I := [.op (.mov 39 (.tmp 12)),
 .op (.bin 40 .add (.tmp 39) (.const (.int .i64 1))),
 .op (.mov 12 (.tmp 40)),
 .kp [2,3,4,7,8,12]]
def f98r15 : List I := [.op (.mov 62 (.tmp 8)),
 .op (.bld 63 [.int .i64 0,.slice none 0 0,.int .i64 0,.int .i64 0,.int .i64 0,.int .i64 0,.int .i64 0,.int .i64 0,.int .i64 0,.int .i64 0,.bool false] []),
 .op (.mov 6 (.tmp 62)),
 .op (.st 11 (.tmp 7) (.tmp 63)),
 .kp [6,7]]
def f98c10 : C := (.seq (.reg f98r6) .ret)
def f98c9 : C := (.cond (.tmp 32) f98c10 .skip)
def f98c8 : C := (.seq (.reg f98r5) f98c9)
def f98c7 : C := (.seq (.drt f98r4) f98c8)
def f98c11 : C := (.reg f98r7)
def f98c6 : C := (.seq (.block 1 f98c7) f98c11)
def f98c5 : C := (.seq (.cond (.tmp 18) .skip (.exit 0)) f98c6)
def f98c4 : C := (.seq (.reg f98r3) f98c5)
def f98c20 : C := (.seq (.reg f98r12) .ret)
def f98c21 : C := (.reg f98r13)
def f98c19 : C := (.seq (.cond (.tmp 56) f98c20 .skip) f98c21)
def f98c18 : C := (.seq (.reg f98r11) f98c19)
def f98c17 : C := (.seq (.drw f98r10) f98c18)
def f98c22 : C := (.reg f98r14)
def f98c16 : C := (.seq (.block 3 f98c17) f98c22)
def f98c15 : C := (.seq (.cond (.tmp 38) .skip (.exit 2)) f98c16)
def f98c14 : C := (.seq (.reg f98r9) f98c15)
def f98c23 : C := (.seq (.reg f98r15) .ret)
def f98c13 : C := (.seq (.block 2 (.loop f98c14)) f98c23)
def f98c12 : C := (.seq (.reg f98r8) f98c13)
def f98c3 : C := (.seq (.block 0 (.loop f98c4)) f98c12)
def f98c2 : C := (.seq (.reg f98r2) f98c3)
def f98c1 : C := (.seq (.reg f98r1) f98c2)
def f98c0 : C := (.seq (.reg f98r0) f98c1)
theorem f98cmp : cmpF Try.prog Try.f98 [.l [.o 0,.o 1,.o 2,.o 3,.kp [2,3,4,7]],
 .l [.o 0,.kp [2,3,4,7,8]],
 .l [.o 0,.kp [2,3,4,7,8,9]],
 .l [.o 0,.o 1,.o 2,.o 3,.kp [2,3,4,7,8,9,18]],
 .t (.one [.o 0,.o 1,.o 2,.o 3,.o 4,.o 5,.o 6] (.alt (.one [.o 7,.o 8,.o 9,.o 10,.o 11,.o 12,.o 13,.kp [2,3,4,7,8,9,10,11]] .nil) (.one [.o 11,.o 7,.o 8,.o 9,.o 10,.o 12,.o 13,.kp [2,3,4,7,8,9,10,11]] .nil))),
 .l [.o 0,.kp [2,3,4,7,8,9,10,32]],
 .l [.o 0,.o 1,.o 2,.o 3,.kp [6,7]],
 .l [.o 0,.o 1,.o 2,.kp [2,3,4,7,8,9]],
 .l [.o 0,.kp [2,3,4,7,8,12]],
 .l [.o 0,.o 1,.o 2,.o 3,.kp [2,3,4,7,8,12,38]],
 .l [.o 0,.o 1,.o 2,.o 3,.o 4,.o 5,.o 6,.o 7,.o 8,.o 9,.kp [2,3,4,7,8,12,43,47,48,51],.o 10,.o 11,.o 12,.o 13,.o 14,.o 15,.kp [2,3,4,7,8,12,13,14]],
 .l [.o 0,.o 1,.kp [2,3,4,7,8,12,13,14,56]],
 .l [.o 0,.o 1,.o 2,.o 3,.kp [6,7]],
 .l [.o 0,.o 1,.o 2,.o 3,.kp [2,3,4,7,8,12]],
 .l [.o 0,.o 1,.o 2,.kp [2,3,4,7,8,12]],
 .l [.o 0,.o 1,.o 2,.o 3,.kp [6,7]]] = some (f98c0,[.tmp 6,.cell 7 11]) := by kernel_rfl
theorem f98ok {args : List Value} {h : Heap} {R : Value → Heap → Prop} (hn : args.length ≤ 64) (H : wC Try.prog f98c0 (endW [.tmp 6,.cell 7 11] R) (envOf 0 args) h) : CallsH Try.prog 98 args h R :=
 fn_ok2 Try.func98 f98cmp hn H
section
variable {P : Program} {Q : X → Env → Heap → Prop} {σ : Env} {h : Heap}
theorem f98c10_eq : wC P f98c10 Q σ h = (wL P none f98r6 0 (fun σ h => Q .ret σ h) σ h) := rfl
theorem f98c9_eq : wC P f98c9 Q σ h = (bd (evO σ (.tmp 32)) fun v => bd (asB v) fun t => br t (wC P f98c10 Q σ h) (Q .normal σ h)) := rfl
theorem f98c8_eq : wC P f98c8 Q σ h = (wL P none f98r5 0 (fun σ h => wC P f98c9 Q σ h) σ h) := rfl
theorem f98c7_eq : wC P f98c7 Q σ h = (drtW P f98r4 (fun σ h => wC P f98c8 Q σ h) σ h) := rfl
theorem f98c11_eq : wC P f98c11 Q σ h = (wL P none f98r7 0 (fun σ h => Q .normal σ h) σ h) := rfl
theorem f98c6_eq : wC P f98c6 Q σ h = (wC P f98c7 (X.inBlock 1 (X.then (fun σ h => wC P f98c11 Q σ h) Q)) σ h) := rfl
theorem f98c5_eq : wC P f98c5 Q σ h = (bd (evO σ (.tmp 18)) fun v => bd (asB v) fun t => br t (wC P f98c6 Q σ h) (Q (.exit 0) σ h)) := rfl
theorem f98c4_eq : wC P f98c4 Q σ h = (wL P none f98r3 0 (fun σ h => wC P f98c5 Q σ h) σ h) := rfl
theorem f98c20_eq : wC P f98c20 Q σ h = (wL P none f98r12 0 (fun σ h => Q .ret σ h) σ h) := rfl
theorem f98c21_eq : wC P f98c21 Q σ h = (wL P none f98r13 0 (fun σ h => Q .normal σ h) σ h) := rfl
theorem f98c19_eq : wC P f98c19 Q σ h = (bd (evO σ (.tmp 56)) fun v => bd (asB v) fun t => br t (wC P f98c20 (X.then (fun σ h => wC P f98c21 Q σ h) Q) σ h) (wC P f98c21 Q σ h)) := rfl
theorem f98c18_eq : wC P f98c18 Q σ h = (wL P none f98r11 0 (fun σ h => wC P f98c19 Q σ h) σ h) := rfl
theorem f98c17_eq : wC P f98c17 Q σ h = (drwW P f98r10 (fun σ h => wC P f98c18 Q σ h) σ h) := rfl
theorem f98c22_eq : wC P f98c22 Q σ h = (wL P none f98r14 0 (fun σ h => Q .normal σ h) σ h) := rfl
theorem f98c16_eq : wC P f98c16 Q σ h = (wC P f98c17 (X.inBlock 3 (X.then (fun σ h => wC P f98c22 Q σ h) Q)) σ h) := rfl
theorem f98c15_eq : wC P f98c15 Q σ h = (bd (evO σ (.tmp 38)) fun v => bd (asB v) fun t => br t (wC P f98c16 Q σ h) (Q (.exit 2) σ h)) := rfl
theorem f98c14_eq : wC P f98c14 Q σ h = (wL P none f98r9 0 (fun σ h => wC P f98c15 Q σ h) σ h) := rfl
theorem f98c23_eq : wC P f98c23 Q σ h = (wL P none f98r15 0 (fun σ h => Q .ret σ h) σ h) := rfl
theorem f98c13_eq : wC P f98c13 Q σ h = (loopW (wC P f98c14) (X.inBlock 2 (X.then (fun σ h => wC P f98c23 Q σ h) Q)) σ h) := rfl
theorem f98c12_eq : wC P f98c12 Q σ h = (wL P none f98r8 0 (fun σ h => wC P f98c13 Q σ h) σ h) := rfl
theorem f98c3_eq : wC P f98c3 Q σ h = (loopW (wC P f98c4) (X.inBlock 0 (X.then (fun σ h => wC P f98c12 Q σ h) Q)) σ h) := rfl
theorem f98c2_eq : wC P f98c2 Q σ h = (wL P none f98r2 0 (fun σ h => wC P f98c3 Q σ h) σ h) := rfl
theorem f98c1_eq : wC P f98c1 Q σ h = (wL P none f98r1 0 (fun σ h => wC P f98c2 Q σ h) σ h) := rfl
theorem f98c0_eq : wC P f98c0 Q σ h = (wL P none f98r0 0 (fun σ h => wC P f98c1 Q σ h) σ h) := rfl
end
def f99r0 : List I := [.op (.box 2 39 (.tmp 0)),
 .op (.box 3 39 (.tmp 1)),
 .op (.new 4 39 [.int .i64 0,.int .i64 0]),
 .kp [2,3,4]]
def f99r1 : List I := [.op (.ld 5 (some 2) (.tmp 2)),
 .op (.ld 6 (some 2) (.tmp 3)),
 .op (.call (some 7) 42 [(.tmp 5),(.tmp 6)]),
 .kp [2,3,4,7]]
def f99r2 : List I := [.op (.ld 8 (some 2) (.tmp 3)),
 .op (.st 2 (.tmp 4) (.tmp 8)),
 .kp [4]]
def f99r3 : List I := [.op (.ld 9 (some 2) (.tmp 2)),
 .op (.st 2 (.tmp 4) (.tmp 9)),
 .kp [4]]
def f99c3 : C := (.seq (.reg f99r2) .ret)
def f99c4 : C := (.seq (.reg f99r3) .ret)
def f99c2 : C := (.seq (.cond (.tmp 7) f99c3 .skip) f99c4)
def f99c1 : C := (.seq (.reg f99r1) f99c2)
def f99c0 : C := (.seq (.reg f99r0) f99c1)
theorem f99cmp : cmpF Try.prog Try.f99 [.l [.o 0,.o 1,.o 2,.kp [2,3,4]],
 .l [.o 0,.o 1,.o 2,.kp [2,3,4,7]],
 .l [.o 0,.o 1,.kp [4]],
 .l [.o 0,.o 1,.kp [4]]] = some (f99c0,[.cell 4 2]) := by kernel_rfl
theorem f99ok {args : List Value} {h : Heap} {R : Value → Heap → Prop} (hn : args.length ≤ 10) (H : wC Try.prog f99c0 (endW [.cell 4 2] R) (envOf 0 args) h) : CallsH Try.prog 99 args h R :=
 fn_ok2 Try.func99 f99cmp hn H
section
variable {P : Program} {Q : X → Env → Heap → Prop} {σ : Env} {h : Heap}
theorem f99c3_eq : wC P f99c3 Q σ h = (wL P none f99r2 0 (fun σ h => Q .ret σ h) σ h) := rfl
theorem f99c4_eq : wC P f99c4 Q σ h = (wL P none f99r3 0 (fun σ h => Q .ret σ h) σ h) := rfl
theorem f99c2_eq : wC P f99c2 Q σ h = (bd (evO σ (.tmp 7)) fun v => bd (asB v) fun t => br t (wC P f99c3 (X.then (fun σ h => wC P f99c4 Q σ h) Q) σ h) (wC P f99c4 Q σ h)) := rfl
theorem f99c1_eq : wC P f99c1 Q σ h = (wL P none f99r1 0 (fun σ h => wC P f99c2 Q σ h) σ h) := rfl
theorem f99c0_eq : wC P f99c0 Q σ h = (wL P none f99r0 0 (fun σ h => wC P f99c1 Q σ h) σ h) := rfl
end
def f100r0 : List I := [.op (.box 2 116 (.tmp 0)),
 .op (.box 3 43 (.tmp 1)),
 .op (.new 4 116 [.int .i64 0,.int .i64 0,.int .i64 0,.int .i64 0,.int .i64 0,.int .i64 0,.slice none 0 0,.slice none 0 0,.slice none 0 0]),
 .op (.new 5 47 [.int .i64 0,.slice none 0 0,.int .i64 0,.int .i64 0,.int .i64 0,.int .i64 0,.int .i64 0,.int .i64 0,.int .i64 0,.int .i64 0,.bool false]),
 .kp [2,3,4,5]]
def f100r1 : List I := [.op (.fad 13 8 (.tmp 2)),
 .op (.ld 14 none (.tmp 13)),
 .op (.fad 15 4 (.tmp 3)),
 .op (.ld 16 (some 4) (.tmp 15)),
 .op (.call (some 17) 64 [(.tmp 14),(.tmp 16)]),
 .op (.mov 12 (.tmp 17)),
 .op (.ext 18 (.tmp 12) 0),
 .op (.ext 19 (.tmp 12) 1),
 .op (.new 6 126 [.int .i64 0,.int .i64 0,.int .i64 0,.int .i64 0,.int .i64 0,.int .i64 0,.bool false]),
 .op (.st 7 (.tmp 6) (.tmp 18)),
 .kp [2,3,4,5,6,19],
 .op (.mov 7 (.tmp 19)),
 .kp [2,3,4,5,6,7]]
def f100r2 : List I := [.op (.mov 20 (.tmp 7)),
 .kp [2,3,4,5,6,20]]
def f100r3 : List I := [.op (.ld 21 (some 9) (.tmp 2)),
 .op (.fad 22 6 (.tmp 6)),
 .op (.ld 23 none (.tmp 22)),
 .op (.bld 24 [.int .i64 0,.slice none 0 0,.int .i64 0,.int .i64 0,.int .i64 0,.int .i64 0,.int .i64 0,.int .i64 0,.int .i64 0,.int .i64 0,.bool false] [(0,1,(.const (.int .i64 26))),(10,1,(.tmp 23))]),
 .op (.st 9 (.tmp 4) (.tmp 21)),
 .op (.st 11 (.tmp 5) (.tmp 24)),
 .kp [4,5]]
def f100r4 : List I := [.op (.fad 25 6 (.tmp 2)),
 .op (.ld 26 none (.tmp 25)),
 .op (.fad 27 4 (.tmp 3)),
 .op (.ld 28 (some 4) (.tmp 27)),
 .op (.call (some 29) 70 [(.tmp 26),(.tmp 28)]),
 .kp [2,3,4,5,29]]
def f100r5 : List I := [.op (.ld 30 (some 9) (.tmp 2)),
 .op (.bld 31 [.int .i64 0,.slice none 0 0,.int .i64 0,.int .i64 0,.int .i64 0,.int .i64 0,.int .i64 0,.int .i64 0,.int .i64 0,.int .i64 0,.bool false] []),
 .op (.st 9 (.tmp 4) (.tmp 30)),
 .op (.st 11 (.tmp 5) (.tmp 31)),
 .kp [4,5]]
def f100r6 : List I := [.op (.fad 32 8 (.tmp 3)),
 .op (.fad 33 0 (.tmp 32)),
 .op (.ld 34 none (.tmp 33)),
 .op (.fad 35 4 (.tmp 2)),
 .op (.ld 36 none (.tmp 35)),
 .op (.bin 37 .leq (.tmp 34) (.tmp 36)),
 .kp [2,3,4,5,37]]
def f100r7 : List I := [.op (.ld 38 (some 9) (.tmp 2)),
 .op (.fad 39 4 (.tmp 2)),
 .op (.ld 40 none (.tmp 39)),
 .op (.bld 41 [.int .i64 0,.slice none 0 0,.int .i64 0,.int .i64 0,.int .i64 0,.int .i64 0,.int .i64 0,.int .i64 0,.int .i64 0,.int .i64 0,.bool false] [(0,1,(.const (.int .i64 21))),(9,1,(.tmp 40))]),
 .op (.st 9 (.tmp 4) (.tmp 38)),
 .op (.st 11 (.tmp 5) (.tmp 41)),
 .kp [4,5]]
def f100r8 : List I := [.op (.fad 42 8 (.tmp 3)),
 .op (.ld 43 (some 2) (.tmp 42)),
 .op (.fad 44 2 (.tmp 2)),
 .op (.ld 45 (some 2) (.tmp 44)),
 .op (.call (some 46) 42 [(.tmp 43),(.tmp 45)]),
 .kp [2,3,4,5,46]]
def f100r9 : List I := [.op (.ld 47 (some 9) (.tmp 2)),
 .op (.fad 48 2 (.tmp 2)),
 .op (.ld 49 (some 2) (.tmp 48)),
 .op (.bld 50 [.int .i64 0,.slice none 0 0,.int .i64 0,.int .i64 0,.int .i64 0,.int .i64 0,.int .i64 0,.int .i64 0,.int .i64 0,.int .i64 0,.bool false] [(0,1,(.const (.int .i64 22))),(7,2,(.tmp 49))]),
 .op (.st 9 (.tmp 4) (.tmp 47)),
 .op (.st 11 (.tmp 5) (.tmp 50)),
 .kp [4,5]]
def f100r10 : List I := [.op (.mov 8 (.const (.int .i64 0))),
 .kp [2,3,4,5,8]]
def f100r11 : List I := [.op (.mov 51 (.tmp 8)),
 .op (.fad 52 13 (.tmp 3)),
 .op (.ld 53 none (.tmp 52)),
 .op (.len 54 true (.tmp 53)),
 .op (.bin 55 .lss (.tmp 51) (.tmp 54)),
 .kp [2,3,4,5,8,55]]
def f100r12 : L := (.one [.op (.fad 59 6 (.tmp 2)),
 .op (.ld 60 none (.tmp 59)),
 .op (.fad 61 13 (.tmp 3)),
 .op (.ld 62 none (.tmp 61)),
 .op (.mov 63 (.tmp 8)),
 .op (.iad 64 3 (.tmp 62) (.tmp 63)),
 .op (.fad 65 0 (.tmp 64)),
 .op (.ld 66 none (.tmp 65))] (.alt (.one [.op (.call (some 67) 71 [(.tmp 60),(.tmp 66)]),
 .op (.mov 58 (.tmp 67)),
 .op (.ext 68 (.tmp 58) 0),
 .op (.ext 69 (.tmp 58) 1),
 .op (.new 9 72 [.int .i64 0,.int .i64 0,.int .i64 0,.int .i64 0,.int .i64 0,.int .i64 0,.int .i64 0,.bool false,.string ⟨#[]⟩]),
 .op (.st 9 (.tmp 9) (.tmp 68)),
 .op (.mov 10 (.tmp 69)),
 .kp [2,3,4,5,8,9,10]] .nil) (.one [.op (.new 9 72 [.int .i64 0,.int .i64 0,.int .i64 0,.int .i64 0,.int .i64 0,.int .i64 0,.int .i64 0,.bool false,.string ⟨#[]⟩]),
 .op (.call (some 67) 71 [(.tmp 60),(.tmp 66)]),
 .op (.mov 58 (.tmp 67)),
 .op (.ext 68 (.tmp 58) 0),
 .op (.ext 69 (.tmp 58) 1),
 .op (.st 9 (.tmp 9) (.tmp 68)),
 .op (.mov 10 (.tmp 69)),
 .kp [2,3,4,5,8,9,10]] .nil)))
def f100r13 : List I := [.op (.mov 70 (.tmp 10)),
 .kp [2,3,4,5,8,9,70]]
def f100r14 : List I := [.op (.ld 71 (some 9) (.tmp 2)),
 .op (.ld 72 (some 9) (.tmp 9)),
 .op (.call (some 73) 128 [(.tmp 72)]),
 .op (.st 9 (.tmp 4) (.tmp 71)),
 .op (.st 11 (.tmp 5) (.tmp 73)),
 .kp [4,5]]
def f100r15 : List I := [.op (.mov 56 (.tmp 8)),
 .op (.bin 57 .add (.tmp 56) (.const (.int .i64 1))),
 .op (.mov 8 (.tmp 57)),
 .kp [2,3,4,5,8]]
def f100r16 : List I := [.op (.mov 11 (.const (.int .i64 0))),
 .kp [2,3,4,5,11]]
def f100r17 : List I := [.op (.mov 74 (.tmp 11)),
 .op (.fad 75 13 (.tmp 3)),
 .op (.ld 76 none (.tmp 75)),
 .op (.len 77 true (.tmp 76)),
 .op (.bin 78 .lss (.tmp 74) (.tmp 77)),
 .kp [2,3,4,5,11,78]]
def f100r18 : List I := [.op (.fad 81 6 (.tmp 2)),
 .op (.fad 83 13 (.tmp 3)),
 .op (.ld 84 none (.tmp 83)),
 .op (.mov 85 (.tmp 11)),
 .op (.iad 86 3 (.tmp 84) (.tmp 85)),
 .op (.ld 87 (some 3) (.tmp 86)),
 .op (.fad 88 4 (.tmp 3)),
 .op (.ld 89 (some 4) (.tmp 88)),
 .op (.fad 90 3 (.tmp 3)),
 .op (.ld 91 none (.tmp 90)),
 .kp [2,3,4,5,11,81,87,89,91],
 .op (.fad 92 8 (.tmp 3)),
 .op (.ld 93 (some 2) (.tmp 92)),
 .op (.bld 94 [.int .i64 0,.int .i64 0,.int .i64 0,.int .i64 0,.int .i64 0,.int .i64 0,.int .i64 0,.bool false,.string ⟨#[]⟩] [(0,4,(.tmp 89)),(4,1,(.tmp 91)),(5,2,(.tmp 93))]),
 .opn (.ld 82 none (.tmp 81)),
 .op (.call (some 95) 79 [(.tmp 82),(.tmp 87),(.tmp 94)]),
 .op (.fad 96 6 (.tmp 2)),
 .op (.st 1 (.tmp 96) (.tmp 95)),
 .kp [2,3,4,5,11]]
def f100r19 : List I := [.op (.mov 79 (.tmp 11)),
 .op (.bin 80 .add (.tmp 79) (.const (.int .i64 1))),
 .op (.mov 11 (.tmp 80)),
 .kp [2,3,4,5,11]]
def f100r20 : List I := [.op (.ld 97 (some 9) (.tmp 2)),
 .op (.bld 98 [.int .i64 0,.slice none 0 0,.int .i64 0,.int .i64 0,.int .i64 0,.int .i64 0,.int .i64 0,.int .i64 0,.int .i64 0,.int .i64 0,.bool false] []),
 .op (.st 9 (.tmp 4) (.tmp 97)),
 .op (.st 11 (.tmp 5) (.tmp 98)),
 .kp [4,5]]
def f100c4 : C := (.seq (.drw f100r3) .ret)
def f100c7 : C := (.seq (.reg f100r5) .ret)
def f100c10 : C := (.seq (.drw f100r7) .ret)
def f100c13 : C := (.seq (.drw f100r9) .ret)
def f100c22 : C := (.seq (.drw f100r14) .ret)
def f100c21 : C := (.cond (.tmp 70) f100c22 .skip)
def f100c20 : C := (.seq (.reg f100r13) f100c21)
def f100c19 : C := (.seq (.drt f100r12) f100c20)
def f100c23 : C := (.reg f100r15)
def f100c18 : C := (.seq (.block 1 f100c19) f100c23)
def f100c17 : C := (.seq (.cond (.tmp 55) .skip (.exit 0)) f100c18)
def f100c16 : C := (.seq (.reg f100r11) f100c17)
def f100c29 : C := (.drw f100r18)
def f100c30 : C := (.reg f100r19)
def f100c28 : C := (.seq (.block 3 f100c29) f100c30)
def f100c27 : C := (.seq (.cond (.tmp 78) .skip (.exit 2)) f100c28)
def f100c26 : C := (.seq (.reg f100r17) f100c27)
def f100c31 : C := (.seq (.reg f100r20) .ret)
def f100c25 : C := (.seq (.block 2 (.loop f100c26)) f100c31)
def f100c24 : C := (.seq (.reg f100r16) f100c25)
def f100c15 : C := (.seq (.block 0 (.loop f100c16)) f100c24)
def f100c14 : C := (.seq (.reg f100r10) f100c15)
def f100c12 : C := (.seq (.cond (.tmp 46) f100c13 .skip) f100c14)
def f100c11 : C := (.seq (.reg f100r8) f100c12)
def f100c9 : C := (.seq (.cond (.tmp 37) f100c10 .skip) f100c11)
def f100c8 : C := (.seq (.reg f100r6) f100c9)
def f100c6 : C := (.seq (.cond (.tmp 29) f100c7 .skip) f100c8)
def f100c5 : C := (.seq (.reg f100r4) f100c6)
def f100c3 : C := (.seq (.cond (.tmp 20) f100c4 .skip) f100c5)
def f100c2 : C := (.seq (.reg f100r2) f100c3)
def f100c1 : C := (.seq (.reg f100r1) f100c2)
def f100c0 : C := (.seq (.reg f100r0) f100c1)
theorem f100cmp : cmpF Try.prog Try.f100 [.l [.o 0,.o 1,.o 2,.o 3,.kp [2,3,4,5]],
 .l [.o 0,.o 1,.o 2,.o 3,.o 4,.o 5,.o 6,.o 7,.o 8,.o 9,.kp [2,3,4,5,6,19],.o 10,.kp [2,3,4,5,6,7]],
 .l [.o 0,.kp [2,3,4,5,6,20]],
 .l [.o 0,.o 1,.o 2,.o 3,.o 4,.o 5,.kp [4,5]],
 .l [.o 0,.o 1,.o 2,.o 3,.o 4,.kp [2,3,4,5,29]],
 .l [.o 0,.o 1,.o 2,.o 3,.kp [4,5]],
 .l [.o 0,.o 1,.o 2,.o 3,.o 4,.o 5,.kp [2,3,4,5,37]],
 .l [.o 0,.o 1,.o 2,.o 3,.o 4,.o 5,.kp [4,5]],
 .l [.o 0,.o 1,.o 2,.o 3,.o 4,.kp [2,3,4,5,46]],
 .l [.o 0,.o 1,.o 2,.o 3,.o 4,.o 5,.kp [4,5]],
 .l [.o 0,.kp [2,3,4,5,8]],
 .l [.o 0,.o 1,.o 2,.o 3,.o 4,.kp [2,3,4,5,8,55]],
 .t (.one [.o 0,.o 1,.o 2,.o 3,.o 4,.o 5,.o 6,.o 7] (.alt (.one [.o 8,.o 9,.o 10,.o 11,.o 12,.o 13,.o 14,.kp [2,3,4,5,8,9,10]] .nil) (.one [.o 12,.o 8,.o 9,.o 10,.o 11,.o 13,.o 14,.kp [2,3,4,5,8,9,10]] .nil))),
 .l [.o 0,.kp [2,3,4,5,8,9,70]],
 .l [.o 0,.o 1,.o 2,.o 3,.o 4,.kp [4,5]],
 .l [.o 0,.o 1,.o 2,.kp [2,3,4,5,8]],
 .l [.o 0,.kp [2,3,4,5,11]],
 .l [.o 0,.o 1,.o 2,.o 3,.o 4,.kp [2,3,4,5,11,78]],
 .l [.o 0,.o 2,.o 3,.o 4,.o 5,.o 6,.o 7,.o 8,.o 9,.o 10,.kp [2,3,4,5,11,81,87,89,91],.o 11,.o 12,.o 13,.x 1,.o 14,.o 15,.o 16,.kp [2,3,4,5,11]],
 .l [.o 0,.o 1,.o 2,.kp [2,3,4,5,11]],
 .l [.o 0,.o 1,.o 2,.o 3,.kp [4,5]]] = some (f100c0,[.cell 4 9,.cell 5 11]) := by kernel_rfl
theorem f100ok {args : List Value} {h : Heap} {R : Value → Heap → Prop} (hn : args.length ≤ 99) (H : wC Try.prog f100c0 (endW [.cell 4 9,.cell 5 11] R) (envOf 0 args) h) : CallsH Try.prog 100 args h R :=
 fn_ok2 Try.func100 f100cmp hn H
section
variable {P : Program} {Q : X → Env → Heap → Prop} {σ : Env} {h : Heap}
theorem f100c4_eq : wC P f100c4 Q σ h = (drwW P f100r3 (fun σ h => Q .ret σ h) σ h) := rfl
theorem f100c7_eq : wC P f100c7 Q σ h = (wL P none f100r5 0 (fun σ h => Q .ret σ h) σ h) := rfl
theorem f100c10_eq : wC P f100c10 Q σ h = (drwW P f100r7 (fun σ h => Q .ret σ h) σ h) := rfl
theorem f100c13_eq : wC P f100c13 Q σ h = (drwW P f100r9 (fun σ h => Q .ret σ h) σ h) := rfl
theorem f100c22_eq : wC P f100c22 Q σ h = (drwW P f100r14 (fun σ h => Q .ret σ h) σ h) := rfl
theorem f100c21_eq : wC P f100c21 Q σ h = (bd (evO σ (.tmp 70)) fun v => bd (asB v) fun t => br t (wC P f100c22 Q σ h) (Q .normal σ h)) := rfl
theorem f100c20_eq : wC P f100c20 Q σ h = (wL P none f100r13 0 (fun σ h => wC P f100c21 Q σ h) σ h) := rfl
theorem f100c19_eq : wC P f100c19 Q σ h = (drtW P f100r12 (fun σ h => wC P f100c20 Q σ h) σ h) := rfl
theorem f100c23_eq : wC P f100c23 Q σ h = (wL P none f100r15 0 (fun σ h => Q .normal σ h) σ h) := rfl
theorem f100c18_eq : wC P f100c18 Q σ h = (wC P f100c19 (X.inBlock 1 (X.then (fun σ h => wC P f100c23 Q σ h) Q)) σ h) := rfl
theorem f100c17_eq : wC P f100c17 Q σ h = (bd (evO σ (.tmp 55)) fun v => bd (asB v) fun t => br t (wC P f100c18 Q σ h) (Q (.exit 0) σ h)) := rfl
theorem f100c16_eq : wC P f100c16 Q σ h = (wL P none f100r11 0 (fun σ h => wC P f100c17 Q σ h) σ h) := rfl
theorem f100c29_eq : wC P f100c29 Q σ h = (drwW P f100r18 (fun σ h => Q .normal σ h) σ h) := rfl
theorem f100c30_eq : wC P f100c30 Q σ h = (wL P none f100r19 0 (fun σ h => Q .normal σ h) σ h) := rfl
theorem f100c28_eq : wC P f100c28 Q σ h = (wC P f100c29 (X.inBlock 3 (X.then (fun σ h => wC P f100c30 Q σ h) Q)) σ h) := rfl
theorem f100c27_eq : wC P f100c27 Q σ h = (bd (evO σ (.tmp 78)) fun v => bd (asB v) fun t => br t (wC P f100c28 Q σ h) (Q (.exit 2) σ h)) := rfl
theorem f100c26_eq : wC P f100c26 Q σ h = (wL P none f100r17 0 (fun σ h => wC P f100c27 Q σ h) σ h) := rfl
theorem f100c31_eq : wC P f100c31 Q σ h = (wL P none f100r20 0 (fun σ h => Q .ret σ h) σ h) := rfl
theorem f100c25_eq : wC P f100c25 Q σ h = (loopW (wC P f100c26) (X.inBlock 2 (X.then (fun σ h => wC P f100c31 Q σ h) Q)) σ h) := rfl
theorem f100c24_eq : wC P f100c24 Q σ h = (wL P none f100r16 0 (fun σ h => wC P f100c25 Q σ h) σ h) := rfl
theorem f100c15_eq : wC P f100c15 Q σ h = (loopW (wC P f100c16) (X.inBlock 0 (X.then (fun σ h => wC P f100c24 Q σ h) Q)) σ h) := rfl
theorem f100c14_eq : wC P f100c14 Q σ h = (wL P none f100r10 0 (fun σ h => wC P f100c15 Q σ h) σ h) := rfl
theorem f100c12_eq : wC P f100c12 Q σ h = (bd (evO σ (.tmp 46)) fun v => bd (asB v) fun t => br t (wC P f100c13 (X.then (fun σ h => wC P f100c14 Q σ h) Q) σ h) (wC P f100c14 Q σ h)) := rfl
theorem f100c11_eq : wC P f100c11 Q σ h = (wL P none f100r8 0 (fun σ h => wC P f100c12 Q σ h) σ h) := rfl
theorem f100c9_eq : wC P f100c9 Q σ h = (bd (evO σ (.tmp 37)) fun v => bd (asB v) fun t => br t (wC P f100c10 (X.then (fun σ h => wC P f100c11 Q σ h) Q) σ h) (wC P f100c11 Q σ h)) := rfl
theorem f100c8_eq : wC P f100c8 Q σ h = (wL P none f100r6 0 (fun σ h => wC P f100c9 Q σ h) σ h) := rfl
theorem f100c6_eq : wC P f100c6 Q σ h = (bd (evO σ (.tmp 29)) fun v => bd (asB v) fun t => br t (wC P f100c7 (X.then (fun σ h => wC P f100c8 Q σ h) Q) σ h) (wC P f100c8 Q σ h)) := rfl
theorem f100c5_eq : wC P f100c5 Q σ h = (wL P none f100r4 0 (fun σ h => wC P f100c6 Q σ h) σ h) := rfl
theorem f100c3_eq : wC P f100c3 Q σ h = (bd (evO σ (.tmp 20)) fun v => bd (asB v) fun t => br t (wC P f100c4 (X.then (fun σ h => wC P f100c5 Q σ h) Q) σ h) (wC P f100c5 Q σ h)) := rfl
theorem f100c2_eq : wC P f100c2 Q σ h = (wL P none f100r2 0 (fun σ h => wC P f100c3 Q σ h) σ h) := rfl
theorem f100c1_eq : wC P f100c1 Q σ h = (wL P none f100r1 0 (fun σ h => wC P f100c2 Q σ h) σ h) := rfl
theorem f100c0_eq : wC P f100c0 Q σ h = (wL P none f100r0 0 (fun σ h => wC P f100c1 Q σ h) σ h) := rfl
end
def f101r0 : List I := [.op (.mov 4 (.const (.bool false))),
 .kp [0,1]]
def f101r1 : List I := [.op (.mov 6 (.tmp 0)),
 .op (.len 7 true (.tmp 6)),
 .op (.mov 8 (.tmp 1)),
 .op (.len 9 true (.tmp 8)),
 .op (.bin 10 .neq (.tmp 7) (.tmp 9)),
 .kp [0,1,10]]
def f101r2 : List I := [.op (.mov 4 (.const (.bool false))),
 .kp [4]]
def f101r3 : List I := [.op (.mov 5 (.const (.int .i64 0))),
 .kp [0,1,5]]
def f101r4 : List I := [.op (.mov 11 (.tmp 5)),
 .op (.mov 12 (.tmp 0)),
 .op (.len 13 true (.tmp 12)),
 .op (.bin 14 .lss (.tmp 11) (.tmp 13)),
 .kp [0,1,5,14]]
def f101r5 : List I := [.op (.mov 17 (.tmp 0)),
 .op (.mov 18 (.tmp 5)),
 .op (.iad 19 7 (.tmp 17) (.tmp 18)),
 .op (.ld 20 (some 7) (.tmp 19)),
 .op (.mov 21 (.tmp 1)),
 .op (.mov 22 (.tmp 5)),
 .op (.iad 23 7 (.tmp 21) (.tmp 22)),
 .op (.ld 24 (some 7) (.tmp 23)),
 .op (.eqa 25 true [.i .i64,.i .i64,.i .i64,.i .i64,.i .i64,.i .i64,.b] (.tmp 20) (.tmp 24)),
 .kp [0,1,5,25]]
def f101r6 : List I := [.op (.mov 4 (.const (.bool false))),
 .kp [4]]
def f101r7 : List I := [.op (.mov 15 (.tmp 5)),
 .op (.bin 16 .add (.tmp 15) (.const (.int .i64 1))),
 .op (.mov 5 (.tmp 16)),
 .kp [0,1,5]]
def f101r8 : List I := [.op (.mov 4 (.const (.bool true))),
 .kp [4]]
def f101c3 : C := (.seq (.reg f101r2) .ret)
def f101c11 : C := (.seq (.reg f101r6) .ret)
def f101c10 : C := (.cond (.tmp 25) f101c11 .skip)
def f101c9 : C := (.seq (.drw f101r5) f101c10)
def f101c12 : C := (.reg f101r7)
def f101c8 : C := (.seq (.block 1 f101c9) f101c12)
def f101c7 : C := (.seq (.cond (.tmp 14) .skip (.exit 0)) f101c8)
def f101c6 : C := (.seq (.reg f101r4) f101c7)
def f101c13 : C := (.seq (.reg f101r8) .ret)
def f101c5 : C := (.seq (.block 0 (.loop f101c6)) f101c13)
def f101c4 : C := (.seq (.reg f101r3) f101c5)
def f101c2 : C := (.seq (.cond (.tmp 10) f101c3 .skip) f101c4)
def f101c1 : C := (.seq (.reg f101r1) f101c2)
def f101c0 : C := (.seq (.reg f101r0) f101c1)
theorem f101cmp : cmpF Try.prog Try.f101 [.l [.o 0,.kp [0,1]],
 .l [.o 0,.o 1,.o 2,.o 3,.o 4,.kp [0,1,10]],
 .l [.o 0,.kp [4]],
 .l [.o 0,.kp [0,1,5]],
 .l [.o 0,.o 1,.o 2,.o 3,.kp [0,1,5,14]],
 .l [.o 0,.o 1,.o 2,.o 3,.o 4,.o 5,.o 6,.o 7,.o 8,.kp [0,1,5,25]],
 .l [.o 0,.kp [4]],
 .l [.o 0,.o 1,.o 2,.kp [0,1,5]],
 .l [.o 0,.kp [4]]] = some (f101c0,[.tmp 4]) := by kernel_rfl
theorem f101ok {args : List Value} {h : Heap} {R : Value → Heap → Prop} (hn : args.length ≤ 26) (H : wC Try.prog f101c0 (endW [.tmp 4] R) (envOf 0 args) h) : CallsH Try.prog 101 args h R :=
 fn_ok2 Try.func101 f101cmp hn H
section
variable {P : Program} {Q : X → Env → Heap → Prop} {σ : Env} {h : Heap}
theorem f101c10_eq : wC P f101c10 Q σ h = (bd (evO σ (.tmp 25)) fun v => bd (asB v) fun t => br t (wC P f101c11 Q σ h) (Q .normal σ h)) := rfl
theorem f101c9_eq : wC P f101c9 Q σ h = (drwW P f101r5 (fun σ h => wC P f101c10 Q σ h) σ h) := rfl
theorem f101c12_eq : wC P f101c12 Q σ h = (wL P none f101r7 0 (fun σ h => Q .normal σ h) σ h) := rfl
theorem f101c8_eq : wC P f101c8 Q σ h = (wC P f101c9 (X.inBlock 1 (X.then (fun σ h => wC P f101c12 Q σ h) Q)) σ h) := rfl
theorem f101c7_eq : wC P f101c7 Q σ h = (bd (evO σ (.tmp 14)) fun v => bd (asB v) fun t => br t (wC P f101c8 Q σ h) (Q (.exit 0) σ h)) := rfl
theorem f101c6_eq : wC P f101c6 Q σ h = (wL P none f101r4 0 (fun σ h => wC P f101c7 Q σ h) σ h) := rfl
theorem f101c13_eq : wC P f101c13 Q σ h = (wL P none f101r8 0 (fun σ h => Q .ret σ h) σ h) := rfl
theorem f101c5_eq : wC P f101c5 Q σ h = (loopW (wC P f101c6) (X.inBlock 0 (X.then (fun σ h => wC P f101c13 Q σ h) Q)) σ h) := rfl
theorem f101c4_eq : wC P f101c4 Q σ h = (wL P none f101r3 0 (fun σ h => wC P f101c5 Q σ h) σ h) := rfl
theorem f101c2_eq : wC P f101c2 Q σ h = (bd (evO σ (.tmp 10)) fun v => bd (asB v) fun t => br t (wC P f101c3 (X.then (fun σ h => wC P f101c4 Q σ h) Q) σ h) (wC P f101c4 Q σ h)) := rfl
theorem f101c1_eq : wC P f101c1 Q σ h = (wL P none f101r1 0 (fun σ h => wC P f101c2 Q σ h) σ h) := rfl
theorem f101c0_eq : wC P f101c0 Q σ h = (wL P none f101r0 0 (fun σ h => wC P f101c1 Q σ h) σ h) := rfl
end
def f103r0 : List I := [.op (.mov 2 (.const (.bool false))),
 .kp [0]]
def f103r1 : List I := [.op (.mov 3 (.const (.int .i64 0))),
 .kp [0,3]]
def f103r2 : List I := [.op (.mov 6 (.tmp 3)),
 .op (.mov 7 (.tmp 0)),
 .op (.len 8 true (.tmp 7)),
 .op (.bin 9 .lss (.tmp 6) (.tmp 8)),
 .kp [0,3,9]]
def f103r3 : L := (.one [.op (.mov 13 (.tmp 0)),
 .op (.mov 14 (.tmp 3)),
 .op (.slc 15 7 (.tmp 13) none (some (.tmp 14)) none),
 .op (.mov 16 (.tmp 0)),
 .op (.mov 17 (.tmp 3)),
 .op (.iad 18 7 (.tmp 16) (.tmp 17)),
 .op (.fad 19 0 (.tmp 18)),
 .op (.ld 20 (some 4) (.tmp 19))] (.alt (.one [.op (.call (some 21) 64 [(.tmp 15),(.tmp 20)]),
 .op (.mov 12 (.tmp 21)),
 .op (.ext 22 (.tmp 12) 0),
 .op (.ext 23 (.tmp 12) 1),
 .op (.new 4 126 [.int .i64 0,.int .i64 0,.int .i64 0,.int .i64 0,.int .i64 0,.int .i64 0,.bool false]),
 .op (.st 7 (.tmp 4) (.tmp 22)),
 .op (.mov 5 (.tmp 23)),
 .kp [0,3,5]] .nil) (.one [.op (.new 4 126 [.int .i64 0,.int .i64 0,.int .i64 0,.int .i64 0,.int .i64 0,.int .i64 0,.bool false]),
 .op (.call (some 21) 64 [(.tmp 15),(.tmp 20)]),
 .op (.mov 12 (.tmp 21)),
 .op (.ext 22 (.tmp 12) 0),
 .op (.ext 23 (.tmp 12) 1),
 .op (.st 7 (.tmp 4) (.tmp 22)),
 .op (.mov 5 (.tmp 23)),
 .kp [0,3,5]] .nil)))
def f103r4 : List I := [.op (.mov 24 (.tmp 5)),
 .kp [0,3,24]]
def f103r5 : List I := [.op (.mov 2 (.const (.bool false))),
 .kp [2]]
def f103r6 : List I := [.op (.mov 10 (.tmp 3)),
 .op (.bin 11 .add (.tmp 10) (.const (.int .i64 1))),
 .op (.mov 3 (.tmp 11)),
 .kp [0,3]]
def f103r7 : List I := [.op (.mov 2 (.const (.bool true))),
 .kp [2]]
def f103c9 : C := (.seq (.reg f103r5) .ret)
def f103c8 : C := (.cond (.tmp 24) f103c9 .skip)
def f103c7 : C := (.seq (.reg f103r4) f103c8)
def f103c6 : C := (.seq (.drt f103r3) f103c7)
def f103c10 : C := (.reg f103r6)
def f103c5 : C := (.seq (.block 1 f103c6) f103c10)
def f103c4 : C := (.seq (.cond (.tmp 9) .skip (.exit 0)) f103c5)
def f103c3 : C := (.seq (.reg f103r2) f103c4)
def f103c11 : C := (.seq (.reg f103r7) .ret)
def f103c2 : C := (.seq (.block 0 (.loop f103c3)) f103c11)
def f103c1 : C := (.seq (.reg f103r1) f103c2)
def f103c0 : C := (.seq (.reg f103r0) f103c1)
theorem f103cmp : cmpF Try.prog Try.f103 [.l [.o 0,.kp [0]],
 .l [.o 0,.kp [0,3]],
 .l [.o 0,.o 1,.o 2,.o 3,.kp [0,3,9]],
 .t (.one [.o 0,.o 1,.o 2,.o 3,.o 4,.o 5,.o 6,.o 7] (.alt (.one [.o 8,.o 9,.o 10,.o 11,.o 12,.o 13,.o 14,.kp [0,3,5]] .nil) (.one [.o 12,.o 8,.o 9,.o 10,.o 11,.o 13,.o 14,.kp [0,3,5]] .nil))),
 .l [.o 0,.kp [0,3,24]],
 .l [.o 0,.kp [2]],
 .l [.o 0,.o 1,.o 2,.kp [0,3]],
 .l [.o 0,.kp [2]]] = some (f103c0,[.tmp 2]) := by kernel_rfl
theorem f103ok {args : List Value} {h : Heap} {R : Value → Heap → Prop} (hn : args.length ≤ 25) (H : wC Try.prog f103c0 (endW [.tmp 2] R) (envOf 0 args) h) : CallsH Try.prog 103 args h R :=
 fn_ok2 Try.func103 f103cmp hn H
section
variable {P : Program} {Q : X → Env → Heap → Prop} {σ : Env} {h : Heap}
theorem f103c9_eq : wC P f103c9 Q σ h = (wL P none f103r5 0 (fun σ h => Q .ret σ h) σ h) := rfl
theorem f103c8_eq : wC P f103c8 Q σ h = (bd (evO σ (.tmp 24)) fun v => bd (asB v) fun t => br t (wC P f103c9 Q σ h) (Q .normal σ h)) := rfl
theorem f103c7_eq : wC P f103c7 Q σ h = (wL P none f103r4 0 (fun σ h => wC P f103c8 Q σ h) σ h) := rfl
theorem f103c6_eq : wC P f103c6 Q σ h = (drtW P f103r3 (fun σ h => wC P f103c7 Q σ h) σ h) := rfl
theorem f103c10_eq : wC P f103c10 Q σ h = (wL P none f103r6 0 (fun σ h => Q .normal σ h) σ h) := rfl
theorem f103c5_eq : wC P f103c5 Q σ h = (wC P f103c6 (X.inBlock 1 (X.then (fun σ h => wC P f103c10 Q σ h) Q)) σ h) := rfl
theorem f103c4_eq : wC P f103c4 Q σ h = (bd (evO σ (.tmp 9)) fun v => bd (asB v) fun t => br t (wC P f103c5 Q σ h) (Q (.exit 0) σ h)) := rfl
theorem f103c3_eq : wC P f103c3 Q σ h = (wL P none f103r2 0 (fun σ h => wC P f103c4 Q σ h) σ h) := rfl
theorem f103c11_eq : wC P f103c11 Q σ h = (wL P none f103r7 0 (fun σ h => Q .ret σ h) σ h) := rfl
theorem f103c2_eq : wC P f103c2 Q σ h = (loopW (wC P f103c3) (X.inBlock 0 (X.then (fun σ h => wC P f103c11 Q σ h) Q)) σ h) := rfl
theorem f103c1_eq : wC P f103c1 Q σ h = (wL P none f103r1 0 (fun σ h => wC P f103c2 Q σ h) σ h) := rfl
theorem f103c0_eq : wC P f103c0 Q σ h = (wL P none f103r0 0 (fun σ h => wC P f103c1 Q σ h) σ h) := rfl
end
def f128r0 : List I := [.op (.box 1 72 (.tmp 0)),
 .op (.new 2 47 [.int .i64 0,.slice none 0 0,.int .i64 0,.int .i64 0,.int .i64 0,.int .i64 0,.int .i64 0,.int .i64 0,.int .i64 0,.int .i64 0,.bool false]),
 .kp [1,2]]
def f128r1 : List I := [.op (.fad 3 0 (.tmp 1)),
 .op (.ld 4 (some 4) (.tmp 3)),
 .op (.fad 5 4 (.tmp 1)),
 .op (.ld 6 none (.tmp 5)),
 .op (.fad 7 5 (.tmp 1)),
 .op (.ld 8 (some 2) (.tmp 7)),
 .op (.bld 9 [.int .i64 0,.slice none 0 0,.int .i64 0,.int .i64 0,.int .i64 0,.int .i64 0,.int .i64 0,.int .i64 0,.int .i64 0,.int .i64 0,.bool false] [(0,1,(.const (.int .i64 20))),(2,4,(.tmp 4)),(6,1,(.tmp 6)),(7,2,(.tmp 8))]),
 .op (.st 11 (.tmp 2) (.tmp 9)),
 .kp [2]]
def f128c1 : C := (.seq (.reg f128r1) .ret)
def f128c0 : C := (.seq (.reg f128r0) f128c1)
theorem f128cmp : cmpF Try.prog Try.f128 [.l [.o 0,.o 1,.kp [1,2]],
 .l [.o 0,.o 1,.o 2,.o 3,.o 4,.o 5,.o 6,.o 7,.kp [2]]] = some (f128c0,[.cell 2 11]) := by kernel_rfl
theorem f128ok {args : List Value} {h : Heap} {R : Value → Heap → Prop} (hn : args.length ≤ 10) (H : wC Try.prog f128c0 (endW [.cell 2 11] R) (envOf 0 args) h) : CallsH Try.prog 128 args h R :=
 fn_ok2 Try.func128 f128cmp hn H
section
variable {P : Program} {Q : X → Env → Heap → Prop} {σ : Env} {h : Heap}
theorem f128c1_eq : wC P f128c1 Q σ h = (wL P none f128r1 0 (fun σ h => Q .ret σ h) σ h) := rfl
theorem f128c0_eq : wC P f128c0 Q σ h = (wL P none f128r0 0 (fun σ h => wC P f128c1 Q σ h) σ h) := rfl
end
section
variable {P : Program} {Q : X → Env → Heap → Prop} {σ : Env} {h : Heap}
end
section
variable {P : Program} {Q : X → Env → Heap → Prop} {σ : Env} {h : Heap}
end
end Go.Proofs.Ytefghfgmkndikaa
namespace Go.Proofs.Ytefghfgmkndikaa
open Go Go.AX
theorem eqA_outE (x : Out) : eqA true [.i .i64,.i .i64,.i .i64,.i .i64,.i .i64,.i .i64,.b] (.agg (eOut x).toArray) (.agg (eOut x).toArray) = some (.bool false) := by
 simp only [eqA,eOut,eqKds,eqKd,and_self,if_true,Option.bind_some,Option.map_some,beq_self_eq_true,Bool.and_true,Bool.not_true]
theorem eqA_stampE (s : Stamp) : eqA true [.i .i64,.i .i64] (.agg #[vi s.wall,vi s.tie]) (.agg #[vi s.wall,vi s.tie]) = some (.bool false) := by rw [eqA_stampN]; simp
theorem sameO_ok {B B' : Nat → Prop} {a a' : Option Addr} {c c' : Nat} (l : List Out) (h : Heap) (S : SlF B h eOut a l) (S' : SlF B' h eOut a' l) (hn : l.length ≤ big) {R : Value → Heap → Prop}
  (hR : R (.bool true) h) : CallsH Try.prog 101 [.slice a l.length c,.slice a' l.length c'] h R := by
 have hbig : big = 1000000 := rfl
 refine f101ok (by simp) ?_
 (try simp (maxSteps:=1000000) (disch:=first|exact Lb rfl|omega) only [AXS,AXB,J.dst,reduceIte,Z1,Z2,Z3,Z4,Z5]); rw [f101c0_eq]; (try simp (maxSteps:=1000000) (disch:=first|exact Lb rfl|omega) only [AXS,AXB,J.dst,reduceIte,Z1,Z2,Z3,Z4,Z5,f101r0]); rw [f101c1_eq]; (try simp (maxSteps:=1000000) (disch:=first|exact Lb rfl|omega) only [AXS,AXB,J.dst,reduceIte,Z1,Z2,Z3,Z4,Z5,f101r1]); rw [f101c2_eq]; (try simp (maxSteps:=1000000) (disch:=first|exact Lb rfl|omega) only [AXS,AXB,J.dst,reduceIte,Z1,Z2,Z3,Z4,Z5])
 (try simp (maxSteps:=1000000) (disch:=first|exact Lb rfl|omega) only [AXS,AXB,J.dst,reduceIte,Z1,Z2,Z3,Z4,Z5]); rw [f101c4_eq]; (try simp (maxSteps:=1000000) (disch:=first|exact Lb rfl|omega) only [AXS,AXB,J.dst,reduceIte,Z1,Z2,Z3,Z4,Z5,f101r3])
 rw [f101c5_eq]
 refine loop_in (fun m σ h' => h' = h ∧ ∃ k : Nat,k + m = l.length ∧ σ = [(0,.slice a l.length c),(1,.slice a' l.length c'),(5,vi k)]) l.length ⟨rfl,0,by omega,rfl⟩ ?_
 rintro m σ h' ⟨rfl,k,hk,rfl⟩ Q' hnx hex hrt _
 (try simp (maxSteps:=1000000) (disch:=first|exact Lb rfl|omega) only [AXS,AXB,J.dst,reduceIte,Z1,Z2,Z3,Z4,Z5]); rw [f101c6_eq]; (try simp (maxSteps:=1000000) (disch:=first|exact Lb rfl|omega) only [AXS,AXB,J.dst,reduceIte,Z1,Z2,Z3,Z4,Z5,f101r4]); rw [f101c7_eq]; (try simp (maxSteps:=1000000) (disch:=first|exact Lb rfl|omega) only [AXS,AXB,J.dst,reduceIte,Z1,Z2,Z3,Z4,Z5])
 refine ⟨fun hh => ?_,fun hh => ?_⟩
 ·have hkl : k < l.length := by have := of_decide_eq_true hh; omega
  obtain ⟨x,hx⟩ := get_ex hkl
  obtain ⟨c1,o1,rfl,_,hrow1⟩ := S.elem eOut_len hx
  obtain ⟨c2,o2,rfl,_,hrow2⟩ := S'.elem eOut_len hx
  have q1 := hrow1.lt (by rw [eOut_len]; omega)
  have q2 := hrow2.lt (by rw [eOut_len]; omega)
  try simp (maxSteps:=1000000) (disch:=first|exact Lb rfl|omega) only [AXS,AXB,J.dst,reduceIte,Z1,Z2,Z3,Z4,Z5]
  rw [f101c8_eq,f101c9_eq]
  refine drw_lt ?_
  simp (maxSteps:=1000000) (disch:=first|exact Lb rfl|omega) only [AXS,AXB,J.dst,reduceIte,Z1,Z2,Z3,Z4,Z5,f101r5,(row_out hrow1).1,(row_out hrow2).1,eqA_outE]
  refine ⟨by omega,by omega,q1,by omega,by omega,q2,?_⟩
  (try simp (maxSteps:=1000000) (disch:=first|exact Lb rfl|omega) only [AXS,AXB,J.dst,reduceIte,Z1,Z2,Z3,Z4,Z5]); rw [f101c10_eq]; (try simp (maxSteps:=1000000) (disch:=first|exact Lb rfl|omega) only [AXS,AXB,J.dst,reduceIte,Z1,Z2,Z3,Z4,Z5])
  (try simp (maxSteps:=1000000) (disch:=first|exact Lb rfl|omega) only [AXS,AXB,J.dst,reduceIte,Z1,Z2,Z3,Z4,Z5]); rw [f101c12_eq]; (try simp (maxSteps:=1000000) (disch:=first|exact Lb rfl|omega) only [AXS,AXB,J.dst,reduceIte,Z1,Z2,Z3,Z4,Z5,f101r7])
  rw [i64_wrap (by omega) (by omega)]
  exact hnx (m - 1) _ _ (by omega) ⟨rfl,k + 1,by omega,rfl⟩
 ·refine hex _ _ ?_
  (try simp (maxSteps:=1000000) (disch:=first|exact Lb rfl|omega) only [AXS,AXB,J.dst,reduceIte,Z1,Z2,Z3,Z4,Z5]); rw [f101c13_eq]; (try simp (maxSteps:=1000000) (disch:=first|exact Lb rfl|omega) only [AXS,AXB,J.dst,reduceIte,Z1,Z2,Z3,Z4,Z5,f101r8])
  exact hR
theorem samePrt_ok {B B' : Nat → Prop} {n : Nat} (pv qv : PrV) (p : Prt) (h : Heap) (S : PrR B h pv p) (S' : PrR B' h qv p) (g : SzP n p) (hn : n ≤ 900000) {R : Value → Heap → Prop}
  (hR : ∀ h',Ext h h' → R (.bool true) h') : CallsH Try.prog 58 [.agg (ePr pv).toArray,.agg (ePr qv).toArray] h R := by
 have hbig : big = 1000000 := rfl
 have gr := g.records
 have gd := g.done
 have hs := S.s
 have hs' := S'.s
 refine f58ok (by simp) ?_
 (try simp (maxSteps:=1000000) (disch:=first|exact Lb rfl|omega) only [AXS,AXB,J.dst,reduceIte,Z1,Z2,Z3,Z4,Z5]); rw [f58c0_eq]; (try simp (maxSteps:=1000000) (disch:=first|exact Lb rfl|omega) only [AXS,AXB,J.dst,reduceIte,Z1,Z2,Z3,Z4,Z5,f58r0])
 refine wL_boxN rfl ?_; rintro b1 h1 x1 s1 hb1 (B1 : Blk _ _ _ (ePr pv))
 refine wL_boxN rfl ?_; rintro b2 h2 x2 s2 hb2 (B2 : Blk _ _ _ (ePr qv))
 replace B1 := B1.ext x2
 have x02 := x1.trans x2
 try simp (maxSteps:=1000000) (disch:=first|exact Lb rfl|omega) only [AXS,AXB,J.dst,reduceIte,Z1,Z2,Z3,Z4,Z5]
 rw [f58c1_eq]
 simp (maxSteps:=1000000) (disch:=first|exact Lb rfl|omega) only [AXJ,AXS,AXB,J.dst,reduceIte,Z1,Z2,Z3,Z4,Z5,f58r1,B1.cel,B2.cel,ePr,hs,hs']
 simp (maxSteps:=1000000) (disch:=first|exact Lb rfl|omega) only [AXJ,AXS,AXB,J.dst,reduceIte,Z1,Z2,Z3,Z4,Z5,f58r1a,B1.rd,B2.rd,ePr,hs,hs',eqA_stampE]
 simp (maxSteps:=1000000) (disch:=first|exact Lb rfl|omega) only [AXJ,AXS,AXB,J.dst,reduceIte,Z1,Z2,Z3,Z4,Z5,f58r1b,B1.cel,B2.cel,ePr,hs,hs']
 simp (maxSteps:=1000000) (disch:=first|exact Lb rfl|omega) only [AXJ,AXS,AXB,J.dst,reduceIte,Z1,Z2,Z3,Z4,Z5,f58r1c,B1.cel,B2.cel,ePr,hs,hs']
 simp (maxSteps:=1000000) (disch:=first|exact Lb rfl|omega) only [AXJ,AXS,AXB,J.dst,reduceIte,Z1,Z2,Z3,Z4,Z5,f58r1d,B1.cel,B2.cel,ePr,S.cn,S'.cn]
 refine sameG g.cells hn (S.cells.ext x02) (S'.cells.ext x02) rfl ?_
 intro h3 x3
 refine ⟨trivial,?_⟩
 replace B1 := B1.ext x3; replace B2 := B2.ext x3
 have x03 := x02.trans x3
 try simp (maxSteps:=1000000) (disch:=first|exact Lb rfl|omega) only [AXJ,AXS,AXB,J.dst,reduceIte,Z1,Z2,Z3,Z4,Z5]
 (try simp (maxSteps:=1000000) (disch:=first|exact Lb rfl|omega) only [AXS,AXB,J.dst,reduceIte,Z1,Z2,Z3,Z4,Z5]); rw [f58c2_eq]; (try simp (maxSteps:=1000000) (disch:=first|exact Lb rfl|omega) only [AXS,AXB,J.dst,reduceIte,Z1,Z2,Z3,Z4,Z5])
 rw [f58c4_eq]
 simp (maxSteps:=1000000) (disch:=first|exact Lb rfl|omega) only [AXJ,AXS,AXB,J.dst,reduceIte,Z1,Z2,Z3,Z4,Z5,f58r3,B1.cel,B2.cel,ePr,S.rn,S'.rn]
 refine sameO_ok p.records _ (S.records.ext x03) (S'.records.ext x03) (by omega) ?_
 refine ⟨trivial,?_⟩
 simp (maxSteps:=1000000) (disch:=first|exact Lb rfl|omega) only [AXJ,AXS,AXB,J.dst,reduceIte,Z1,Z2,Z3,Z4,Z5,B1.cel,B2.cel,ePr,S.dn,S'.dn]
 refine sameO_ok p.done _ (S.done.ext x03) (S'.done.ext x03) (by omega) ?_
 refine ⟨trivial,?_⟩
 try simp (maxSteps:=1000000) (disch:=first|exact Lb rfl|omega) only [AXJ,AXS,AXB,J.dst,reduceIte,Z1,Z2,Z3,Z4,Z5]
 try simp (maxSteps:=1000000) (disch:=first|exact Lb rfl|omega) only [AXJ,AXS,AXB,J.dst,reduceIte,Z1,Z2,Z3,Z4,Z5,f58r3a]
 exact hR _ x03
end Go.Proofs.Ytefghfgmkndikaa
namespace Go.Proofs.Ytefghfgmkndikaa
open Go Go.AX
theorem scanL_err (t : Stamp) (most : Int) (xs : List Cell) (acc : List Pai) : (scanL t most xs acc).2 = 0 ∨ (scanL t most xs acc).2 = 3 := by
 rw [scanL_eq]
 split
 ·exact .inl rfl
 ·exact .inr rfl
theorem readL_err (p : Prt) (t : Stamp) : ∀ (ss : List Spn) (acc : List Pai),(readL p t ss acc).2 = 0 ∨ (readL p t ss acc).2 = 3
 | [],_ => .inl rfl
 | s :: ss,acc => by
  unfold readL
  dsimp only
  split
  ·exact readL_err p t ss _
  ·exact scanL_err t _ _ _
theorem readP_err (p : Prt) (c : Cmd) : (readP p c).2.s.err ≠ 25 := by
 unfold readP
 split
 ·show (24 : Int) ≠ 25; decide
 ·split
  ·show (20 : Int) ≠ 25; decide
  ·dsimp only
   split
   ·show (0 : Int) ≠ 25; decide
   ·show (readL p c.s.at_ c.spans []).2 ≠ 25
    rcases readL_err p c.s.at_ c.spans [] with h | h <;> rw [h] <;> decide
theorem prepP_err (p : Prt) (c : Cmd) : (prepP p c).2.s.err ≠ 25 := by
 unfold prepP
 split
 ·show (26 : Int) ≠ 25; decide
 ·split
  ·show (0 : Int) ≠ 25; decide
  ·split
   ·show (21 : Int) ≠ 25; decide
   ·split
    ·show (22 : Int) ≠ 25; decide
    ·split
     ·show (20 : Int) ≠ 25; decide
     ·show (0 : Int) ≠ 25; decide
theorem doesP_err (p : Prt) (c : Cmd) : (doesP p c).2.s.err ≠ 25 := by
 unfold doesP
 split
 ·exact readP_err p c
 split
 ·exact prepP_err p c
 split
 ·split
  ·show (0 : Int) ≠ 25; decide
  ·show (0 : Int) ≠ 25; decide
 split
 ·show (0 : Int) ≠ 25; decide
 split
 ·show (0 : Int) ≠ 25; decide
 split
 ·show (0 : Int) ≠ 25; decide
 ·show (9 : Int) ≠ 25; decide
theorem other_law (p : Prt) (c : Cmd) (hk : ¬ c.s.kind = 1) : ((p.s.epoch = 0 ∨ c.s.epoch ≠ p.s.epoch) → applyP p c = (p,errR 25)) ∧ (¬ (p.s.epoch = 0 ∨ c.s.epoch ≠ p.s.epoch) → (applyP p c).2.s.err ≠ 25) := by
 refine ⟨fun h => ?_,fun h => ?_⟩
 ·unfold applyP
  simp only [if_neg hk,if_pos h]
  split <;> rfl
 ·unfold applyP
  simp only [if_neg hk,if_neg h]
  split
  ·exact doesP_err p c
  ·exact doesP_err p c
end Go.Proofs.Ytefghfgmkndikaa
namespace Go.AX
open Go
/-- Two ways, where it is plain which one: for simp ahead of the ways themselves. -/
theorem br_TT (A B : Prop) : br (true == true) A B = A := by simp [br]
theorem br_TF (A B : Prop) : br (true == false) A B = B := by simp [br]
theorem br_FT (A B : Prop) : br (false == true) A B = B := by simp [br]
theorem br_FF (A B : Prop) : br (false == false) A B = A := by simp [br]
end Go.AX
namespace Go.Proofs.Ytefghfgmkndikaa
open Go Go.AX
theorem findO_none {l : List Out} {by_ : Try4} (H : ∀ (j : Nat) (o : Out),j < l.length → l[j]? = some o → ¬ o.by_ = by_) : findO l by_ = none := by
 unfold findO
 rw [List.find?_eq_none]
 intro o ho
 obtain ⟨j,hj,rfl⟩ := List.mem_iff_getElem.1 ho
 simpa using H j _ hj (List.getElem?_eq_getElem hj)
theorem findO_at {l : List Out} {by_ : Try4} {k : Nat} {x : Out} (hx : l[k]? = some x) (he : x.by_ = by_) (H : ∀ (j : Nat) (o : Out),j < k → l[j]? = some o → ¬ o.by_ = by_) : findO l by_ = some x := by
 unfold findO
 have hk : k < l.length := by
  rcases Nat.lt_or_ge k l.length with h | h
  ·exact h
  ·rw [List.getElem?_eq_none h] at hx; cases hx
 rw [List.find?_eq_some_iff_getElem]
 refine ⟨by simpa using he,k,hk,?_,?_⟩
 ·rw [List.getElem?_eq_getElem hk] at hx; cases hx; rfl
 ·intro j hj
  simpa using H j _ hj (List.getElem?_eq_getElem (by omega))
theorem rfindO_ok {B : Nat → Prop} {a : Option Addr} {c : Nat} (l : List Out) (by_ : Try4) (h : Heap) (S : SlF B h eOut a l) (hn : l.length ≤ maxLen) {R : Value → Heap → Prop}
  (hR : ∀ h',Ext h h' → R (.tuple #[.agg (eOut ((findO l by_).getD noOut)).toArray,.bool (findO l by_).isSome]) h') : CallsH Try.prog 64 [.slice a l.length c,.agg (eTry by_).toArray] h R := by
 unfold maxLen at hn
 refine f64ok (by simp) ?_
 (try simp (maxSteps:=1000000) (disch:=first|exact Lb rfl|omega) only [AXS,AXB,J.dst,reduceIte,Z1,Z2,Z3,Z4,Z5]); rw [f64c0_eq]; (try simp (maxSteps:=1000000) (disch:=first|exact Lb rfl|omega) only [AXS,AXB,J.dst,reduceIte,Z1,Z2,Z3,Z4,Z5,f64r0])
 refine wL_boxN rfl ?_; rintro b1 h1 x1 s1 hb1 (B1 : Blk _ _ _ (eTry by_))
 refine wL_newN ?_; rintro b2 h2 x2 s2 hb2 B2
 replace B1 := B1.ext x2
 have x02 := x1.trans x2
 (try simp (maxSteps:=1000000) (disch:=first|exact Lb rfl|omega) only [AXS,AXB,J.dst,reduceIte,Z1,Z2,Z3,Z4,Z5]); rw [f64c1_eq]; (try simp (maxSteps:=1000000) (disch:=first|exact Lb rfl|omega) only [AXS,AXB,J.dst,reduceIte,Z1,Z2,Z3,Z4,Z5,f64r1])
 rw [f64c2_eq]
 refine loop_in (fun m σ h' => h' = h2 ∧ ∃ k : Nat,k + m = l.length ∧ (∀ (j : Nat) (o : Out),j < k → l[j]? = some o → ¬ o.by_ = by_) ∧ σ = [(0,.slice a l.length c),(3,ptr b1 0),(4,ptr b2 0),(6,vi k)]) l.length ⟨rfl,0,by omega,by intros; omega,rfl⟩ ?_
 rintro m σ h' ⟨rfl,k,hk,hj,rfl⟩ Q' hnx hex hrt _
 (try simp (maxSteps:=1000000) (disch:=first|exact Lb rfl|omega) only [AXS,AXB,J.dst,reduceIte,Z1,Z2,Z3,Z4,Z5]); rw [f64c3_eq]; (try simp (maxSteps:=1000000) (disch:=first|exact Lb rfl|omega) only [AXS,AXB,J.dst,reduceIte,Z1,Z2,Z3,Z4,Z5,f64r2]); rw [f64c4_eq]; (try simp (maxSteps:=1000000) (disch:=first|exact Lb rfl|omega) only [AXS,AXB,J.dst,reduceIte,Z1,Z2,Z3,Z4,Z5])
 refine ⟨fun hh => ?_,fun hh => ?_⟩
 ·have hkl : k < l.length := by have := of_decide_eq_true hh; omega
  obtain ⟨x,hx⟩ := get_ex hkl
  obtain ⟨b,o,rfl,_,hrow⟩ := (S.ext x02).elem eOut_len hx
  have q1 := hrow.lt (by rw [eOut_len]; omega)
  have q2 := B1.lt
  (try simp (maxSteps:=1000000) (disch:=first|exact Lb rfl|omega) only [AXS,AXB,J.dst,reduceIte,Z1,Z2,Z3,Z4,Z5]); rw [f64c5_eq]; (try simp (maxSteps:=1000000) (disch:=first|exact Lb rfl|omega) only [AXS,AXB,J.dst,reduceIte,Z1,Z2,Z3,Z4,Z5])
  rw [f64c6_eq]
  refine drw_lt ?_
  simp (maxSteps:=1000000) (disch:=first|exact Lb rfl|omega) only [AXS,AXB,J.dst,reduceIte,Z1,Z2,Z3,Z4,Z5,f64r3,row_out hrow,B1.rd,eTry,eqA_try]
  refine ⟨by omega,by omega,by omega,by omega,?_⟩
  rw [f64c7_eq]
  simp (maxSteps:=1000000) (disch:=first|exact Lb rfl|omega) only [AXS,AXB,J.dst,reduceIte,Z1,Z2,Z3,Z4,Z5]
  refine ⟨fun h7 => ?_,fun h7 => ?_⟩
  ·have he : x.by_ = by_ := of_decide_eq_true h7
   (try simp (maxSteps:=1000000) (disch:=first|exact Lb rfl|omega) only [AXS,AXB,J.dst,reduceIte,Z1,Z2,Z3,Z4,Z5]); rw [f64c8_eq]; (try simp (maxSteps:=1000000) (disch:=first|exact Lb rfl|omega) only [AXS,AXB,J.dst,reduceIte,Z1,Z2,Z3,Z4,Z5,f64r4,row_out hrow])
   refine ⟨by omega,by omega,?_⟩
   refine wL_stN rfl rfl rfl B2 (by decide) (eOut_one x) ?_
   rintro h3 u3 (B3 : Blk _ _ _ (eOut x))
   try simp (maxSteps:=1000000) (disch:=first|exact Lb rfl|omega) only [AXS,AXB,J.dst,reduceIte,Z1,Z2,Z3,Z4,Z5]
   refine hrt _ _ ?_
   simp (maxSteps:=1000000) (disch:=first|exact Lb rfl|omega) only [AXS,AXB,J.dst,reduceIte,Z1,Z2,Z3,Z4,Z5,B3.rd,eOut]
   have := hR h3 (u3.ext x02 (by omega))
   rw [findO_at hx he hj] at this
   exact this
  ·have he : ¬ x.by_ = by_ := of_decide_eq_false h7
   (try simp (maxSteps:=1000000) (disch:=first|exact Lb rfl|omega) only [AXS,AXB,J.dst,reduceIte,Z1,Z2,Z3,Z4,Z5]); rw [f64c9_eq]; (try simp (maxSteps:=1000000) (disch:=first|exact Lb rfl|omega) only [AXS,AXB,J.dst,reduceIte,Z1,Z2,Z3,Z4,Z5,f64r5])
   rw [i64_wrap (by omega) (by omega)]
   refine hnx (m - 1) _ _ (by omega) ⟨rfl,k + 1,by omega,?_,rfl⟩
   intro j o' hj' ho'
   rcases Nat.lt_or_ge j k with hlt | hge
   ·exact hj j o' hlt ho'
   ·have : j = k := by omega
    subst this
    rw [hx] at ho'; cases ho'; exact he
 ·have hkl : k = l.length := by have := of_decide_eq_false hh; omega
  subst hkl
  refine hex _ _ ?_
  (try simp (maxSteps:=1000000) (disch:=first|exact Lb rfl|omega) only [AXS,AXB,J.dst,reduceIte,Z1,Z2,Z3,Z4,Z5]); rw [f64c10_eq]; (try simp (maxSteps:=1000000) (disch:=first|exact Lb rfl|omega) only [AXS,AXB,J.dst,reduceIte,Z1,Z2,Z3,Z4,Z5,f64r6])
  refine wL_stN rfl rfl rfl B2 (by decide) (eOut_one noOut) ?_
  rintro h3 u3 (B3 : Blk _ _ _ (eOut noOut))
  try simp (maxSteps:=1000000) (disch:=first|exact Lb rfl|omega) only [AXS,AXB,J.dst,reduceIte,Z1,Z2,Z3,Z4,Z5]
  simp (maxSteps:=1000000) (disch:=first|exact Lb rfl|omega) only [AXS,AXB,J.dst,reduceIte,Z1,Z2,Z3,Z4,Z5,B3.rd,eOut]
  have := hR h3 (u3.ext x02 (by omega))
  rw [findO_none hj] at this
  exact this
/-- A command of the part's own epoch that is no lease. -/
theorem applyP_own (p : Prt) (c : Cmd) (hk : ¬ c.s.kind = 1) (h0 : ¬ p.s.epoch = 0) (he : c.s.epoch = p.s.epoch) : applyP p c = (if (doesP p c).2.s.err = 0 then doesP p c else (p,(doesP p c).2)) := by
 have hn : ¬ (p.s.epoch = 0 ∨ c.s.epoch ≠ p.s.epoch) := fun h => h.elim h0 (fun h => h he)
 unfold applyP
 simp only [if_neg hk,if_neg hn]
theorem does_prep (p : Prt) (c : Cmd) (hk : c.s.kind = 3) : doesP p c = prepP p c := by
 unfold doesP; rw [if_neg (by omega),if_pos hk]
end Go.Proofs.Ytefghfgmkndikaa
namespace Go.Proofs.Ytefghfgmkndikaa
open Go Go.AX
theorem apply_not {p : Prt} {c : Cmd} (h : (applyP p c).2.s.err ≠ 0) : (applyP p c).1 = p := by
 have key : ∀ r : Prt × Rep,(if r.2.s.err = 0 then r else (p,r.2)).2.s.err ≠ 0 → (if r.2.s.err = 0 then r else (p,r.2)).1 = p := by
  intro r
  split
  ·rename_i h'; intro h; exact absurd h' h
  ·intro _; rfl
 exact key _ h
end Go.Proofs.Ytefghfgmkndikaa
namespace Go.AX
open Go
theorem own_bsl0 {lo : Nat} {h : Heap} {b t s : Nat} (hb : lo ≤ b) (B : Blk h b t []) : Own lo h t s (some ⟨b,0,none⟩) 0 0 [] := Own.of_blk hb B (by simp) (Nat.le_refl _) (Nat.zero_le _) (by simp)
theorem slf_news {α : Type} {B : Nat → Prop} {h : Heap} {e : α → List Value} {a : Option Addr} {ds : List α} (S : SlF B h e a ds) : ds.length = 0 ∨ ∃ b q,a = some ⟨b,q,none⟩ ∧ Row h b q (ds.flatMap e) := by
 by_cases hv : ds = []
 ·left; rw [hv]; rfl
 ·obtain ⟨b,o,h1,_,h3⟩ := S hv
  exact .inr ⟨b,o,h1,h3⟩
theorem app_or {a : Option Addr} {b n : Nat} (A : ob a = ob (some ⟨b,0,none⟩) ∨ ∃ k,ob a = some k ∧ n ≤ k) : ∀ k,ob a = some k → k = b ∨ n ≤ k := by
 intro k hk
 rcases A with e | ⟨j,e,hj⟩
 ·left
  rw [hk] at e
  have : some k = some b := e
  cases this; rfl
 ·rw [hk] at e; cases e; exact .inr hj
end Go.AX
namespace Go.Proofs.Ytefghfgmkndikaa
open Go Go.AX
theorem rlocked_ok (l : Lck) (h : Heap) {R : Value → Heap → Prop} (hR : ∀ h',Ext h h' → R (.agg (eRp ⟨(lockedR l).s,none,0,0⟩).toArray) h') : CallsH Try.prog 128 [.agg (eLck l).toArray] h R := by
 refine f128ok (by simp) ?_
 (try simp (maxSteps:=1000000) (disch:=first|exact Lb rfl|omega) only [AXS,AXB,J.dst,reduceIte,Z1,Z2,Z3,Z4,Z5]); rw [f128c0_eq]; (try simp (maxSteps:=1000000) (disch:=first|exact Lb rfl|omega) only [AXS,AXB,J.dst,reduceIte,Z1,Z2,Z3,Z4,Z5,f128r0])
 refine wL_boxN rfl ?_; rintro b1 h1 e1 s1 hb1 (B1 : Blk _ _ _ (eLck l))
 refine wL_newN ?_; rintro b2 h2 e2 s2 hb2 B2
 replace B1 := B1.ext e2
 (try simp (maxSteps:=1000000) (disch:=first|exact Lb rfl|omega) only [AXS,AXB,J.dst,reduceIte,Z1,Z2,Z3,Z4,Z5]); rw [f128c1_eq]; (try simp (maxSteps:=1000000) (disch:=first|exact Lb rfl|omega) only [AXS,AXB,J.dst,reduceIte,Z1,Z2,Z3,Z4,Z5,f128r1,B1.cel,B1.rd,eLck])
 refine wL_stN rfl rfl rfl B2 (by decide) (eRp_one ⟨(lockedR l).s,none,0,0⟩) ?_
 rintro h3 u3 (B3 : Blk _ _ _ (eRp ⟨(lockedR l).s,none,0,0⟩))
 simp (maxSteps:=1000000) (disch:=first|exact Lb rfl|omega) only [AXS,AXB,J.dst,reduceIte,Z1,Z2,Z3,Z4,Z5,B3.rd,eRp]
 exact hR h3 (u3.ext (e1.trans e2) (by omega))
theorem rmax_ok (s t : Stamp) (h : Heap) {R : Value → Heap → Prop} (hR : ∀ h',Ext h h' → R (.agg (eStamp (maxS s t)).toArray) h') : CallsH Try.prog 99 [.agg (eStamp s).toArray,.agg (eStamp t).toArray] h R := by
 refine f99ok (by simp) ?_
 (try simp (maxSteps:=1000000) (disch:=first|exact Lb rfl|omega) only [AXS,AXB,J.dst,reduceIte,Z1,Z2,Z3,Z4,Z5]); rw [f99c0_eq]; (try simp (maxSteps:=1000000) (disch:=first|exact Lb rfl|omega) only [AXS,AXB,J.dst,reduceIte,Z1,Z2,Z3,Z4,Z5,f99r0])
 refine wL_boxN rfl ?_; rintro b1 h1 e1 s1 hb1 (B1 : Blk _ _ _ (eStamp s))
 refine wL_boxN rfl ?_; rintro b2 h2 e2 s2 hb2 (B2 : Blk _ _ _ (eStamp t))
 replace B1 := B1.ext e2
 refine wL_newN ?_; rintro b3 h3 e3 s3 hb3 B3
 replace B1 := B1.ext e3; replace B2 := B2.ext e3
 have e03 := (e1.trans e2).trans e3
 (try simp (maxSteps:=1000000) (disch:=first|exact Lb rfl|omega) only [AXS,AXB,J.dst,reduceIte,Z1,Z2,Z3,Z4,Z5]); rw [f99c1_eq]; (try simp (maxSteps:=1000000) (disch:=first|exact Lb rfl|omega) only [AXS,AXB,J.dst,reduceIte,Z1,Z2,Z3,Z4,Z5,f99r1,B1.rd,B2.rd,eStamp])
 refine rless_ok s t _ ?_
 intro h4 e4
 refine ⟨trivial,?_⟩
 replace B1 := B1.ext e4; replace B2 := B2.ext e4; replace B3 := B3.ext e4
 have s4 := e4.size
 try simp (maxSteps:=1000000) (disch:=first|exact Lb rfl|omega) only [AXS,AXB,J.dst,reduceIte,Z1,Z2,Z3,Z4,Z5]
 (try simp (maxSteps:=1000000) (disch:=first|exact Lb rfl|omega) only [AXS,AXB,J.dst,reduceIte,Z1,Z2,Z3,Z4,Z5]); rw [f99c2_eq]; (try simp (maxSteps:=1000000) (disch:=first|exact Lb rfl|omega) only [AXS,AXB,J.dst,reduceIte,Z1,Z2,Z3,Z4,Z5])
 refine ⟨fun hh => ?_,fun hh => ?_⟩
 ·(try simp (maxSteps:=1000000) (disch:=first|exact Lb rfl|omega) only [AXS,AXB,J.dst,reduceIte,Z1,Z2,Z3,Z4,Z5]); rw [f99c3_eq]; (try simp (maxSteps:=1000000) (disch:=first|exact Lb rfl|omega) only [AXS,AXB,J.dst,reduceIte,Z1,Z2,Z3,Z4,Z5,f99r2,B2.rd,eStamp])
  refine wL_stN rfl rfl rfl B3 (by decide) (eStamp_one t) ?_
  rintro h5 u5 (B5 : Blk _ _ _ (eStamp t))
  simp (maxSteps:=1000000) (disch:=first|exact Lb rfl|omega) only [AXS,AXB,J.dst,reduceIte,Z1,Z2,Z3,Z4,Z5,B5.rd,eStamp]
  have := hR h5 (u5.ext (e03.trans e4) (by omega))
  unfold maxS at this
  rw [hh] at this
  exact this
 ·(try simp (maxSteps:=1000000) (disch:=first|exact Lb rfl|omega) only [AXS,AXB,J.dst,reduceIte,Z1,Z2,Z3,Z4,Z5]); rw [f99c4_eq]; (try simp (maxSteps:=1000000) (disch:=first|exact Lb rfl|omega) only [AXS,AXB,J.dst,reduceIte,Z1,Z2,Z3,Z4,Z5,f99r3,B1.rd,eStamp])
  refine wL_stN rfl rfl rfl B3 (by decide) (eStamp_one s) ?_
  rintro h5 u5 (B5 : Blk _ _ _ (eStamp s))
  simp (maxSteps:=1000000) (disch:=first|exact Lb rfl|omega) only [AXS,AXB,J.dst,reduceIte,Z1,Z2,Z3,Z4,Z5,B5.rd,eStamp]
  have := hR h5 (u5.ext (e03.trans e4) (by omega))
  unfold maxS at this
  rw [hh] at this
  exact this
def OnceP (l : List Out) : Prop := (l.map (·.by_)).Nodup
theorem findO_none_iff (l : List Out) (by_ : Try4) : findO l by_ = none ↔ ∀ o ∈ l, ¬ o.by_ = by_ := by
 unfold findO
 rw [List.find?_eq_none]
 simp
theorem once_snoc {l : List Out} {k : Nat} {x : Out} (hx : l[k]? = some x) : OnceP (l.take (k + 1)) ↔ OnceP (l.take k) ∧ findO (l.take k) x.by_ = none := by
 unfold OnceP
 rw [List.take_add_one,hx,findO_none_iff]
 simp only [Option.toList_some,List.map_append,List.map_cons,List.map_nil]
 rw [List.nodup_append]
 constructor
 ·rintro ⟨h1,_,h3⟩
  refine ⟨h1,fun o ho e => ?_⟩
  exact h3 o.by_ (List.mem_map.2 ⟨o,ho,rfl⟩) x.by_ (by simp) e
 ·rintro ⟨h1,h2⟩
  refine ⟨h1,by simp,?_⟩
  intro a ha b hb e
  obtain ⟨o,ho,rfl⟩ := List.mem_map.1 ha
  simp at hb
  exact h2 o ho (by rw [e,hb])
theorem once_take {l : List Out} (k : Nat) (h : OnceP l) : OnceP (l.take k) := by
 unfold OnceP at *
 rw [List.map_take]
 exact List.Nodup.sublist (List.take_sublist _ _) h
theorem ronce_ok {B : Nat → Prop} {a : Option Addr} {c : Nat} (l : List Out) (h : Heap) (S : SlF B h eOut a l) (hn : l.length ≤ 1000000) (hc : l.length ≤ c) {R : Value → Heap → Prop}
  (hR : ∀ (b : Bool) h',(b = true ↔ OnceP l) → Ext h h' → R (.bool b) h') : CallsH Try.prog 103 [.slice a l.length c] h R := by
 refine f103ok (by simp) ?_
 (try simp (maxSteps:=1000000) (disch:=first|exact Lb rfl|omega) only [AXS,AXB,J.dst,reduceIte,Z1,Z2,Z3,Z4,Z5]); rw [f103c0_eq]; (try simp (maxSteps:=1000000) (disch:=first|exact Lb rfl|omega) only [AXS,AXB,J.dst,reduceIte,Z1,Z2,Z3,Z4,Z5,f103r0]); rw [f103c1_eq]; (try simp (maxSteps:=1000000) (disch:=first|exact Lb rfl|omega) only [AXS,AXB,J.dst,reduceIte,Z1,Z2,Z3,Z4,Z5,f103r1])
 rw [f103c2_eq]
 refine loop_in (fun m σ h' => Ext h h' ∧ ∃ k : Nat,k + m = l.length ∧ OnceP (l.take k) ∧ σ = [(0,.slice a l.length c),(3,vi k)]) l.length ⟨Ext.refl _,0,by omega,List.nodup_nil,rfl⟩ ?_
 rintro m σ h1 ⟨x1,k,hk,ho,rfl⟩ Q' hnx hex hrt _
 (try simp (maxSteps:=1000000) (disch:=first|exact Lb rfl|omega) only [AXS,AXB,J.dst,reduceIte,Z1,Z2,Z3,Z4,Z5]); rw [f103c3_eq]; (try simp (maxSteps:=1000000) (disch:=first|exact Lb rfl|omega) only [AXS,AXB,J.dst,reduceIte,Z1,Z2,Z3,Z4,Z5,f103r2]); rw [f103c4_eq]; (try simp (maxSteps:=1000000) (disch:=first|exact Lb rfl|omega) only [AXS,AXB,J.dst,reduceIte,Z1,Z2,Z3,Z4,Z5])
 refine ⟨fun hh => ?_,fun hh => ?_⟩
 ·have hkl : k < l.length := by have := of_decide_eq_true hh; omega
  obtain ⟨x,hx⟩ := get_ex hkl
  obtain ⟨b,o,rfl,_,hrow⟩ := (S.ext x1).elem eOut_len hx
  have q1 := hrow.lt (by rw [eOut_len]; omega)
  have S1 : SlF B h1 eOut (some ⟨b,o,none⟩) (l.take k) := by
   have := SlF.sub eOut_len (S.ext x1) (l := 0) (m := k) (c := c) (a' := some ⟨b,o,none⟩) hc (fun _ => by simp [Addr.add])
   simpa using this
  have hlk : (l.take k).length = k := by rw [List.length_take]; omega
  have hon := once_snoc hx
  have app : ∀ h4,Ext h1 h4 → wC Try.prog f103c7 (X.inBlock 1 (X.then (fun σ h => wC Try.prog f103c10 Q' σ h) Q')) [(0,.slice (some ⟨b,o,none⟩) l.length c),(3,vi k),(5,.bool (findO (l.take k) x.by_).isSome)] h4 := by
   intro h4 x4
   have x04 := x1.trans x4
   (try simp (maxSteps:=1000000) (disch:=first|exact Lb rfl|omega) only [AXS,AXB,J.dst,reduceIte,Z1,Z2,Z3,Z4,Z5]); rw [f103c7_eq]; (try simp (maxSteps:=1000000) (disch:=first|exact Lb rfl|omega) only [AXS,AXB,J.dst,reduceIte,Z1,Z2,Z3,Z4,Z5,f103r4]); rw [f103c8_eq]; (try simp (maxSteps:=1000000) (disch:=first|exact Lb rfl|omega) only [AXS,AXB,J.dst,reduceIte,Z1,Z2,Z3,Z4,Z5])
   refine ⟨fun q => ?_,fun q => ?_⟩
   ·(try simp (maxSteps:=1000000) (disch:=first|exact Lb rfl|omega) only [AXS,AXB,J.dst,reduceIte,Z1,Z2,Z3,Z4,Z5]); rw [f103c9_eq]; (try simp (maxSteps:=1000000) (disch:=first|exact Lb rfl|omega) only [AXS,AXB,J.dst,reduceIte,Z1,Z2,Z3,Z4,Z5,f103r5])
    refine hrt _ _ ?_
    simp (maxSteps:=1000000) (disch:=first|exact Lb rfl|omega) only [AXS,AXB,J.dst,reduceIte,Z1,Z2,Z3,Z4,Z5]
    refine hR false h4 ⟨fun h => (by cases h),fun h => ?_⟩ x04
    have := (hon.1 (once_take _ h)).2
    rw [this] at q
    cases q
   ·(try simp (maxSteps:=1000000) (disch:=first|exact Lb rfl|omega) only [AXS,AXB,J.dst,reduceIte,Z1,Z2,Z3,Z4,Z5]); rw [f103c10_eq]; (try simp (maxSteps:=1000000) (disch:=first|exact Lb rfl|omega) only [AXS,AXB,J.dst,reduceIte,Z1,Z2,Z3,Z4,Z5,f103r6])
    rw [i64_wrap (by omega) (by omega)]
    exact hnx (m - 1) _ _ (by omega) ⟨x04,k + 1,by omega,hon.2 ⟨ho,by simpa using q⟩,rfl⟩
  try simp (maxSteps:=1000000) (disch:=first|exact Lb rfl|omega) only [AXS,AXB,J.dst,reduceIte,Z1,Z2,Z3,Z4,Z5]
  rw [f103c5_eq,f103c6_eq]
  refine drt_lt ?_
  simp only [f103r3,wT_one,wT_alt,wT_nil]
  try simp (maxSteps:=1000000) (disch:=first|exact Lb rfl|omega) only [AXS,AXB,J.dst,reduceIte,Z1,Z2,Z3,Z4,Z5]
  refine slc_hi (u := k) (by omega) ?_
  try simp (maxSteps:=1000000) (disch:=first|exact Lb rfl|omega) only [AXS,AXB,J.dst,reduceIte,Z1,Z2,Z3,Z4,Z5,row_out hrow]
  refine ⟨by omega,by omega,q1,?_,?_⟩
  ·have := rfindO_ok (B := B) (a := some ⟨b,o,none⟩) (c := c) (l.take k) x.by_ h1 S1 (by rw [hlk]; unfold maxLen; omega) (R := ?_) ?_
   rw [hlk] at this
   exact this
   intro h2 x2
   refine ⟨kp_ext (Nat.le_refl _) x2,?_⟩
   try simp (maxSteps:=1000000) (disch:=first|exact Lb rfl|omega) only [AXS,AXB,J.dst,reduceIte,Z1,Z2,Z3,Z4,Z5]
   have z2 := x2.size
   refine wL_newD x2.size ?_; rintro b4 h3 x3 s3 hb4 B4
   try simp (maxSteps:=1000000) (disch:=first|exact Lb rfl|omega) only [AXS,AXB,J.dst,reduceIte,Z1,Z2,Z3,Z4,Z5]
   refine wL_stD rfl rfl (by omega) rfl B4 (by decide) (eOut_one _) ?_
   rintro h4 u4 -
   try simp (maxSteps:=1000000) (disch:=first|exact Lb rfl|omega) only [AXS,AXB,J.dst,reduceIte,Z1,Z2,Z3,Z4,Z5]
   exact app h4 (u4.ext (x2.trans x3) (by omega))
  ·refine wL_newD (Nat.le_refl _) ?_; rintro b4 h3 x3 s3 hb4 B4
   try simp (maxSteps:=1000000) (disch:=first|exact Lb rfl|omega) only [AXS,AXB,J.dst,reduceIte,Z1,Z2,Z3,Z4,Z5]
   have := rfindO_ok (B := B) (a := some ⟨b,o,none⟩) (c := c) (l.take k) x.by_ h3 (S1.ext x3) (by rw [hlk]; unfold maxLen; omega) (R := ?_) ?_
   rw [hlk] at this
   exact this
   intro h2 x2
   refine ⟨kp_ext x3.size x2,?_⟩
   try simp (maxSteps:=1000000) (disch:=first|exact Lb rfl|omega) only [AXS,AXB,J.dst,reduceIte,Z1,Z2,Z3,Z4,Z5]
   have z2 := x2.size
   refine wL_stD rfl rfl (by omega) rfl (B4.ext x2) (by decide) (eOut_one _) ?_
   rintro h4 u4 -
   try simp (maxSteps:=1000000) (disch:=first|exact Lb rfl|omega) only [AXS,AXB,J.dst,reduceIte,Z1,Z2,Z3,Z4,Z5]
   exact app h4 (u4.ext (x3.trans x2) (by omega))
 ·have hkl : k = l.length := by have := of_decide_eq_false hh; omega
  subst hkl
  refine hex _ _ ?_
  (try simp (maxSteps:=1000000) (disch:=first|exact Lb rfl|omega) only [AXS,AXB,J.dst,reduceIte,Z1,Z2,Z3,Z4,Z5]); rw [f103c11_eq]; (try simp (maxSteps:=1000000) (disch:=first|exact Lb rfl|omega) only [AXS,AXB,J.dst,reduceIte,Z1,Z2,Z3,Z4,Z5,f103r7])
  rw [List.take_length] at ho
  exact hR true h1 ⟨fun _ => ho,fun _ => rfl⟩ x1
theorem eqA_try2 (s : Try4) : eqA true [.i .i64,.i .i64,.i .i64,.i .i64] (.agg #[vi s.node,vi s.life,vi s.seq,vi s.attempt]) (.agg #[vi s.node,vi s.life,vi s.seq,vi s.attempt]) = some (.bool false) := by rw [eqA_tryN]; simp
theorem sameRep_ok {B B' : Nat → Prop} (rv qv : RpV) (r : Rep) (h : Heap) (e1 : rv.s = r.s) (n1 : rv.pn = r.pairs.length) (S1 : SlF B h ePai rv.pa r.pairs) (e2 : qv.s = r.s) (n2 : qv.pn = r.pairs.length) (S2 : SlF B' h ePai qv.pa r.pairs)
  (hn : r.pairs.length ≤ maxLen) {R : Value → Heap → Prop} (hR : ∀ h',Ext h h' → R (.bool true) h') : CallsH Try.prog 59 [.agg (eRp rv).toArray,.agg (eRp qv).toArray] h R := by
 unfold maxLen at hn
 refine f59ok (by simp) ?_
 (try simp (maxSteps:=1000000) (disch:=first|exact Lb rfl|omega) only [AXS,AXB,J.dst,reduceIte,Z1,Z2,Z3,Z4,Z5]); rw [f59c0_eq]; (try simp (maxSteps:=1000000) (disch:=first|exact Lb rfl|omega) only [AXS,AXB,J.dst,reduceIte,Z1,Z2,Z3,Z4,Z5,f59r0])
 refine wL_boxN rfl ?_; rintro b1 h1 x1 s1 hb1 (B1 : Blk _ _ _ (eRp rv))
 refine wL_boxN rfl ?_; rintro b2 h2 x2 s2 hb2 (B2 : Blk _ _ _ (eRp qv))
 replace B1 := B1.ext x2
 have x02 := x1.trans x2
 have hb1l := B1.lt
 have hb2l := B2.lt
 try simp (maxSteps:=1000000) (disch:=first|exact Lb rfl|omega) only [AXS,AXB,J.dst,reduceIte,Z1,Z2,Z3,Z4,Z5]
 rw [f59c1_eq]
 simp (maxSteps:=1000000) (disch:=first|exact Lb rfl|omega) only [AXJ,AXS,AXB,J.dst,reduceIte,Z1,Z2,Z3,Z4,Z5,↓br_TT,↓br_TF,↓br_FT,↓br_FF,f59r1,B1.cel,B1.rd,B2.cel,B2.rd,eRp,e1,e2,eqA_try2]
 simp (maxSteps:=1000000) (disch:=first|exact Lb rfl|omega) only [AXJ,AXS,AXB,J.dst,reduceIte,Z1,Z2,Z3,Z4,Z5,↓br_TT,↓br_TF,↓br_FT,↓br_FF,f59r1a,B1.cel,B2.cel,eRp,e1,e2]
 simp (maxSteps:=1000000) (disch:=first|exact Lb rfl|omega) only [AXJ,AXS,AXB,J.dst,reduceIte,Z1,Z2,Z3,Z4,Z5,↓br_TT,↓br_TF,↓br_FT,↓br_FF,f59r1b,B1.rd,B2.rd,eRp,e1,e2,eqA_stampE]
 simp (maxSteps:=1000000) (disch:=first|exact Lb rfl|omega) only [AXJ,AXS,AXB,J.dst,reduceIte,Z1,Z2,Z3,Z4,Z5,↓br_TT,↓br_TF,↓br_FT,↓br_FF,f59r1c,B1.cel,B2.cel,eRp,e1,e2]
 simp (maxSteps:=1000000) (disch:=first|exact Lb rfl|omega) only [AXJ,AXS,AXB,J.dst,reduceIte,Z1,Z2,Z3,Z4,Z5,↓br_TT,↓br_TF,↓br_FT,↓br_FF,f59r1d,B1.cel,B2.cel,eRp,e1,e2]
 simp (maxSteps:=1000000) (disch:=first|exact Lb rfl|omega) only [AXJ,AXS,AXB,J.dst,reduceIte,Z1,Z2,Z3,Z4,Z5,↓br_TT,↓br_TF,↓br_FT,↓br_FF,f59r1e,B1.cel,B2.cel,eRp,n1,n2]
 (try simp (maxSteps:=1000000) (disch:=first|exact Lb rfl|omega) only [AXS,AXB,J.dst,reduceIte,Z1,Z2,Z3,Z4,Z5]); rw [f59c2_eq]; (try simp (maxSteps:=1000000) (disch:=first|exact Lb rfl|omega) only [AXS,AXB,J.dst,reduceIte,Z1,Z2,Z3,Z4,Z5]); rw [f59c4_eq]; (try simp (maxSteps:=1000000) (disch:=first|exact Lb rfl|omega) only [AXS,AXB,J.dst,reduceIte,Z1,Z2,Z3,Z4,Z5,f59r3])
 rw [f59c5_eq]
 refine loop_in (fun m σ h' => h' = h2 ∧ ∃ k : Nat,k + m = r.pairs.length ∧ σ = [(2,ptr b1 0),(3,ptr b2 0),(5,vi k)]) r.pairs.length ⟨rfl,0,by omega,rfl⟩ ?_
 rintro m σ h' ⟨rfl,k,hk,rfl⟩ Q' hnx hex hrt _
 (try simp (maxSteps:=1000000) (disch:=first|exact Lb rfl|omega) only [AXS,AXB,J.dst,reduceIte,Z1,Z2,Z3,Z4,Z5]); rw [f59c6_eq]; (try simp (maxSteps:=1000000) (disch:=first|exact Lb rfl|omega) only [AXS,AXB,J.dst,reduceIte,Z1,Z2,Z3,Z4,Z5,f59r4,B1.cel,eRp,n1]); rw [f59c7_eq]; (try simp (maxSteps:=1000000) (disch:=first|exact Lb rfl|omega) only [AXS,AXB,J.dst,reduceIte,Z1,Z2,Z3,Z4,Z5,B1.cel,eRp,n1])
 refine ⟨fun hh => ?_,fun hh => ?_⟩
 ·have hkl : k < r.pairs.length := by have := of_decide_eq_true hh; omega
  obtain ⟨x,hx⟩ := get_ex hkl
  obtain ⟨c1,o1,r1,_,hrow1⟩ := (S1.ext x02).elem ePai_len hx
  obtain ⟨c2,o2,r2,_,hrow2⟩ := (S2.ext x02).elem ePai_len hx
  have m1 := hrow1.lt (by rw [ePai_len]; omega)
  have m2 := hrow2.lt (by rw [ePai_len]; omega)
  try simp (maxSteps:=1000000) (disch:=first|exact Lb rfl|omega) only [AXS,AXB,J.dst,reduceIte,Z1,Z2,Z3,Z4,Z5]
  rw [f59c8_eq,f59c9_eq]
  refine drw_lt ?_
  simp (maxSteps:=1000000) (disch:=first|exact Lb rfl|omega) only [AXS,AXB,J.dst,reduceIte,Z1,Z2,Z3,Z4,Z5,f59r5,B1.cel,B2.cel,eRp,n1,n2,r1,r2,row_pai hrow1,row_pai hrow2,eqA_paiN,decide_true]
  repeat (with_reducible refine And.intro (by intros; omega) ?_)
  rw [f59c10_eq]
  simp (maxSteps:=1000000) (disch:=first|exact Lb rfl|omega) only [AXS,AXB,J.dst,reduceIte,Z1,Z2,Z3,Z4,Z5]
  (try simp (maxSteps:=1000000) (disch:=first|exact Lb rfl|omega) only [AXS,AXB,J.dst,reduceIte,Z1,Z2,Z3,Z4,Z5]); rw [f59c12_eq]; (try simp (maxSteps:=1000000) (disch:=first|exact Lb rfl|omega) only [AXS,AXB,J.dst,reduceIte,Z1,Z2,Z3,Z4,Z5,f59r7])
  rw [i64_wrap (by omega) (by omega)]
  exact hnx (m - 1) _ _ (by omega) ⟨rfl,k + 1,by omega,rfl⟩
 ·refine hex _ _ ?_
  (try simp (maxSteps:=1000000) (disch:=first|exact Lb rfl|omega) only [AXS,AXB,J.dst,reduceIte,Z1,Z2,Z3,Z4,Z5]); rw [f59c13_eq]; (try simp (maxSteps:=1000000) (disch:=first|exact Lb rfl|omega) only [AXS,AXB,J.dst,reduceIte,Z1,Z2,Z3,Z4,Z5,f59r8])
  exact hR _ x02
set_option maxHeartbeats 4000000 in
theorem rpartC_ok {B : Nat → Prop} {n : Nat} (pv : PrV) (p : Prt) (h : Heap) (S : PrR B h pv p) (g : SzP n p) (hn : n ≤ 900000) {R : Value → Heap → Prop}
  (hR : ∀ pv' lo hc h',PrO h.size lo hc h' pv' p → Ext h h' → R (.agg (ePr pv').toArray) h') : CallsH Try.prog 55 [.agg (ePr pv).toArray] h R := by
 obtain ⟨z1,z2,z3,z4,z5,z6⟩ := szAll g.cells.sz hn
 have gr := g.records
 have gd := g.done
 have hbig : big = 1000000 := rfl
 refine f55ok (by simp) ?_
 (try simp (maxSteps:=1000000) (disch:=first|exact Lb rfl|omega) only [AXS,AXB,J.dst,reduceIte,Z1,Z2,Z3,Z4,Z5]); rw [f55c0_eq]; (try simp (maxSteps:=1000000) (disch:=first|exact Lb rfl|omega) only [AXS,AXB,J.dst,reduceIte,Z1,Z2,Z3,Z4,Z5,f55r0])
 refine wL_boxN rfl ?_; rintro b1 h1 e1 s1 hb1 (B1 : Blk _ _ _ (ePr pv))
 refine wL_newN ?_; rintro b2 h2 e2 s2 hb2 B2
 replace B1 := B1.ext e2
 have e02 := e1.trans e2
 (try simp (maxSteps:=1000000) (disch:=first|exact Lb rfl|omega) only [AXS,AXB,J.dst,reduceIte,Z1,Z2,Z3,Z4,Z5]); rw [f55c1_eq]; (try simp (maxSteps:=1000000) (disch:=first|exact Lb rfl|omega) only [AXS,AXB,J.dst,reduceIte,Z1,Z2,Z3,Z4,Z5,f55r1,B1.cel,ePr,S.cn])
 refine copy_ok p.cells _ (S.cells.ext e02) z5 z6 ?_
 intro ca cc h3 O3 e3
 refine ⟨trivial,?_⟩
 replace B1 := B1.ext e3; replace B2 := B2.ext e3
 try simp (maxSteps:=1000000) (disch:=first|exact Lb rfl|omega) only [AXS,AXB,J.dst,reduceIte,Z1,Z2,Z3,Z4,Z5]
 have hl3 := O3.row
 refine wL_stN rfl rfl rfl B1 (by rw [ePr_len]; exact Nat.le_of_ble_eq_true rfl) slice_one ?_
 rintro h4 u4 (B4 : Blk _ _ _ (ePr { pv with ca := ca,cn := p.cells.length,cc := cc }))
 replace B2 := u4.blk B2 (by omega)
 have e03 := e02.trans e3
 have e04 := u4.ext e03 (by omega)
 have O4 : OwnC h2.size h4 ca p.cells.length cc p.cells := O3.gr u4.gr (fun k hk => by cases hk; omega)
 have SR := S.records.ext e04
 have SD := S.done.ext e04
 have hrn := S.rn
 have hdn := S.dn
 have hb14 := B4.lt
 have hb24 := B2.lt
 have s3 := e3.size
 have s4 := u4.size
 have fin : ∀ h6 ra rc da dc,Ext h4 h6 → Own h4.size h6 126 7 ra p.records.length rc (p.records.flatMap eOut) → Own h4.size h6 126 7 da p.done.length dc (p.done.flatMap eOut) → (∀ k,ob ra = some k → ob da ≠ some k) →
   Blk h6 b1 116 (ePr ⟨pv.s,ca,p.cells.length,cc,pv.ra,pv.rn,pv.rc,pv.da,pv.dn,pv.dc⟩) →
   ∀ h8,Upd b1 h6 h8 → Blk h8 b1 116 (ePr ⟨pv.s,ca,p.cells.length,cc,ra,p.records.length,rc,da,p.done.length,dc⟩) → wC Try.prog f55c3 (endW [.cell 2 9] R) [(1,ptr b1 0),(2,ptr b2 0)] h8 := by
  intro h6 ra rc da dc e46 R6 D6 hap B6 h8 u8 B8
  have s6 := e46.size
  have hr6 := R6.ob
  have hd6 := D6.ob
  have C2 := u8.blk (B2.ext e46) (by omega)
  (try simp (maxSteps:=1000000) (disch:=first|exact Lb rfl|omega) only [AXS,AXB,J.dst,reduceIte,Z1,Z2,Z3,Z4,Z5]); rw [f55c3_eq]; (try simp (maxSteps:=1000000) (disch:=first|exact Lb rfl|omega) only [AXS,AXB,J.dst,reduceIte,Z1,Z2,Z3,Z4,Z5,f55r3,B8.rd,ePr])
  refine wL_stN rfl rfl rfl C2 (by decide) (ePr_one ⟨pv.s,ca,p.cells.length,cc,ra,p.records.length,rc,da,p.done.length,dc⟩) ?_
  rintro h9 u9 (B9 : Blk _ _ _ (ePr ⟨pv.s,ca,p.cells.length,cc,ra,p.records.length,rc,da,p.done.length,dc⟩))
  simp (maxSteps:=1000000) (disch:=first|exact Lb rfl|omega) only [AXS,AXB,J.dst,reduceIte,Z1,Z2,Z3,Z4,Z5,B9.rd,ePr]
  have O6 : PrO h.size h2.size h4 h6 ⟨pv.s,ca,p.cells.length,cc,ra,p.records.length,rc,da,p.done.length,dc⟩ p :=
   ⟨S.s,rfl,rfl,rfl,O4,⟨by omega,by omega,by omega⟩,fun b _ hb => e46.at_ b hb,R6.mono (by omega),D6.mono (by omega),fun k hk => by have := hr6 k hk; omega,fun k hk => by have := hd6 k hk; omega,hap⟩
  have nr : ∀ b,b < h4.size → ob ra ≠ some b := fun b hb e => by have := hr6 b e; omega
  have nd : ∀ b,b < h4.size → ob da ≠ some b := fun b hb e => by have := hd6 b e; omega
  have O9 := (O6.upd u8 (.inl (by omega)) (nr b1 (by omega)) (nd b1 (by omega))).upd u9 (.inl (by omega)) (nr b2 (by omega)) (nd b2 (by omega))
  exact hR ⟨pv.s,ca,p.cells.length,cc,ra,p.records.length,rc,da,p.done.length,dc⟩ _ _ h9 O9 (u9.ext (u8.ext (e04.trans e46) (by omega)) (by omega))
 have hflr := flatMap_length eOut_len p.records
 have hfld := flatMap_length eOut_len p.done
 have X := Ext.refl h4
 try simp (maxSteps:=1000000) (disch:=first|exact Lb rfl|omega) only [AXS,AXB,J.dst,reduceIte,Z1,Z2,Z3,Z4,Z5]
 rw [f55c2_eq]
 refine ⟨fun b => b < h4.size ∧ b ≠ b1,fun b hb => hb.1,?_⟩
 simp only [f55r2,wT_one,wT_alt,wT_nil]
 try simp (maxSteps:=1000000) (disch:=first|exact Lb rfl|omega) only [AXS,AXB,J.dst,reduceIte,Z1,Z2,Z3,Z4,Z5]
 have B := B4
 repeat
  first
   | (with_reducible refine And.intro ?_ ?_)
   | ((with_reducible refine wL_bslP (d := 7) (cs := []) ?_ ?_ ?_); rfl; (intro b hb; have := hb.1; omega); rintro b7 hy ey sy hb7 B7; have O7 := own_bsl0 (lo := h4.size) (s := 7) (by omega) B7; have zy := ey.size; replace B := B.ext ey; (try replace O11 := O11.ext ey); (try replace R10 := R10.ext ey); replace X := X.trans ey; (try simp (maxSteps:=1000000) (disch:=first|exact Lb rfl|omega) only [AXS,AXB,J.dst,reduceIte,Z1,Z2,Z3,Z4,Z5,B.cel,ePr,hrn,hdn]))
   | ((with_reducible refine wL_bslP (d := 11) (cs := []) ?_ ?_ ?_); rfl; (intro b hb; have := hb.1; omega); rintro b11 hy ey sy hb11 B11; have O11 := own_bsl0 (lo := h4.size) (s := 7) (by omega) B11; have zy := ey.size; replace B := B.ext ey; (try replace O7 := O7.ext ey); (try replace R10 := R10.ext ey); replace X := X.trans ey; (try simp (maxSteps:=1000000) (disch:=first|exact Lb rfl|omega) only [AXS,AXB,J.dst,reduceIte,Z1,Z2,Z3,Z4,Z5,B.cel,ePr,hrn,hdn]))
   | (rw [wL_raw]; refine raw_append slT114 rfl rfl rfl O7 hflr (slf_news (SR.ext X)) (one_flatMap eOut_one p.records) (by unfold maxLen; omega) (by omega) (by omega) ?_; intro a10 c10 hy R10 Gy A10; have K10 := app_or A10; have zy := Gy.size;
         refine ⟨fun b hb => Gy.at_ b (by have := hb.1; omega) (show some b ≠ some b7 from fun e => by cases e; have := hb.1; omega), ?_⟩; simp only [Nat.zero_add, List.nil_append] at R10 ⊢; have Q10 := R10.ob; replace B := Gy.blk B (show some b1 ≠ some b7 from fun e => by cases e; omega);
         (try replace O11 := O11.gr Gy (fun k hk e => by have h1 : some b11 = some k := hk; have h2 : some b7 = some k := e; cases h1; cases h2; omega)); replace X := Gy.ext X (fun k hk => by have h2 : some b7 = some k := hk; cases h2; omega); clear O7 A10; (try simp (maxSteps:=1000000) (disch:=first|exact Lb rfl|omega) only [AXS, AXB, J.dst, reduceIte, Z1, Z2, Z3, Z4, Z5, B.cel, ePr, hrn, hdn]))
   | (rw [wL_raw]; refine raw_append slT114 rfl rfl rfl O11 hfld (slf_news (SD.ext X)) (one_flatMap eOut_one p.done) (by unfold maxLen; omega) (by omega) (by omega) ?_; intro a14 c14 hy R14 Gy A14; have K14 := app_or A14; have zy := Gy.size;
         refine ⟨fun b hb => Gy.at_ b (by have := hb.1; omega) (show some b ≠ some b11 from fun e => by cases e; have := hb.1; omega), ?_⟩; simp only [Nat.zero_add, List.nil_append] at R14 ⊢; have Q14 := R14.ob; replace B := Gy.blk B (show some b1 ≠ some b11 from fun e => by cases e; omega);
         replace R10 := R10.gr Gy (fun k hk e => by have h2 : some b11 = some k := e; cases h2; have := K10 _ hk; have := Q10 _ hk; omega); replace X := Gy.ext X (fun k hk => by have h2 : some b11 = some k := hk; cases h2; omega); clear O11 A14; (try simp (maxSteps:=1000000) (disch:=first|exact Lb rfl|omega) only [AXS, AXB, J.dst, reduceIte, Z1, Z2, Z3, Z4, Z5, B.cel, ePr, hrn, hdn]))
   | (refine wL_stD rfl rfl (fun hb => hb.2 rfl) rfl B (by rw [ePr_len]; exact Nat.le_of_ble_eq_true rfl) slice_one ?_
      rintro h7 u7 (B7' : Blk _ _ _ (ePr { pv with ca := ca, cn := p.cells.length, cc := cc, ra := a10, rn := p.records.length, rc := c10 }))
      try simp (maxSteps:=1000000) (disch:=first|exact Lb rfl|omega) only [AXS, AXB, J.dst, reduceIte, Z1, Z2, Z3, Z4, Z5]
      refine wL_stD rfl rfl (fun hb => hb.2 rfl) rfl B7' (by rw [ePr_len]; exact Nat.le_of_ble_eq_true rfl) slice_one ?_
      rintro h8 u8 (B8 : Blk _ _ _ (ePr ⟨pv.s, ca, p.cells.length, cc, a10, p.records.length, c10, a14, p.done.length, c14⟩))
      try simp (maxSteps:=1000000) (disch:=first|exact Lb rfl|omega) only [AXS, AXB, J.dst, reduceIte, Z1, Z2, Z3, Z4, Z5]
      exact fin _ a10 c10 a14 c14 X R10 R14 (fun k hk hk' => by have := K10 k hk; have := Q10 k hk; have := K14 k hk'; have := Q14 k hk'; omega) B h8 ⟨u8.size.trans u7.size, fun b hb => (u8.ne b hb).trans (u7.ne b hb)⟩ B8)
   | simp (maxSteps:=1000000) (disch:=first|exact Lb rfl|omega) only [AXS,AXB,J.dst,reduceIte,Z1,Z2,Z3,Z4,Z5,B.cel,ePr,hrn,hdn]
end Go.Proofs.Ytefghfgmkndikaa
