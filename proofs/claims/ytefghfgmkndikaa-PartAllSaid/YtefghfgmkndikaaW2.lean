/-
  The walks and plain laws under the laws of one package: texts of mine put together, what they do not use left out (wip/tools/prune.py).
-/
import Derived.Test.YtefghfgmkndikaaW1
set_option linter.unusedSimpArgs false
set_option linter.unusedVariables false
open Nat renaming reduceEqDiff → Z1, reduceAdd → Z2, reduceMul → Z3, reduceLT → Z4, reduceLeDiff → Z5, le_of_ble_eq_true → Lb
namespace Go.Proofs.Ytefghfgmkndikaa
open Go.AX
set_option maxRecDepth 100000
def f42r0 : List I := [.op (.box 2 39 (.tmp 0)),
 .op (.box 3 39 (.tmp 1)),
 .op (.mov 4 (.const (.bool false))),
 .kp [2,3]]
def f42r1 : List I := [.op (.fad 5 0 (.tmp 2)),
 .op (.ld 6 none (.tmp 5)),
 .op (.fad 7 0 (.tmp 3)),
 .op (.ld 8 none (.tmp 7)),
 .op (.bin 9 .lss (.tmp 6) (.tmp 8)),
 .op (.mov 10 (.tmp 9)),
 .sc 10 false 13,
 .g 10 false (.fad 11 0 (.tmp 2)),
 .g 10 false (.ld 12 none (.tmp 11)),
 .g 10 false (.fad 13 0 (.tmp 3)),
 .g 10 false (.ld 14 none (.tmp 13)),
 .g 10 false (.bin 15 .eql (.tmp 12) (.tmp 14)),
 .g 10 false (.mov 16 (.tmp 15)),
 .sc 16 true 5,
 .g 16 true (.fad 17 1 (.tmp 2)),
 .g 16 true (.ld 18 none (.tmp 17)),
 .g 16 true (.fad 19 1 (.tmp 3)),
 .g 16 true (.ld 20 none (.tmp 19)),
 .g 16 true (.bin 21 .lss (.tmp 18) (.tmp 20)),
 .g 10 false (.pick 22 (.tmp 16) (.tmp 21) (.const (.bool false))),
 .op (.pick 23 (.tmp 10) (.const (.bool true)) (.tmp 22)),
 .kp [23],
 .op (.mov 4 (.tmp 23)),
 .kp [4]]
def f42c1 : C := (.seq (.reg f42r1) .ret)
def f42c0 : C := (.seq (.reg f42r0) f42c1)
theorem f42cmp : cmpF Try.prog Try.f42 [.l [.o 0,.o 1,.o 2,.kp [2,3]],
 .l [.o 0,.o 1,.o 2,.o 3,.o 4,.o 5,.sc 10 false 13,.o 6,.o 7,.o 8,.o 9,.o 10,.o 11,.sc 16 true 5,.o 12,.o 13,.o 14,.o 15,.o 16,.o 17,.o 18,.kp [23],.o 19,.kp [4]]] = some (f42c0,[.tmp 4]) := by kernel_rfl
theorem f42ok {args : List Value} {h : Heap} {R : Value → Heap → Prop} (hn : args.length ≤ 24) (H : wC Try.prog f42c0 (endW [.tmp 4] R) (envOf 0 args) h) : CallsH Try.prog 42 args h R :=
 fn_ok2 Try.func42 f42cmp hn H
section
variable {P : Program} {Q : X → Env → Heap → Prop} {σ : Env} {h : Heap}
theorem f42c1_eq : wC P f42c1 Q σ h = (wL P none f42r1 0 (fun σ h => Q .ret σ h) σ h) := rfl
theorem f42c0_eq : wC P f42c0 Q σ h = (wL P none f42r0 0 (fun σ h => wC P f42c1 Q σ h) σ h) := rfl
end
def f90r0 : List I := [.op (.box 2 39 (.tmp 0)),
 .op (.box 3 39 (.tmp 1)),
 .op (.mov 4 (.const (.bool false))),
 .kp [2,3]]
def f90r1 : List I := [.op (.fad 5 0 (.tmp 2)),
 .op (.ld 6 none (.tmp 5)),
 .op (.fad 7 0 (.tmp 3)),
 .op (.ld 8 none (.tmp 7)),
 .op (.fad 10 1 (.tmp 2)),
 .op (.ld 11 none (.tmp 10)),
 .op (.fad 12 1 (.tmp 3)),
 .op (.ld 13 none (.tmp 12)),
 .op (.call (some 9) 122 [(.tmp 6),(.tmp 8)]),
 .op (.call (some 14) 122 [(.tmp 11),(.tmp 13)]),
 .kp [9,14],
 .op (.bsl 15 3 2 [.int .i64 0,.int .i64 0] [(0,1,(.tmp 9)),(1,1,(.tmp 14))]),
 .op (.call (some 16) 121 [(.tmp 15)]),
 .op (.bin 17 .lss (.tmp 16) (.const (.int .i64 0))),
 .op (.mov 4 (.tmp 17)),
 .kp [4]]
def f90c1 : C := (.seq (.drw f90r1) .ret)
def f90c0 : C := (.seq (.reg f90r0) f90c1)
theorem f90cmp : cmpF Try.prog Try.f90 [.l [.o 0,.o 1,.o 2,.kp [2,3]],
 .l [.o 0,.o 1,.o 2,.o 3,.o 5,.o 6,.o 7,.o 8,.o 4,.o 9,.kp [9,14],.o 10,.o 11,.o 12,.o 13,.kp [4]]] = some (f90c0,[.tmp 4]) := by kernel_rfl
theorem f90ok {args : List Value} {h : Heap} {R : Value → Heap → Prop} (hn : args.length ≤ 18) (H : wC Try.prog f90c0 (endW [.tmp 4] R) (envOf 0 args) h) : CallsH Try.prog 90 args h R :=
 fn_ok2 Try.func90 f90cmp hn H
section
variable {P : Program} {Q : X → Env → Heap → Prop} {σ : Env} {h : Heap}
theorem f90c1_eq : wC P f90c1 Q σ h = (drwW P f90r1 (fun σ h => Q .ret σ h) σ h) := rfl
theorem f90c0_eq : wC P f90c0 Q σ h = (wL P none f90r0 0 (fun σ h => wC P f90c1 Q σ h) σ h) := rfl
end
def f91r0 : List I := [.op (.box 3 39 (.tmp 1)),
 .op (.mov 4 (.const (.int .i64 0))),
 .kp [0,3]]
def f91r1 : List I := [.op (.mov 6 (.tmp 0)),
 .op (.len 7 true (.tmp 6)),
 .op (.bin 8 .sub (.tmp 7) (.const (.int .i64 1))),
 .op (.mov 5 (.tmp 8)),
 .kp [0,3,5]]
def f91r2 : List I := [.op (.mov 9 (.tmp 5)),
 .op (.bin 10 .geq (.tmp 9) (.const (.int .i64 0))),
 .kp [0,3,5,10]]
def f91r3 : List I := [.op (.ld 13 (some 2) (.tmp 3)),
 .op (.mov 14 (.tmp 0)),
 .op (.mov 15 (.tmp 5)),
 .op (.iad 16 4 (.tmp 14) (.tmp 15)),
 .op (.fad 17 0 (.tmp 16)),
 .op (.ld 18 (some 2) (.tmp 17)),
 .op (.call (some 19) 90 [(.tmp 13),(.tmp 18)]),
 .op (.un 20 .not (.tmp 19)),
 .kp [0,3,5,20]]
def f91r4 : List I := [.op (.mov 21 (.tmp 5)),
 .op (.mov 4 (.tmp 21)),
 .kp [4]]
def f91r5 : List I := [.op (.mov 11 (.tmp 5)),
 .op (.bin 12 .sub (.tmp 11) (.const (.int .i64 1))),
 .op (.mov 5 (.tmp 12)),
 .kp [0,3,5]]
def f91r6 : List I := [.op (.mov 4 (.const (.int .i64 (-1)))),
 .kp [4]]
def f91c8 : C := (.seq (.reg f91r4) .ret)
def f91c7 : C := (.cond (.tmp 20) f91c8 .skip)
def f91c6 : C := (.seq (.drw f91r3) f91c7)
def f91c9 : C := (.reg f91r5)
def f91c5 : C := (.seq (.block 1 f91c6) f91c9)
def f91c4 : C := (.seq (.cond (.tmp 10) .skip (.exit 0)) f91c5)
def f91c3 : C := (.seq (.reg f91r2) f91c4)
def f91c10 : C := (.seq (.reg f91r6) .ret)
def f91c2 : C := (.seq (.block 0 (.loop f91c3)) f91c10)
def f91c1 : C := (.seq (.reg f91r1) f91c2)
def f91c0 : C := (.seq (.reg f91r0) f91c1)
theorem f91cmp : cmpF Try.prog Try.f91 [.l [.o 0,.o 1,.kp [0,3]],
 .l [.o 0,.o 1,.o 2,.o 3,.kp [0,3,5]],
 .l [.o 0,.o 1,.kp [0,3,5,10]],
 .l [.o 0,.o 1,.o 2,.o 3,.o 4,.o 5,.o 6,.o 7,.kp [0,3,5,20]],
 .l [.o 0,.o 1,.kp [4]],
 .l [.o 0,.o 1,.o 2,.kp [0,3,5]],
 .l [.o 0,.kp [4]]] = some (f91c0,[.tmp 4]) := by kernel_rfl
theorem f91ok {args : List Value} {h : Heap} {R : Value → Heap → Prop} (hn : args.length ≤ 22) (H : wC Try.prog f91c0 (endW [.tmp 4] R) (envOf 0 args) h) : CallsH Try.prog 91 args h R :=
 fn_ok2 Try.func91 f91cmp hn H
section
variable {P : Program} {Q : X → Env → Heap → Prop} {σ : Env} {h : Heap}
theorem f91c8_eq : wC P f91c8 Q σ h = (wL P none f91r4 0 (fun σ h => Q .ret σ h) σ h) := rfl
theorem f91c7_eq : wC P f91c7 Q σ h = (bd (evO σ (.tmp 20)) fun v => bd (asB v) fun t => br t (wC P f91c8 Q σ h) (Q .normal σ h)) := rfl
theorem f91c6_eq : wC P f91c6 Q σ h = (drwW P f91r3 (fun σ h => wC P f91c7 Q σ h) σ h) := rfl
theorem f91c9_eq : wC P f91c9 Q σ h = (wL P none f91r5 0 (fun σ h => Q .normal σ h) σ h) := rfl
theorem f91c5_eq : wC P f91c5 Q σ h = (wC P f91c6 (X.inBlock 1 (X.then (fun σ h => wC P f91c9 Q σ h) Q)) σ h) := rfl
theorem f91c4_eq : wC P f91c4 Q σ h = (bd (evO σ (.tmp 10)) fun v => bd (asB v) fun t => br t (wC P f91c5 Q σ h) (Q (.exit 0) σ h)) := rfl
theorem f91c3_eq : wC P f91c3 Q σ h = (wL P none f91r2 0 (fun σ h => wC P f91c4 Q σ h) σ h) := rfl
theorem f91c10_eq : wC P f91c10 Q σ h = (wL P none f91r6 0 (fun σ h => Q .ret σ h) σ h) := rfl
theorem f91c2_eq : wC P f91c2 Q σ h = (loopW (wC P f91c3) (X.inBlock 0 (X.then (fun σ h => wC P f91c10 Q σ h) Q)) σ h) := rfl
theorem f91c1_eq : wC P f91c1 Q σ h = (wL P none f91r1 0 (fun σ h => wC P f91c2 Q σ h) σ h) := rfl
theorem f91c0_eq : wC P f91c0 Q σ h = (wL P none f91r0 0 (fun σ h => wC P f91c1 Q σ h) σ h) := rfl
end
def f121r0 : List I := [.op (.mov 2 (.const (.int .i64 0))),
 .kp [0]]
def f121r1 : List I := [.op (.mov 3 (.const (.int .i64 0))),
 .kp [0,3]]
def f121r2 : List I := [.op (.mov 6 (.tmp 0)),
 .op (.len 7 true (.tmp 6)),
 .op (.mov 8 (.const (.int .i64 0))),
 .kp [3,6,7,8]]
def f121r3 : List I := [.op (.bin 9 .lss (.tmp 8) (.tmp 7)),
 .kp [3,6,7,8,9]]
def f121r4 : List I := [.op (.iad 10 1 (.tmp 6) (.tmp 8)),
 .op (.ld 11 none (.tmp 10)),
 .op (.mov 5 (.tmp 11)),
 .kp [3,5,6,7,8]]
def f121r5 : List I := [.op (.mov 12 (.tmp 5)),
 .op (.mov 13 (.tmp 3)),
 .op (.bin 14 .neq (.tmp 12) (.tmp 13)),
 .kp [3,5,6,7,8,14]]
def f121r6 : List I := [.op (.mov 15 (.tmp 5)),
 .op (.mov 2 (.tmp 15)),
 .kp [2]]
def f121r7 : List I := [.op (.bin 16 .add (.tmp 8) (.const (.int .i64 1))),
 .op (.mov 8 (.tmp 16)),
 .kp [3,6,7,8]]
def f121r8 : List I := [.op (.mov 17 (.tmp 3)),
 .op (.mov 2 (.tmp 17)),
 .kp [2]]
def f121c10 : C := (.seq (.reg f121r6) .ret)
def f121c9 : C := (.cond (.tmp 14) f121c10 .skip)
def f121c8 : C := (.seq (.reg f121r5) f121c9)
def f121c7 : C := (.seq (.reg f121r4) f121c8)
def f121c11 : C := (.reg f121r7)
def f121c6 : C := (.seq (.block 1 f121c7) f121c11)
def f121c5 : C := (.seq (.cond (.tmp 9) .skip (.exit 0)) f121c6)
def f121c4 : C := (.seq (.reg f121r3) f121c5)
def f121c12 : C := (.seq (.reg f121r8) .ret)
def f121c3 : C := (.seq (.block 0 (.loop f121c4)) f121c12)
def f121c2 : C := (.seq (.reg f121r2) f121c3)
def f121c1 : C := (.seq (.reg f121r1) f121c2)
def f121c0 : C := (.seq (.reg f121r0) f121c1)
theorem f121cmp : cmpF Try.prog Try.f121 [.l [.o 0,.kp [0]],
 .l [.o 0,.kp [0,3]],
 .l [.o 0,.o 1,.o 2,.kp [3,6,7,8]],
 .l [.o 0,.kp [3,6,7,8,9]],
 .l [.o 0,.o 1,.o 2,.kp [3,5,6,7,8]],
 .l [.o 0,.o 1,.o 2,.kp [3,5,6,7,8,14]],
 .l [.o 0,.o 1,.kp [2]],
 .l [.o 0,.o 1,.kp [3,6,7,8]],
 .l [.o 0,.o 1,.kp [2]]] = some (f121c0,[.tmp 2]) := by kernel_rfl
theorem f121ok {args : List Value} {h : Heap} {R : Value → Heap → Prop} (hn : args.length ≤ 18) (H : wC Try.prog f121c0 (endW [.tmp 2] R) (envOf 0 args) h) : CallsH Try.prog 121 args h R :=
 fn_ok2 Try.func121 f121cmp hn H
section
variable {P : Program} {Q : X → Env → Heap → Prop} {σ : Env} {h : Heap}
theorem f121c10_eq : wC P f121c10 Q σ h = (wL P none f121r6 0 (fun σ h => Q .ret σ h) σ h) := rfl
theorem f121c9_eq : wC P f121c9 Q σ h = (bd (evO σ (.tmp 14)) fun v => bd (asB v) fun t => br t (wC P f121c10 Q σ h) (Q .normal σ h)) := rfl
theorem f121c8_eq : wC P f121c8 Q σ h = (wL P none f121r5 0 (fun σ h => wC P f121c9 Q σ h) σ h) := rfl
theorem f121c7_eq : wC P f121c7 Q σ h = (wL P none f121r4 0 (fun σ h => wC P f121c8 Q σ h) σ h) := rfl
theorem f121c11_eq : wC P f121c11 Q σ h = (wL P none f121r7 0 (fun σ h => Q .normal σ h) σ h) := rfl
theorem f121c6_eq : wC P f121c6 Q σ h = (wC P f121c7 (X.inBlock 1 (X.then (fun σ h => wC P f121c11 Q σ h) Q)) σ h) := rfl
theorem f121c5_eq : wC P f121c5 Q σ h = (bd (evO σ (.tmp 9)) fun v => bd (asB v) fun t => br t (wC P f121c6 Q σ h) (Q (.exit 0) σ h)) := rfl
theorem f121c4_eq : wC P f121c4 Q σ h = (wL P none f121r3 0 (fun σ h => wC P f121c5 Q σ h) σ h) := rfl
theorem f121c12_eq : wC P f121c12 Q σ h = (wL P none f121r8 0 (fun σ h => Q .ret σ h) σ h) := rfl
theorem f121c3_eq : wC P f121c3 Q σ h = (loopW (wC P f121c4) (X.inBlock 0 (X.then (fun σ h => wC P f121c12 Q σ h) Q)) σ h) := rfl
theorem f121c2_eq : wC P f121c2 Q σ h = (wL P none f121r2 0 (fun σ h => wC P f121c3 Q σ h) σ h) := rfl
theorem f121c1_eq : wC P f121c1 Q σ h = (wL P none f121r1 0 (fun σ h => wC P f121c2 Q σ h) σ h) := rfl
theorem f121c0_eq : wC P f121c0 Q σ h = (wL P none f121r0 0 (fun σ h => wC P f121c1 Q σ h) σ h) := rfl
end
def f122r0 : List I := [.op (.mov 4 (.const (.int .i64 0))),
 .kp [0,1]]
def f122r1 : List I := [.op (.mov 7 (.tmp 0)),
 .op (.call (some 8) 141 [(.tmp 7)]),
 .op (.mov 5 (.tmp 8)),
 .kp [0,1,5]]
def f122r2 : List I := [.op (.mov 9 (.tmp 1)),
 .op (.call (some 10) 141 [(.tmp 9)]),
 .op (.mov 6 (.tmp 10)),
 .kp [0,1,5,6]]
def f122r3 : List I := [.op (.mov 11 (.tmp 5)),
 .kp [0,1,6,11]]
def f122r4 : List I := [.op (.mov 12 (.tmp 6)),
 .kp [12]]
def f122r5 : List I := [.op (.mov 4 (.const (.int .i64 0))),
 .kp [4]]
def f122r6 : List I := [.op (.mov 4 (.const (.int .i64 (-1)))),
 .kp [4]]
def f122r7 : List I := [.op (.mov 13 (.tmp 6)),
 .kp [0,1,13]]
def f122r8 : List I := [.op (.mov 4 (.const (.int .i64 1))),
 .kp [4]]
def f122r9 : List I := [.op (.mov 14 (.tmp 0)),
 .op (.mov 15 (.tmp 1)),
 .op (.bin 16 .lss (.tmp 14) (.tmp 15)),
 .kp [0,1,16]]
def f122r10 : List I := [.op (.mov 4 (.const (.int .i64 (-1)))),
 .kp [4]]
def f122r11 : List I := [.op (.mov 17 (.tmp 0)),
 .op (.mov 18 (.tmp 1)),
 .op (.bin 19 .gtr (.tmp 17) (.tmp 18)),
 .kp [19]]
def f122r12 : List I := [.op (.mov 4 (.const (.int .i64 1))),
 .kp [4]]
def f122r13 : List I := [.op (.mov 4 (.const (.int .i64 0))),
 .kp [4]]
def f122c7 : C := (.seq (.reg f122r5) .ret)
def f122c8 : C := (.seq (.reg f122r6) .ret)
def f122c6 : C := (.seq (.cond (.tmp 12) f122c7 .skip) f122c8)
def f122c5 : C := (.seq (.reg f122r4) f122c6)
def f122c11 : C := (.seq (.reg f122r8) .ret)
def f122c14 : C := (.seq (.reg f122r10) .ret)
def f122c17 : C := (.seq (.reg f122r12) .ret)
def f122c18 : C := (.seq (.reg f122r13) .ret)
def f122c16 : C := (.seq (.cond (.tmp 19) f122c17 .skip) f122c18)
def f122c15 : C := (.seq (.reg f122r11) f122c16)
def f122c13 : C := (.seq (.cond (.tmp 16) f122c14 .skip) f122c15)
def f122c12 : C := (.seq (.reg f122r9) f122c13)
def f122c10 : C := (.seq (.cond (.tmp 13) f122c11 .skip) f122c12)
def f122c9 : C := (.seq (.reg f122r7) f122c10)
def f122c4 : C := (.seq (.cond (.tmp 11) f122c5 .skip) f122c9)
def f122c3 : C := (.seq (.reg f122r3) f122c4)
def f122c2 : C := (.seq (.reg f122r2) f122c3)
def f122c1 : C := (.seq (.reg f122r1) f122c2)
def f122c0 : C := (.seq (.reg f122r0) f122c1)
theorem f122cmp : cmpF Try.prog Try.f122 [.l [.o 0,.kp [0,1]],
 .l [.o 0,.o 1,.o 2,.kp [0,1,5]],
 .l [.o 0,.o 1,.o 2,.kp [0,1,5,6]],
 .l [.o 0,.kp [0,1,6,11]],
 .l [.o 0,.kp [12]],
 .l [.o 0,.kp [4]],
 .l [.o 0,.kp [4]],
 .l [.o 0,.kp [0,1,13]],
 .l [.o 0,.kp [4]],
 .l [.o 0,.o 1,.o 2,.kp [0,1,16]],
 .l [.o 0,.kp [4]],
 .l [.o 0,.o 1,.o 2,.kp [19]],
 .l [.o 0,.kp [4]],
 .l [.o 0,.kp [4]]] = some (f122c0,[.tmp 4]) := by kernel_rfl
theorem f122ok {args : List Value} {h : Heap} {R : Value → Heap → Prop} (hn : args.length ≤ 20) (H : wC Try.prog f122c0 (endW [.tmp 4] R) (envOf 0 args) h) : CallsH Try.prog 122 args h R :=
 fn_ok2 Try.func122 f122cmp hn H
section
variable {P : Program} {Q : X → Env → Heap → Prop} {σ : Env} {h : Heap}
theorem f122c14_eq : wC P f122c14 Q σ h = (wL P none f122r10 0 (fun σ h => Q .ret σ h) σ h) := rfl
theorem f122c17_eq : wC P f122c17 Q σ h = (wL P none f122r12 0 (fun σ h => Q .ret σ h) σ h) := rfl
theorem f122c18_eq : wC P f122c18 Q σ h = (wL P none f122r13 0 (fun σ h => Q .ret σ h) σ h) := rfl
theorem f122c16_eq : wC P f122c16 Q σ h = (bd (evO σ (.tmp 19)) fun v => bd (asB v) fun t => br t (wC P f122c17 (X.then (fun σ h => wC P f122c18 Q σ h) Q) σ h) (wC P f122c18 Q σ h)) := rfl
theorem f122c15_eq : wC P f122c15 Q σ h = (wL P none f122r11 0 (fun σ h => wC P f122c16 Q σ h) σ h) := rfl
theorem f122c13_eq : wC P f122c13 Q σ h = (bd (evO σ (.tmp 16)) fun v => bd (asB v) fun t => br t (wC P f122c14 (X.then (fun σ h => wC P f122c15 Q σ h) Q) σ h) (wC P f122c15 Q σ h)) := rfl
theorem f122c12_eq : wC P f122c12 Q σ h = (wL P none f122r9 0 (fun σ h => wC P f122c13 Q σ h) σ h) := rfl
theorem f122c10_eq : wC P f122c10 Q σ h = (bd (evO σ (.tmp 13)) fun v => bd (asB v) fun t => br t (wC P f122c11 (X.then (fun σ h => wC P f122c12 Q σ h) Q) σ h) (wC P f122c12 Q σ h)) := rfl
theorem f122c9_eq : wC P f122c9 Q σ h = (wL P none f122r7 0 (fun σ h => wC P f122c10 Q σ h) σ h) := rfl
theorem f122c4_eq : wC P f122c4 Q σ h = (bd (evO σ (.tmp 11)) fun v => bd (asB v) fun t => br t (wC P f122c5 (X.then (fun σ h => wC P f122c9 Q σ h) Q) σ h) (wC P f122c9 Q σ h)) := rfl
theorem f122c3_eq : wC P f122c3 Q σ h = (wL P none f122r3 0 (fun σ h => wC P f122c4 Q σ h) σ h) := rfl
theorem f122c2_eq : wC P f122c2 Q σ h = (wL P none f122r2 0 (fun σ h => wC P f122c3 Q σ h) σ h) := rfl
theorem f122c1_eq : wC P f122c1 Q σ h = (wL P none f122r1 0 (fun σ h => wC P f122c2 Q σ h) σ h) := rfl
theorem f122c0_eq : wC P f122c0 Q σ h = (wL P none f122r0 0 (fun σ h => wC P f122c1 Q σ h) σ h) := rfl
end
def f141r0 : List I := [.op (.mov 2 (.const (.bool false))),
 .kp [0]]
def f141r1 : List I := [.op (.mov 3 (.tmp 0)),
 .op (.mov 4 (.tmp 0)),
 .op (.bin 5 .neq (.tmp 3) (.tmp 4)),
 .op (.mov 2 (.tmp 5)),
 .kp [2]]
def f141c1 : C := (.seq (.reg f141r1) .ret)
def f141c0 : C := (.seq (.reg f141r0) f141c1)
theorem f141cmp : cmpF Try.prog Try.f141 [.l [.o 0,.kp [0]],
 .l [.o 0,.o 1,.o 2,.o 3,.kp [2]]] = some (f141c0,[.tmp 2]) := by kernel_rfl
theorem f141ok {args : List Value} {h : Heap} {R : Value → Heap → Prop} (hn : args.length ≤ 6) (H : wC Try.prog f141c0 (endW [.tmp 2] R) (envOf 0 args) h) : CallsH Try.prog 141 args h R :=
 fn_ok2 Try.func141 f141cmp hn H
section
variable {P : Program} {Q : X → Env → Heap → Prop} {σ : Env} {h : Heap}
theorem f141c1_eq : wC P f141c1 Q σ h = (wL P none f141r1 0 (fun σ h => Q .ret σ h) σ h) := rfl
theorem f141c0_eq : wC P f141c0 Q σ h = (wL P none f141r0 0 (fun σ h => wC P f141c1 Q σ h) σ h) := rfl
end
def f89r0 : List I := [.op (.box 2 103 (.tmp 0)),
 .op (.box 3 39 (.tmp 1)),
 .op (.mov 4 (.const (.string ⟨#[]⟩))),
 .op (.mov 5 (.const (.bool false))),
 .kp [2,3]]
def f89r1 : List I := [.op (.fad 7 1 (.tmp 2)),
 .op (.ld 8 none (.tmp 7)),
 .op (.ld 9 (some 2) (.tmp 3)),
 .op (.call (some 10) 91 [(.tmp 8),(.tmp 9)]),
 .op (.mov 6 (.tmp 10)),
 .kp [2,6]]
def f89r2 : List I := [.op (.mov 11 (.tmp 6)),
 .op (.bin 12 .lss (.tmp 11) (.const (.int .i64 0))),
 .op (.mov 13 (.tmp 12)),
 .sc 13 false 6,
 .g 13 false (.fad 14 1 (.tmp 2)),
 .g 13 false (.ld 15 none (.tmp 14)),
 .g 13 false (.mov 16 (.tmp 6)),
 .g 13 false (.iad 17 4 (.tmp 15) (.tmp 16)),
 .g 13 false (.fad 18 2 (.tmp 17)),
 .g 13 false (.ld 19 none (.tmp 18)),
 .op (.pick 20 (.tmp 13) (.const (.bool true)) (.tmp 19)),
 .kp [2,6,20]]
def f89r3 : List I := [.op (.mov 4 (.const (.string ⟨#[]⟩))),
 .op (.mov 5 (.const (.bool false))),
 .kp [4,5]]
def f89r4 : List I := [.op (.fad 21 1 (.tmp 2)),
 .op (.ld 22 none (.tmp 21)),
 .op (.mov 23 (.tmp 6)),
 .op (.iad 24 4 (.tmp 22) (.tmp 23)),
 .op (.fad 25 3 (.tmp 24)),
 .op (.ld 26 none (.tmp 25)),
 .op (.mov 4 (.tmp 26)),
 .op (.mov 5 (.const (.bool true))),
 .kp [4,5]]
def f89c4 : C := (.seq (.reg f89r3) .ret)
def f89c5 : C := (.seq (.reg f89r4) .ret)
def f89c3 : C := (.seq (.cond (.tmp 20) f89c4 .skip) f89c5)
def f89c2 : C := (.seq (.reg f89r2) f89c3)
def f89c1 : C := (.seq (.reg f89r1) f89c2)
def f89c0 : C := (.seq (.reg f89r0) f89c1)
theorem f89cmp : cmpF Try.prog Try.f89 [.l [.o 0,.o 1,.o 2,.o 3,.kp [2,3]],
 .l [.o 0,.o 1,.o 2,.o 3,.o 4,.kp [2,6]],
 .l [.o 0,.o 1,.o 2,.sc 13 false 6,.o 3,.o 4,.o 5,.o 6,.o 7,.o 8,.o 9,.kp [2,6,20]],
 .l [.o 0,.o 1,.kp [4,5]],
 .l [.o 0,.o 1,.o 2,.o 3,.o 4,.o 5,.o 6,.o 7,.kp [4,5]]] = some (f89c0,[.tmp 4,.tmp 5]) := by kernel_rfl
theorem f89ok {args : List Value} {h : Heap} {R : Value → Heap → Prop} (hn : args.length ≤ 27) (H : wC Try.prog f89c0 (endW [.tmp 4,.tmp 5] R) (envOf 0 args) h) : CallsH Try.prog 89 args h R :=
 fn_ok2 Try.func89 f89cmp hn H
section
variable {P : Program} {Q : X → Env → Heap → Prop} {σ : Env} {h : Heap}
theorem f89c4_eq : wC P f89c4 Q σ h = (wL P none f89r3 0 (fun σ h => Q .ret σ h) σ h) := rfl
theorem f89c5_eq : wC P f89c5 Q σ h = (wL P none f89r4 0 (fun σ h => Q .ret σ h) σ h) := rfl
theorem f89c3_eq : wC P f89c3 Q σ h = (bd (evO σ (.tmp 20)) fun v => bd (asB v) fun t => br t (wC P f89c4 (X.then (fun σ h => wC P f89c5 Q σ h) Q) σ h) (wC P f89c5 Q σ h)) := rfl
theorem f89c2_eq : wC P f89c2 Q σ h = (wL P none f89r2 0 (fun σ h => wC P f89c3 Q σ h) σ h) := rfl
theorem f89c1_eq : wC P f89c1 Q σ h = (wL P none f89r1 0 (fun σ h => wC P f89c2 Q σ h) σ h) := rfl
theorem f89c0_eq : wC P f89c0 Q σ h = (wL P none f89r0 0 (fun σ h => wC P f89c1 Q σ h) σ h) := rfl
end
def f107r0 : List I := [.op (.box 2 103 (.tmp 0)),
 .op (.box 3 39 (.tmp 1)),
 .op (.mov 4 (.const (.string ⟨#[]⟩))),
 .op (.mov 5 (.const (.bool false))),
 .kp [2,3]]
def f107r1 : List I := [.op (.mov 6 (.const (.string ⟨#[]⟩))),
 .op (.mov 7 (.const (.bool false))),
 .kp [2,3,6,7]]
def f107r2 : List I := [.op (.mov 8 (.const (.int .i64 0))),
 .kp [2,3,6,7,8]]
def f107r3 : List I := [.op (.mov 10 (.tmp 8)),
 .op (.fad 11 1 (.tmp 2)),
 .op (.ld 12 none (.tmp 11)),
 .op (.len 13 true (.tmp 12)),
 .op (.bin 14 .lss (.tmp 10) (.tmp 13)),
 .kp [2,3,6,7,8,14]]
def f107r4 : List I := [.op (.fad 17 1 (.tmp 2)),
 .op (.ld 18 none (.tmp 17)),
 .op (.mov 19 (.tmp 8)),
 .op (.iad 20 4 (.tmp 18) (.tmp 19)),
 .op (.ld 21 (some 4) (.tmp 20)),
 .op (.new 9 108 [.int .i64 0,.int .i64 0,.bool false,.string ⟨#[]⟩]),
 .op (.st 4 (.tmp 9) (.tmp 21)),
 .kp [2,3,6,7,8,9]]
def f107r5 : List I := [.op (.ld 22 (some 2) (.tmp 3)),
 .op (.fad 23 0 (.tmp 9)),
 .op (.ld 24 (some 2) (.tmp 23)),
 .op (.call (some 25) 42 [(.tmp 22),(.tmp 24)]),
 .op (.un 26 .not (.tmp 25)),
 .kp [2,3,6,7,8,9,26]]
def f107r6 : List I := [.op (.fad 27 3 (.tmp 9)),
 .op (.ld 28 none (.tmp 27)),
 .op (.fad 29 2 (.tmp 9)),
 .op (.ld 30 none (.tmp 29)),
 .op (.un 31 .not (.tmp 30)),
 .op (.mov 6 (.tmp 28)),
 .op (.mov 7 (.tmp 31)),
 .kp [2,3,6,7,8]]
def f107r7 : List I := [.op (.mov 15 (.tmp 8)),
 .op (.bin 16 .add (.tmp 15) (.const (.int .i64 1))),
 .op (.mov 8 (.tmp 16)),
 .kp [2,3,6,7,8]]
def f107r8 : List I := [.op (.mov 32 (.tmp 7)),
 .op (.un 33 .not (.tmp 32)),
 .kp [6,33]]
def f107r9 : List I := [.op (.mov 4 (.const (.string ⟨#[]⟩))),
 .op (.mov 5 (.const (.bool false))),
 .kp [4,5]]
def f107r10 : List I := [.op (.mov 34 (.tmp 6)),
 .op (.mov 4 (.tmp 34)),
 .op (.mov 5 (.const (.bool true))),
 .kp [4,5]]
def f107c10 : C := (.drw f107r6)
def f107c9 : C := (.cond (.tmp 26) f107c10 .skip)
def f107c8 : C := (.seq (.reg f107r5) f107c9)
def f107c7 : C := (.seq (.reg f107r4) f107c8)
def f107c11 : C := (.reg f107r7)
def f107c6 : C := (.seq (.block 1 f107c7) f107c11)
def f107c5 : C := (.seq (.cond (.tmp 14) .skip (.exit 0)) f107c6)
def f107c4 : C := (.seq (.reg f107r3) f107c5)
def f107c14 : C := (.seq (.reg f107r9) .ret)
def f107c15 : C := (.seq (.reg f107r10) .ret)
def f107c13 : C := (.seq (.cond (.tmp 33) f107c14 .skip) f107c15)
def f107c12 : C := (.seq (.reg f107r8) f107c13)
def f107c3 : C := (.seq (.block 0 (.loop f107c4)) f107c12)
def f107c2 : C := (.seq (.reg f107r2) f107c3)
def f107c1 : C := (.seq (.reg f107r1) f107c2)
def f107c0 : C := (.seq (.reg f107r0) f107c1)
theorem f107cmp : cmpF Try.prog Try.f107 [.l [.o 0,.o 1,.o 2,.o 3,.kp [2,3]],
 .l [.o 0,.o 1,.kp [2,3,6,7]],
 .l [.o 0,.kp [2,3,6,7,8]],
 .l [.o 0,.o 1,.o 2,.o 3,.o 4,.kp [2,3,6,7,8,14]],
 .l [.o 0,.o 1,.o 2,.o 3,.o 4,.o 5,.o 6,.kp [2,3,6,7,8,9]],
 .l [.o 0,.o 1,.o 2,.o 3,.o 4,.kp [2,3,6,7,8,9,26]],
 .l [.o 0,.o 1,.o 2,.o 3,.o 4,.o 5,.o 6,.kp [2,3,6,7,8]],
 .l [.o 0,.o 1,.o 2,.kp [2,3,6,7,8]],
 .l [.o 0,.o 1,.kp [6,33]],
 .l [.o 0,.o 1,.kp [4,5]],
 .l [.o 0,.o 1,.o 2,.kp [4,5]]] = some (f107c0,[.tmp 4,.tmp 5]) := by kernel_rfl
theorem f107ok {args : List Value} {h : Heap} {R : Value → Heap → Prop} (hn : args.length ≤ 35) (H : wC Try.prog f107c0 (endW [.tmp 4,.tmp 5] R) (envOf 0 args) h) : CallsH Try.prog 107 args h R :=
 fn_ok2 Try.func107 f107cmp hn H
section
variable {P : Program} {Q : X → Env → Heap → Prop} {σ : Env} {h : Heap}
theorem f107c10_eq : wC P f107c10 Q σ h = (drwW P f107r6 (fun σ h => Q .normal σ h) σ h) := rfl
theorem f107c9_eq : wC P f107c9 Q σ h = (bd (evO σ (.tmp 26)) fun v => bd (asB v) fun t => br t (wC P f107c10 Q σ h) (Q .normal σ h)) := rfl
theorem f107c8_eq : wC P f107c8 Q σ h = (wL P none f107r5 0 (fun σ h => wC P f107c9 Q σ h) σ h) := rfl
theorem f107c7_eq : wC P f107c7 Q σ h = (wL P none f107r4 0 (fun σ h => wC P f107c8 Q σ h) σ h) := rfl
theorem f107c11_eq : wC P f107c11 Q σ h = (wL P none f107r7 0 (fun σ h => Q .normal σ h) σ h) := rfl
theorem f107c6_eq : wC P f107c6 Q σ h = (wC P f107c7 (X.inBlock 1 (X.then (fun σ h => wC P f107c11 Q σ h) Q)) σ h) := rfl
theorem f107c5_eq : wC P f107c5 Q σ h = (bd (evO σ (.tmp 14)) fun v => bd (asB v) fun t => br t (wC P f107c6 Q σ h) (Q (.exit 0) σ h)) := rfl
theorem f107c4_eq : wC P f107c4 Q σ h = (wL P none f107r3 0 (fun σ h => wC P f107c5 Q σ h) σ h) := rfl
theorem f107c14_eq : wC P f107c14 Q σ h = (wL P none f107r9 0 (fun σ h => Q .ret σ h) σ h) := rfl
theorem f107c15_eq : wC P f107c15 Q σ h = (wL P none f107r10 0 (fun σ h => Q .ret σ h) σ h) := rfl
theorem f107c13_eq : wC P f107c13 Q σ h = (bd (evO σ (.tmp 33)) fun v => bd (asB v) fun t => br t (wC P f107c14 (X.then (fun σ h => wC P f107c15 Q σ h) Q) σ h) (wC P f107c15 Q σ h)) := rfl
theorem f107c12_eq : wC P f107c12 Q σ h = (wL P none f107r8 0 (fun σ h => wC P f107c13 Q σ h) σ h) := rfl
theorem f107c3_eq : wC P f107c3 Q σ h = (loopW (wC P f107c4) (X.inBlock 0 (X.then (fun σ h => wC P f107c12 Q σ h) Q)) σ h) := rfl
theorem f107c2_eq : wC P f107c2 Q σ h = (wL P none f107r2 0 (fun σ h => wC P f107c3 Q σ h) σ h) := rfl
theorem f107c1_eq : wC P f107c1 Q σ h = (wL P none f107r1 0 (fun σ h => wC P f107c2 Q σ h) σ h) := rfl
theorem f107c0_eq : wC P f107c0 Q σ h = (wL P none f107r0 0 (fun σ h => wC P f107c1 Q σ h) σ h) := rfl
end
def f108r0 : List I := [.op (.mov 4 (.const (.int .i64 0))),
 .kp [0,1]]
def f108r1 : List I := [.op (.mov 5 (.const (.int .i64 0))),
 .kp [0,1,5]]
def f108r2 : List I := [.op (.mov 6 (.tmp 5)),
 .op (.mov 7 (.tmp 0)),
 .op (.len 8 true (.tmp 7)),
 .op (.bin 9 .lss (.tmp 6) (.tmp 8)),
 .kp [0,1,5,9]]
def f108r3 : List I := [.op (.mov 12 (.tmp 0)),
 .op (.mov 13 (.tmp 5)),
 .op (.iad 14 12 (.tmp 12) (.tmp 13)),
 .op (.fad 15 0 (.tmp 14)),
 .op (.ld 16 none (.tmp 15)),
 .op (.mov 17 (.tmp 1)),
 .op (.bin 18 .eql (.tmp 16) (.tmp 17)),
 .kp [0,1,5,18]]
def f108r4 : List I := [.op (.mov 19 (.tmp 5)),
 .op (.mov 4 (.tmp 19)),
 .kp [4]]
def f108r5 : List I := [.op (.mov 10 (.tmp 5)),
 .op (.bin 11 .add (.tmp 10) (.const (.int .i64 1))),
 .op (.mov 5 (.tmp 11)),
 .kp [0,1,5]]
def f108r6 : List I := [.op (.mov 4 (.const (.int .i64 (-1)))),
 .kp [4]]
def f108c8 : C := (.seq (.reg f108r4) .ret)
def f108c7 : C := (.cond (.tmp 18) f108c8 .skip)
def f108c6 : C := (.seq (.reg f108r3) f108c7)
def f108c9 : C := (.reg f108r5)
def f108c5 : C := (.seq (.block 1 f108c6) f108c9)
def f108c4 : C := (.seq (.cond (.tmp 9) .skip (.exit 0)) f108c5)
def f108c3 : C := (.seq (.reg f108r2) f108c4)
def f108c10 : C := (.seq (.reg f108r6) .ret)
def f108c2 : C := (.seq (.block 0 (.loop f108c3)) f108c10)
def f108c1 : C := (.seq (.reg f108r1) f108c2)
def f108c0 : C := (.seq (.reg f108r0) f108c1)
theorem f108cmp : cmpF Try.prog Try.f108 [.l [.o 0,.kp [0,1]],
 .l [.o 0,.kp [0,1,5]],
 .l [.o 0,.o 1,.o 2,.o 3,.kp [0,1,5,9]],
 .l [.o 0,.o 1,.o 2,.o 3,.o 4,.o 5,.o 6,.kp [0,1,5,18]],
 .l [.o 0,.o 1,.kp [4]],
 .l [.o 0,.o 1,.o 2,.kp [0,1,5]],
 .l [.o 0,.kp [4]]] = some (f108c0,[.tmp 4]) := by kernel_rfl
theorem f108ok {args : List Value} {h : Heap} {R : Value → Heap → Prop} (hn : args.length ≤ 20) (H : wC Try.prog f108c0 (endW [.tmp 4] R) (envOf 0 args) h) : CallsH Try.prog 108 args h R :=
 fn_ok2 Try.func108 f108cmp hn H
section
variable {P : Program} {Q : X → Env → Heap → Prop} {σ : Env} {h : Heap}
theorem f108c8_eq : wC P f108c8 Q σ h = (wL P none f108r4 0 (fun σ h => Q .ret σ h) σ h) := rfl
theorem f108c7_eq : wC P f108c7 Q σ h = (bd (evO σ (.tmp 18)) fun v => bd (asB v) fun t => br t (wC P f108c8 Q σ h) (Q .normal σ h)) := rfl
theorem f108c6_eq : wC P f108c6 Q σ h = (wL P none f108r3 0 (fun σ h => wC P f108c7 Q σ h) σ h) := rfl
theorem f108c9_eq : wC P f108c9 Q σ h = (wL P none f108r5 0 (fun σ h => Q .normal σ h) σ h) := rfl
theorem f108c5_eq : wC P f108c5 Q σ h = (wC P f108c6 (X.inBlock 1 (X.then (fun σ h => wC P f108c9 Q σ h) Q)) σ h) := rfl
theorem f108c4_eq : wC P f108c4 Q σ h = (bd (evO σ (.tmp 9)) fun v => bd (asB v) fun t => br t (wC P f108c5 Q σ h) (Q (.exit 0) σ h)) := rfl
theorem f108c3_eq : wC P f108c3 Q σ h = (wL P none f108r2 0 (fun σ h => wC P f108c4 Q σ h) σ h) := rfl
theorem f108c10_eq : wC P f108c10 Q σ h = (wL P none f108r6 0 (fun σ h => Q .ret σ h) σ h) := rfl
theorem f108c2_eq : wC P f108c2 Q σ h = (loopW (wC P f108c3) (X.inBlock 0 (X.then (fun σ h => wC P f108c10 Q σ h) Q)) σ h) := rfl
theorem f108c1_eq : wC P f108c1 Q σ h = (wL P none f108r1 0 (fun σ h => wC P f108c2 Q σ h) σ h) := rfl
theorem f108c0_eq : wC P f108c0 Q σ h = (wL P none f108r0 0 (fun σ h => wC P f108c1 Q σ h) σ h) := rfl
end
def f118r0 : List I := [.op (.mov 4 (.const (.int .i64 0))),
 .kp [0,1]]
def f118r1 : List I := [.op (.mov 5 (.tmp 0)),
 .op (.mov 6 (.tmp 1)),
 .op (.call (some 7) 139 [(.tmp 5),(.tmp 6)]),
 .op (.mov 4 (.tmp 7)),
 .kp [4]]
def f118c1 : C := (.seq (.reg f118r1) .ret)
def f118c0 : C := (.seq (.reg f118r0) f118c1)
theorem f118cmp : cmpF Try.prog Try.f118 [.l [.o 0,.kp [0,1]],
 .l [.o 0,.o 1,.o 2,.o 3,.kp [4]]] = some (f118c0,[.tmp 4]) := by kernel_rfl
theorem f118ok {args : List Value} {h : Heap} {R : Value → Heap → Prop} (hn : args.length ≤ 8) (H : wC Try.prog f118c0 (endW [.tmp 4] R) (envOf 0 args) h) : CallsH Try.prog 118 args h R :=
 fn_ok2 Try.func118 f118cmp hn H
section
variable {P : Program} {Q : X → Env → Heap → Prop} {σ : Env} {h : Heap}
theorem f118c1_eq : wC P f118c1 Q σ h = (wL P none f118r1 0 (fun σ h => Q .ret σ h) σ h) := rfl
theorem f118c0_eq : wC P f118c0 Q σ h = (wL P none f118r0 0 (fun σ h => wC P f118c1 Q σ h) σ h) := rfl
end
def f139r0 : List I := [.op (.mov 4 (.const (.int .i64 0))),
 .kp [0,1]]
def f139r1 : List I := [.op (.mov 5 (.tmp 0)),
 .op (.mov 6 (.tmp 1)),
 .op (.raw (some 7) ⟨(some 7), (.call ⟨(.value (.func 153)), #[(.tmp 5), (.tmp 6)], #[9, 9]⟩), 3, "compare_native.go:15", #[⟨0, .data⟩, ⟨1, .data⟩], none⟩),
 .op (.mov 4 (.tmp 7)),
 .kp [4]]
def f139c1 : C := (.seq (.reg f139r1) .ret)
def f139c0 : C := (.seq (.reg f139r0) f139c1)
theorem f139cmp : cmpF Try.prog Try.f139 [.l [.o 0,.kp [0,1]],
 .l [.o 0,.o 1,.o 2,.o 3,.kp [4]]] = some (f139c0,[.tmp 4]) := by kernel_rfl
theorem f139ok {args : List Value} {h : Heap} {R : Value → Heap → Prop} (hn : args.length ≤ 8) (H : wC Try.prog f139c0 (endW [.tmp 4] R) (envOf 0 args) h) : CallsH Try.prog 139 args h R :=
 fn_ok2 Try.func139 f139cmp hn H
section
variable {P : Program} {Q : X → Env → Heap → Prop} {σ : Env} {h : Heap}
theorem f139c1_eq : wC P f139c1 Q σ h = (wL P none f139r1 0 (fun σ h => Q .ret σ h) σ h) := rfl
theorem f139c0_eq : wC P f139c0 Q σ h = (wL P none f139r0 0 (fun σ h => wC P f139c1 Q σ h) σ h) := rfl
end
def f117r0 : List I := [.op (.box 2 103 (.tmp 0)),
 .op (.mov 4 (.const (.int .i64 0))),
 .kp [1,2]]
def f117r1 : List I := [.op (.fad 5 0 (.tmp 2)),
 .op (.ld 6 none (.tmp 5)),
 .op (.mov 7 (.tmp 1)),
 .op (.call (some 8) 118 [(.tmp 6),(.tmp 7)]),
 .op (.mov 4 (.tmp 8)),
 .kp [4]]
def f117c1 : C := (.seq (.reg f117r1) .ret)
def f117c0 : C := (.seq (.reg f117r0) f117c1)
theorem f117cmp : cmpF Try.prog Try.f117 [.l [.o 0,.o 1,.kp [1,2]],
 .l [.o 0,.o 1,.o 2,.o 3,.o 4,.kp [4]]] = some (f117c0,[.tmp 4]) := by kernel_rfl
theorem f117ok {args : List Value} {h : Heap} {R : Value → Heap → Prop} (hn : args.length ≤ 9) (H : wC Try.prog f117c0 (endW [.tmp 4] R) (envOf 0 args) h) : CallsH Try.prog 117 args h R :=
 fn_ok2 Try.func117 f117cmp hn H
theorem f117cal : callable Try.prog 117 = true := by kernel_rfl
section
variable {P : Program} {Q : X → Env → Heap → Prop} {σ : Env} {h : Heap}
theorem f117c1_eq : wC P f117c1 Q σ h = (wL P none f117r1 0 (fun σ h => Q .ret σ h) σ h) := rfl
theorem f117c0_eq : wC P f117c0 Q σ h = (wL P none f117r0 0 (fun σ h => wC P f117c1 Q σ h) σ h) := rfl
end
def f116r0 : List I := [.op (.mov 6 (.const (.int .i64 0))),
 .op (.mov 7 (.const (.bool false))),
 .kp [0,1,2]]
def f116r1 : List I := [.op (.mov 12 (.tmp 0)),
 .op (.len 13 true (.tmp 12)),
 .op (.mov 8 (.tmp 13)),
 .kp [0,1,2,8]]
def f116r2 : List I := [.op (.mov 14 (.tmp 8)),
 .op (.mov 9 (.const (.int .i64 0))),
 .op (.mov 10 (.tmp 14)),
 .kp [0,1,2,8,9,10]]
def f116r3 : List I := [.op (.mov 15 (.tmp 9)),
 .op (.mov 16 (.tmp 10)),
 .op (.bin 17 .lss (.tmp 15) (.tmp 16)),
 .kp [0,1,2,8,9,10,17]]
def f116r4 : List I := [.op (.mov 18 (.tmp 9)),
 .op (.mov 19 (.tmp 10)),
 .op (.bin 20 .add (.tmp 18) (.tmp 19)),
 .op (.cvt 21 .u64 (.tmp 20)),
 .op (.raw (some 22) ⟨(some 22), (.binOp .shr 193 (.tmp 21) (.const (.int .u64 1)) 193), 193, "sort.go:158", #[⟨3, .data⟩], none⟩),
 .op (.cvt 23 .i64 (.tmp 22)),
 .op (.mov 11 (.tmp 23)),
 .kp [0,1,2,8,9,10,11]]
def f116r5 : List I := [.op (.mov 24 (.tmp 2)),
 .op (.mov 25 (.tmp 0)),
 .op (.mov 26 (.tmp 11)),
 .op (.iad 27 12 (.tmp 25) (.tmp 26)),
 .op (.ld 28 (some 12) (.tmp 27)),
 .op (.mov 29 (.tmp 1)),
 .op (.cav (some 30) (.tmp 24) [(.tmp 28),(.tmp 29)]),
 .op (.bin 31 .lss (.tmp 30) (.const (.int .i64 0))),
 .kp [0,1,2,8,9,10,11,31]]
def f116r6 : List I := [.op (.mov 32 (.tmp 11)),
 .op (.bin 33 .add (.tmp 32) (.const (.int .i64 1))),
 .op (.mov 9 (.tmp 33)),
 .kp [0,1,2,8,9,10]]
def f116r7 : List I := [.op (.mov 34 (.tmp 11)),
 .op (.mov 10 (.tmp 34)),
 .kp [0,1,2,8,9,10]]
def f116r8 : List I := [.op (.mov 35 (.tmp 9)),
 .op (.mov 36 (.tmp 9)),
 .op (.mov 37 (.tmp 8)),
 .op (.bin 38 .lss (.tmp 36) (.tmp 37)),
 .op (.mov 39 (.tmp 38)),
 .sc 39 true 8,
 .g 39 true (.mov 40 (.tmp 2)),
 .g 39 true (.mov 41 (.tmp 0)),
 .g 39 true (.mov 42 (.tmp 9)),
 .g 39 true (.iad 43 12 (.tmp 41) (.tmp 42)),
 .g 39 true (.ld 44 (some 12) (.tmp 43)),
 .g 39 true (.mov 45 (.tmp 1)),
 .g 39 true (.cav (some 46) (.tmp 40) [(.tmp 44),(.tmp 45)]),
 .g 39 true (.bin 47 .eql (.tmp 46) (.const (.int .i64 0))),
 .op (.pick 48 (.tmp 39) (.tmp 47) (.const (.bool false))),
 .op (.mov 6 (.tmp 35)),
 .op (.mov 7 (.tmp 48)),
 .kp [6,7]]
def f116c10 : C := (.reg f116r6)
def f116c11 : C := (.reg f116r7)
def f116c9 : C := (.cond (.tmp 31) f116c10 f116c11)
def f116c8 : C := (.seq (.reg f116r5) f116c9)
def f116c7 : C := (.seq (.reg f116r4) f116c8)
def f116c6 : C := (.block 1 f116c7)
def f116c5 : C := (.seq (.cond (.tmp 17) .skip (.exit 0)) f116c6)
def f116c4 : C := (.seq (.reg f116r3) f116c5)
def f116c12 : C := (.seq (.reg f116r8) .ret)
def f116c3 : C := (.seq (.block 0 (.loop f116c4)) f116c12)
def f116c2 : C := (.seq (.reg f116r2) f116c3)
def f116c1 : C := (.seq (.reg f116r1) f116c2)
def f116c0 : C := (.seq (.reg f116r0) f116c1)
theorem f116cmp : cmpF Try.prog Try.f116 [.l [.o 0,.o 1,.kp [0,1,2]],
 .l [.o 0,.o 1,.o 2,.kp [0,1,2,8]],
 .l [.o 0,.o 1,.o 2,.kp [0,1,2,8,9,10]],
 .l [.o 0,.o 1,.o 2,.kp [0,1,2,8,9,10,17]],
 .l [.o 0,.o 1,.o 2,.o 3,.o 4,.o 5,.o 6,.kp [0,1,2,8,9,10,11]],
 .l [.o 0,.o 1,.o 2,.o 3,.o 4,.o 5,.o 6,.o 7,.kp [0,1,2,8,9,10,11,31]],
 .l [.o 0,.o 1,.o 2,.kp [0,1,2,8,9,10]],
 .l [.o 0,.o 1,.kp [0,1,2,8,9,10]],
 .l [.o 0,.o 1,.o 2,.o 3,.o 4,.sc 39 true 8,.o 5,.o 6,.o 7,.o 8,.o 9,.o 10,.o 11,.o 12,.o 13,.o 14,.o 15,.kp [6,7]]] = some (f116c0,[.tmp 6,.tmp 7]) := by kernel_rfl
theorem f116ok {args : List Value} {h : Heap} {R : Value → Heap → Prop} (hn : args.length ≤ 49) (H : wC Try.prog f116c0 (endW [.tmp 6,.tmp 7] R) (envOf 0 args) h) : CallsH Try.prog 116 args h R :=
 fn_ok2 Try.func116 f116cmp hn H
section
variable {P : Program} {Q : X → Env → Heap → Prop} {σ : Env} {h : Heap}
theorem f116c10_eq : wC P f116c10 Q σ h = (wL P none f116r6 0 (fun σ h => Q .normal σ h) σ h) := rfl
theorem f116c11_eq : wC P f116c11 Q σ h = (wL P none f116r7 0 (fun σ h => Q .normal σ h) σ h) := rfl
theorem f116c9_eq : wC P f116c9 Q σ h = (bd (evO σ (.tmp 31)) fun v => bd (asB v) fun t => br t (wC P f116c10 Q σ h) (wC P f116c11 Q σ h)) := rfl
theorem f116c8_eq : wC P f116c8 Q σ h = (wL P none f116r5 0 (fun σ h => wC P f116c9 Q σ h) σ h) := rfl
theorem f116c7_eq : wC P f116c7 Q σ h = (wL P none f116r4 0 (fun σ h => wC P f116c8 Q σ h) σ h) := rfl
theorem f116c6_eq : wC P f116c6 Q σ h = (wC P f116c7 (X.inBlock 1 Q) σ h) := rfl
theorem f116c5_eq : wC P f116c5 Q σ h = (bd (evO σ (.tmp 17)) fun v => bd (asB v) fun t => br t (wC P f116c6 Q σ h) (Q (.exit 0) σ h)) := rfl
theorem f116c4_eq : wC P f116c4 Q σ h = (wL P none f116r3 0 (fun σ h => wC P f116c5 Q σ h) σ h) := rfl
theorem f116c12_eq : wC P f116c12 Q σ h = (wL P none f116r8 0 (fun σ h => Q .ret σ h) σ h) := rfl
theorem f116c3_eq : wC P f116c3 Q σ h = (loopW (wC P f116c4) (X.inBlock 0 (X.then (fun σ h => wC P f116c12 Q σ h) Q)) σ h) := rfl
theorem f116c2_eq : wC P f116c2 Q σ h = (wL P none f116r2 0 (fun σ h => wC P f116c3 Q σ h) σ h) := rfl
theorem f116c1_eq : wC P f116c1 Q σ h = (wL P none f116r1 0 (fun σ h => wC P f116c2 Q σ h) σ h) := rfl
theorem f116c0_eq : wC P f116c0 Q σ h = (wL P none f116r0 0 (fun σ h => wC P f116c1 Q σ h) σ h) := rfl
end
def f87r0 : List I := [.op (.mov 4 (.const (.int .i64 0))),
 .op (.mov 5 (.const (.bool false))),
 .kp [0,1]]
def f87r1 : List I := [.op (.mov 6 (.tmp 0)),
 .op (.mov 7 (.tmp 1)),
 .op (.call (some 8) 116 [(.tmp 6),(.tmp 7),(.func 117)]),
 .op (.ext 9 (.tmp 8) 0),
 .op (.ext 10 (.tmp 8) 1),
 .op (.mov 4 (.tmp 9)),
 .op (.mov 5 (.tmp 10)),
 .kp [4,5]]
def f87c1 : C := (.seq (.reg f87r1) .ret)
def f87c0 : C := (.seq (.reg f87r0) f87c1)
theorem f87cmp : cmpF Try.prog Try.f87 [.l [.o 0,.o 1,.kp [0,1]],
 .l [.o 0,.o 1,.o 2,.o 3,.o 4,.o 5,.o 6,.kp [4,5]]] = some (f87c0,[.tmp 4,.tmp 5]) := by kernel_rfl
theorem f87ok {args : List Value} {h : Heap} {R : Value → Heap → Prop} (hn : args.length ≤ 11) (H : wC Try.prog f87c0 (endW [.tmp 4,.tmp 5] R) (envOf 0 args) h) : CallsH Try.prog 87 args h R :=
 fn_ok2 Try.func87 f87cmp hn H
section
variable {P : Program} {Q : X → Env → Heap → Prop} {σ : Env} {h : Heap}
theorem f87c1_eq : wC P f87c1 Q σ h = (wL P none f87r1 0 (fun σ h => Q .ret σ h) σ h) := rfl
theorem f87c0_eq : wC P f87c0 Q σ h = (wL P none f87r0 0 (fun σ h => wC P f87c1 Q σ h) σ h) := rfl
end
end Go.Proofs.Ytefghfgmkndikaa
namespace Go.Proofs.Ytefghfgmkndikaa
open Go.AX
set_option maxRecDepth 100000
section
variable {P : Program} {Q : X → Env → Heap → Prop} {σ : Env} {h : Heap}
end
section
variable {P : Program} {Q : X → Env → Heap → Prop} {σ : Env} {h : Heap}
end
def f38r0 : List I := [.op (.box 3 37 (.tmp 1)),
 .op (.mov 4 (.const (.bool false))),
 .kp [0,3]]
def f38r1 : List I := [.op (.mov 5 (.tmp 0)),
 .op (.fn 6 83 [(.tmp 3)]),
 .op (.call (some 7) 82 [(.tmp 5),(.tmp 6)]),
 .op (.mov 4 (.tmp 7)),
 .kp [4]]
def f38c1 : C := (.seq (.reg f38r1) .ret)
def f38c0 : C := (.seq (.reg f38r0) f38c1)
theorem f38cmp : cmpF Try.prog Try.f38 [.l [.o 0,.o 1,.kp [0,3]],
 .l [.o 0,.o 1,.o 2,.o 3,.kp [4]]] = some (f38c0,[.tmp 4]) := by kernel_rfl
theorem f38ok {args : List Value} {h : Heap} {R : Value → Heap → Prop} (hn : args.length ≤ 8) (H : wC Try.prog f38c0 (endW [.tmp 4] R) (envOf 0 args) h) : CallsH Try.prog 38 args h R :=
 fn_ok2 Try.func38 f38cmp hn H
section
variable {P : Program} {Q : X → Env → Heap → Prop} {σ : Env} {h : Heap}
theorem f38c1_eq : wC P f38c1 Q σ h = (wL P none f38r1 0 (fun σ h => Q .ret σ h) σ h) := rfl
theorem f38c0_eq : wC P f38c0 Q σ h = (wL P none f38r0 0 (fun σ h => wC P f38c1 Q σ h) σ h) := rfl
end
def f83r0 : List I := [.op (.box 2 103 (.tmp 0)),
 .op (.mov 3 (.const (.bool false))),
 .kp [1,2]]
def f83r1 : List I := [.op (.fad 4 2 (.tmp 2)),
 .op (.ld 5 none (.tmp 4)),
 .op (.mov 6 (.tmp 5)),
 .sc 6 true 5,
 .g 6 true (.fad 7 3 (.tmp 2)),
 .g 6 true (.fad 8 0 (.tmp 7)),
 .g 6 true (.ld 9 (some 4) (.tmp 8)),
 .g 6 true (.ld 10 (some 4) (.tmp 1)),
 .g 6 true (.eqa 11 false [.i .i64,.i .i64,.i .i64,.i .i64] (.tmp 9) (.tmp 10)),
 .op (.pick 12 (.tmp 6) (.tmp 11) (.const (.bool false))),
 .op (.mov 3 (.tmp 12)),
 .kp [3]]
def f83c1 : C := (.seq (.reg f83r1) .ret)
def f83c0 : C := (.seq (.reg f83r0) f83c1)
theorem f83cmp : cmpF Try.prog Try.f83 [.l [.o 0,.o 1,.kp [1,2]],
 .l [.o 0,.o 1,.o 2,.sc 6 true 5,.o 3,.o 4,.o 5,.o 6,.o 7,.o 8,.o 9,.kp [3]]] = some (f83c0,[.tmp 3]) := by kernel_rfl
theorem f83ok {args : List Value} {h : Heap} {R : Value → Heap → Prop} (hn : args.length ≤ 13) (H : wC Try.prog f83c0 (endW [.tmp 3] R) (envOf 0 args) h) : CallsH Try.prog 83 args h R :=
 fn_ok2 Try.func83 f83cmp hn H
theorem f83cal : callable Try.prog 83 = true := by kernel_rfl
section
variable {P : Program} {Q : X → Env → Heap → Prop} {σ : Env} {h : Heap}
theorem f83c1_eq : wC P f83c1 Q σ h = (wL P none f83r1 0 (fun σ h => Q .ret σ h) σ h) := rfl
theorem f83c0_eq : wC P f83c0 Q σ h = (wL P none f83r0 0 (fun σ h => wC P f83c1 Q σ h) σ h) := rfl
end
def f82r0 : List I := [.op (.mov 4 (.const (.bool false))),
 .kp [0,1]]
def f82r1 : List I := [.op (.mov 5 (.tmp 0)),
 .op (.mov 6 (.tmp 1)),
 .op (.call (some 7) 113 [(.tmp 5),(.tmp 6)]),
 .op (.bin 8 .geq (.tmp 7) (.const (.int .i64 0))),
 .op (.mov 4 (.tmp 8)),
 .kp [4]]
def f82c1 : C := (.seq (.reg f82r1) .ret)
def f82c0 : C := (.seq (.reg f82r0) f82c1)
theorem f82cmp : cmpF Try.prog Try.f82 [.l [.o 0,.kp [0,1]],
 .l [.o 0,.o 1,.o 2,.o 3,.o 4,.kp [4]]] = some (f82c0,[.tmp 4]) := by kernel_rfl
theorem f82ok {args : List Value} {h : Heap} {R : Value → Heap → Prop} (hn : args.length ≤ 9) (H : wC Try.prog f82c0 (endW [.tmp 4] R) (envOf 0 args) h) : CallsH Try.prog 82 args h R :=
 fn_ok2 Try.func82 f82cmp hn H
section
variable {P : Program} {Q : X → Env → Heap → Prop} {σ : Env} {h : Heap}
theorem f82c1_eq : wC P f82c1 Q σ h = (wL P none f82r1 0 (fun σ h => Q .ret σ h) σ h) := rfl
theorem f82c0_eq : wC P f82c0 Q σ h = (wL P none f82r0 0 (fun σ h => wC P f82c1 Q σ h) σ h) := rfl
end
def f113r0 : List I := [.op (.mov 4 (.const (.int .i64 0))),
 .kp [0,1]]
def f113r1 : List I := [.op (.mov 6 (.tmp 0)),
 .op (.len 7 true (.tmp 6)),
 .op (.mov 8 (.const (.int .i64 0))),
 .kp [0,1,7,8]]
def f113r2 : List I := [.op (.bin 9 .lss (.tmp 8) (.tmp 7)),
 .kp [0,1,7,8,9]]
def f113r3 : List I := [.op (.mov 10 (.tmp 8)),
 .op (.mov 5 (.tmp 10)),
 .kp [0,1,5,7,8]]
def f113r4 : List I := [.op (.mov 11 (.tmp 1)),
 .op (.mov 12 (.tmp 0)),
 .op (.mov 13 (.tmp 5)),
 .op (.iad 14 12 (.tmp 12) (.tmp 13)),
 .op (.ld 15 (some 12) (.tmp 14)),
 .op (.cav (some 16) (.tmp 11) [(.tmp 15)]),
 .kp [0,1,5,7,8,16]]
def f113r5 : List I := [.op (.mov 17 (.tmp 5)),
 .op (.mov 4 (.tmp 17)),
 .kp [4]]
def f113r6 : List I := [.op (.bin 18 .add (.tmp 8) (.const (.int .i64 1))),
 .op (.mov 8 (.tmp 18)),
 .kp [0,1,7,8]]
def f113r7 : List I := [.op (.mov 4 (.const (.int .i64 (-1)))),
 .kp [4]]
def f113c9 : C := (.seq (.reg f113r5) .ret)
def f113c8 : C := (.cond (.tmp 16) f113c9 .skip)
def f113c7 : C := (.seq (.reg f113r4) f113c8)
def f113c6 : C := (.seq (.reg f113r3) f113c7)
def f113c10 : C := (.reg f113r6)
def f113c5 : C := (.seq (.block 1 f113c6) f113c10)
def f113c4 : C := (.seq (.cond (.tmp 9) .skip (.exit 0)) f113c5)
def f113c3 : C := (.seq (.reg f113r2) f113c4)
def f113c11 : C := (.seq (.reg f113r7) .ret)
def f113c2 : C := (.seq (.block 0 (.loop f113c3)) f113c11)
def f113c1 : C := (.seq (.reg f113r1) f113c2)
def f113c0 : C := (.seq (.reg f113r0) f113c1)
theorem f113cmp : cmpF Try.prog Try.f113 [.l [.o 0,.kp [0,1]],
 .l [.o 0,.o 1,.o 2,.kp [0,1,7,8]],
 .l [.o 0,.kp [0,1,7,8,9]],
 .l [.o 0,.o 1,.kp [0,1,5,7,8]],
 .l [.o 0,.o 1,.o 2,.o 3,.o 4,.o 5,.kp [0,1,5,7,8,16]],
 .l [.o 0,.o 1,.kp [4]],
 .l [.o 0,.o 1,.kp [0,1,7,8]],
 .l [.o 0,.kp [4]]] = some (f113c0,[.tmp 4]) := by kernel_rfl
theorem f113ok {args : List Value} {h : Heap} {R : Value → Heap → Prop} (hn : args.length ≤ 19) (H : wC Try.prog f113c0 (endW [.tmp 4] R) (envOf 0 args) h) : CallsH Try.prog 113 args h R :=
 fn_ok2 Try.func113 f113cmp hn H
section
variable {P : Program} {Q : X → Env → Heap → Prop} {σ : Env} {h : Heap}
theorem f113c9_eq : wC P f113c9 Q σ h = (wL P none f113r5 0 (fun σ h => Q .ret σ h) σ h) := rfl
theorem f113c8_eq : wC P f113c8 Q σ h = (bd (evO σ (.tmp 16)) fun v => bd (asB v) fun t => br t (wC P f113c9 Q σ h) (Q .normal σ h)) := rfl
theorem f113c7_eq : wC P f113c7 Q σ h = (wL P none f113r4 0 (fun σ h => wC P f113c8 Q σ h) σ h) := rfl
theorem f113c6_eq : wC P f113c6 Q σ h = (wL P none f113r3 0 (fun σ h => wC P f113c7 Q σ h) σ h) := rfl
theorem f113c10_eq : wC P f113c10 Q σ h = (wL P none f113r6 0 (fun σ h => Q .normal σ h) σ h) := rfl
theorem f113c5_eq : wC P f113c5 Q σ h = (wC P f113c6 (X.inBlock 1 (X.then (fun σ h => wC P f113c10 Q σ h) Q)) σ h) := rfl
theorem f113c4_eq : wC P f113c4 Q σ h = (bd (evO σ (.tmp 9)) fun v => bd (asB v) fun t => br t (wC P f113c5 Q σ h) (Q (.exit 0) σ h)) := rfl
theorem f113c3_eq : wC P f113c3 Q σ h = (wL P none f113r2 0 (fun σ h => wC P f113c4 Q σ h) σ h) := rfl
theorem f113c11_eq : wC P f113c11 Q σ h = (wL P none f113r7 0 (fun σ h => Q .ret σ h) σ h) := rfl
theorem f113c2_eq : wC P f113c2 Q σ h = (loopW (wC P f113c3) (X.inBlock 0 (X.then (fun σ h => wC P f113c11 Q σ h) Q)) σ h) := rfl
theorem f113c1_eq : wC P f113c1 Q σ h = (wL P none f113r1 0 (fun σ h => wC P f113c2 Q σ h) σ h) := rfl
theorem f113c0_eq : wC P f113c0 Q σ h = (wL P none f113r0 0 (fun σ h => wC P f113c1 Q σ h) σ h) := rfl
end
end Go.Proofs.Ytefghfgmkndikaa
namespace Go.Proofs.Ytefghfgmkndikaa
open Go.AX
set_option maxRecDepth 100000
def f114r0 : List I := [.op (.mov 2 (.const (.slice none 0 0))),
 .kp [0]]
def f114r1 : List I := [.op (.mov 3 (.tmp 0)),
 .op (.eqn 4 true false (.tmp 3) (.const (.slice none 0 0))),
 .kp [0,4]]
def f114r2 : List I := [.op (.mov 2 (.const (.slice none 0 0))),
 .kp [2]]
def f114r3 : List I := [.op (.bsl 5 108 0 [] []),
 .op (.mov 6 (.tmp 0)),
 .op (.raw (some 7) ⟨(some 7), (.call ⟨(.builtin .append), #[(.tmp 5), (.tmp 6)], #[101, 101]⟩), 101, "slices.go:362", #[⟨0, .data⟩, ⟨1, .data⟩], none⟩),
 .op (.mov 2 (.tmp 7)),
 .kp [2]]
def f114c3 : C := (.seq (.reg f114r2) .ret)
def f114c4 : C := (.seq (.reg f114r3) .ret)
def f114c2 : C := (.seq (.cond (.tmp 4) f114c3 .skip) f114c4)
def f114c1 : C := (.seq (.reg f114r1) f114c2)
def f114c0 : C := (.seq (.reg f114r0) f114c1)
theorem f114cmp : cmpF Try.prog Try.f114 [.l [.o 0,.kp [0]],
 .l [.o 0,.o 1,.kp [0,4]],
 .l [.o 0,.kp [2]],
 .l [.o 0,.o 1,.o 2,.o 3,.kp [2]]] = some (f114c0,[.tmp 2]) := by kernel_rfl
theorem f114ok {args : List Value} {h : Heap} {R : Value → Heap → Prop} (hn : args.length ≤ 8) (H : wC Try.prog f114c0 (endW [.tmp 2] R) (envOf 0 args) h) : CallsH Try.prog 114 args h R :=
 fn_ok2 Try.func114 f114cmp hn H
section
variable {P : Program} {Q : X → Env → Heap → Prop} {σ : Env} {h : Heap}
theorem f114c3_eq : wC P f114c3 Q σ h = (wL P none f114r2 0 (fun σ h => Q .ret σ h) σ h) := rfl
theorem f114c4_eq : wC P f114c4 Q σ h = (wL P none f114r3 0 (fun σ h => Q .ret σ h) σ h) := rfl
theorem f114c2_eq : wC P f114c2 Q σ h = (bd (evO σ (.tmp 4)) fun v => bd (asB v) fun t => br t (wC P f114c3 (X.then (fun σ h => wC P f114c4 Q σ h) Q) σ h) (wC P f114c4 Q σ h)) := rfl
theorem f114c1_eq : wC P f114c1 Q σ h = (wL P none f114r1 0 (fun σ h => wC P f114c2 Q σ h) σ h) := rfl
theorem f114c0_eq : wC P f114c0 Q σ h = (wL P none f114r0 0 (fun σ h => wC P f114c1 Q σ h) σ h) := rfl
end
def f84r0 : List I := [.op (.box 1 103 (.tmp 0)),
 .op (.new 2 103 [.string ⟨#[]⟩,.slice none 0 0,.bool false,.int .i64 0,.int .i64 0,.int .i64 0,.int .i64 0,.int .i64 0,.int .i64 0,.int .i64 0,.bool false,.string ⟨#[]⟩]),
 .kp [1,2]]
def f84r1 : List I := [.op (.fad 3 1 (.tmp 1)),
 .op (.ld 4 none (.tmp 3)),
 .op (.call (some 5) 114 [(.tmp 4)]),
 .op (.fad 6 1 (.tmp 1)),
 .op (.st 1 (.tmp 6) (.tmp 5)),
 .kp [1,2]]
def f84r2 : List I := [.op (.ld 7 (some 12) (.tmp 1)),
 .op (.st 12 (.tmp 2) (.tmp 7)),
 .kp [2]]
def f84c2 : C := (.seq (.reg f84r2) .ret)
def f84c1 : C := (.seq (.reg f84r1) f84c2)
def f84c0 : C := (.seq (.reg f84r0) f84c1)
theorem f84cmp : cmpF Try.prog Try.f84 [.l [.o 0,.o 1,.kp [1,2]],
 .l [.o 0,.o 1,.o 2,.o 3,.o 4,.kp [1,2]],
 .l [.o 0,.o 1,.kp [2]]] = some (f84c0,[.cell 2 12]) := by kernel_rfl
theorem f84ok {args : List Value} {h : Heap} {R : Value → Heap → Prop} (hn : args.length ≤ 8) (H : wC Try.prog f84c0 (endW [.cell 2 12] R) (envOf 0 args) h) : CallsH Try.prog 84 args h R :=
 fn_ok2 Try.func84 f84cmp hn H
section
variable {P : Program} {Q : X → Env → Heap → Prop} {σ : Env} {h : Heap}
theorem f84c2_eq : wC P f84c2 Q σ h = (wL P none f84r2 0 (fun σ h => Q .ret σ h) σ h) := rfl
theorem f84c1_eq : wC P f84c1 Q σ h = (wL P none f84r1 0 (fun σ h => wC P f84c2 Q σ h) σ h) := rfl
theorem f84c0_eq : wC P f84c0 Q σ h = (wL P none f84r0 0 (fun σ h => wC P f84c1 Q σ h) σ h) := rfl
end
def f86r0 : List I := [.op (.mov 2 (.const (.slice none 0 0))),
 .kp [0]]
def f86r1 : List I := [.op (.mov 3 (.const (.slice none 0 0))),
 .kp [0,3]]
def f86r2 : List I := [.op (.mov 6 (.tmp 0)),
 .op (.len 7 true (.tmp 6)),
 .op (.mov 8 (.const (.int .i64 0))),
 .kp [3,6,7,8]]
def f86r3 : List I := [.op (.bin 9 .lss (.tmp 8) (.tmp 7)),
 .kp [3,6,7,8,9]]
def f86r4 : List I := [.op (.iad 10 12 (.tmp 6) (.tmp 8)),
 .op (.ld 11 (some 12) (.tmp 10)),
 .op (.new 5 103 [.string ⟨#[]⟩,.slice none 0 0,.bool false,.int .i64 0,.int .i64 0,.int .i64 0,.int .i64 0,.int .i64 0,.int .i64 0,.int .i64 0,.bool false,.string ⟨#[]⟩]),
 .op (.st 12 (.tmp 5) (.tmp 11)),
 .kp [3,5,6,7,8]]
def f86r5 : List I := [.op (.mov 12 (.tmp 3)),
 .op (.ld 13 (some 12) (.tmp 5)),
 .op (.call (some 14) 84 [(.tmp 13)]),
 .op (.bsl 15 103 1 [.string ⟨#[]⟩,.slice none 0 0,.bool false,.int .i64 0,.int .i64 0,.int .i64 0,.int .i64 0,.int .i64 0,.int .i64 0,.int .i64 0,.bool false,.string ⟨#[]⟩] [(0,12,(.tmp 14))]),
 .op (.raw (some 16) ⟨(some 16), (.call ⟨(.builtin .append), #[(.tmp 12), (.tmp 15)], #[74, 74]⟩), 74, "mvcc.go:106", #[⟨0, .data⟩, ⟨3, .data⟩, ⟨2, .chain⟩], none⟩),
 .op (.mov 3 (.tmp 16)),
 .kp [3,6,7,8]]
def f86r6 : List I := [.op (.bin 17 .add (.tmp 8) (.const (.int .i64 1))),
 .op (.mov 8 (.tmp 17)),
 .kp [3,6,7,8]]
def f86r7 : List I := [.op (.mov 18 (.tmp 3)),
 .op (.mov 2 (.tmp 18)),
 .kp [2]]
def f86c8 : C := (.reg f86r5)
def f86c7 : C := (.seq (.reg f86r4) f86c8)
def f86c9 : C := (.reg f86r6)
def f86c6 : C := (.seq (.block 1 f86c7) f86c9)
def f86c5 : C := (.seq (.cond (.tmp 9) .skip (.exit 0)) f86c6)
def f86c4 : C := (.seq (.reg f86r3) f86c5)
def f86c10 : C := (.seq (.reg f86r7) .ret)
def f86c3 : C := (.seq (.block 0 (.loop f86c4)) f86c10)
def f86c2 : C := (.seq (.reg f86r2) f86c3)
def f86c1 : C := (.seq (.reg f86r1) f86c2)
def f86c0 : C := (.seq (.reg f86r0) f86c1)
theorem f86cmp : cmpF Try.prog Try.f86 [.l [.o 0,.kp [0]],
 .l [.o 0,.kp [0,3]],
 .l [.o 0,.o 1,.o 2,.kp [3,6,7,8]],
 .l [.o 0,.kp [3,6,7,8,9]],
 .l [.o 0,.o 1,.o 2,.o 3,.kp [3,5,6,7,8]],
 .l [.o 0,.o 1,.o 2,.o 3,.o 4,.o 5,.kp [3,6,7,8]],
 .l [.o 0,.o 1,.kp [3,6,7,8]],
 .l [.o 0,.o 1,.kp [2]]] = some (f86c0,[.tmp 2]) := by kernel_rfl
theorem f86ok {args : List Value} {h : Heap} {R : Value → Heap → Prop} (hn : args.length ≤ 19) (H : wC Try.prog f86c0 (endW [.tmp 2] R) (envOf 0 args) h) : CallsH Try.prog 86 args h R :=
 fn_ok2 Try.func86 f86cmp hn H
section
variable {P : Program} {Q : X → Env → Heap → Prop} {σ : Env} {h : Heap}
theorem f86c8_eq : wC P f86c8 Q σ h = (wL P none f86r5 0 (fun σ h => Q .normal σ h) σ h) := rfl
theorem f86c7_eq : wC P f86c7 Q σ h = (wL P none f86r4 0 (fun σ h => wC P f86c8 Q σ h) σ h) := rfl
theorem f86c9_eq : wC P f86c9 Q σ h = (wL P none f86r6 0 (fun σ h => Q .normal σ h) σ h) := rfl
theorem f86c6_eq : wC P f86c6 Q σ h = (wC P f86c7 (X.inBlock 1 (X.then (fun σ h => wC P f86c9 Q σ h) Q)) σ h) := rfl
theorem f86c5_eq : wC P f86c5 Q σ h = (bd (evO σ (.tmp 9)) fun v => bd (asB v) fun t => br t (wC P f86c6 Q σ h) (Q (.exit 0) σ h)) := rfl
theorem f86c4_eq : wC P f86c4 Q σ h = (wL P none f86r3 0 (fun σ h => wC P f86c5 Q σ h) σ h) := rfl
theorem f86c10_eq : wC P f86c10 Q σ h = (wL P none f86r7 0 (fun σ h => Q .ret σ h) σ h) := rfl
theorem f86c3_eq : wC P f86c3 Q σ h = (loopW (wC P f86c4) (X.inBlock 0 (X.then (fun σ h => wC P f86c10 Q σ h) Q)) σ h) := rfl
theorem f86c2_eq : wC P f86c2 Q σ h = (wL P none f86r2 0 (fun σ h => wC P f86c3 Q σ h) σ h) := rfl
theorem f86c1_eq : wC P f86c1 Q σ h = (wL P none f86r1 0 (fun σ h => wC P f86c2 Q σ h) σ h) := rfl
theorem f86c0_eq : wC P f86c0 Q σ h = (wL P none f86r0 0 (fun σ h => wC P f86c1 Q σ h) σ h) := rfl
end
def f48r0 : List I := [.op (.mov 2 (.const (.slice none 0 0))),
 .kp [0]]
def f48r1 : List I := [.op (.mov 3 (.const (.slice none 0 0))),
 .kp [0,3]]
def f48r2 : List I := [.op (.mov 4 (.const (.int .i64 0))),
 .kp [0,3,4]]
def f48r3 : List I := [.op (.mov 6 (.tmp 4)),
 .op (.mov 7 (.tmp 0)),
 .op (.len 8 true (.tmp 7)),
 .op (.bin 9 .lss (.tmp 6) (.tmp 8)),
 .kp [0,3,4,9]]
def f48r4 : List I := [.op (.mov 12 (.tmp 0)),
 .op (.mov 13 (.tmp 4)),
 .op (.iad 14 12 (.tmp 12) (.tmp 13)),
 .op (.ld 15 (some 12) (.tmp 14)),
 .op (.new 5 103 [.string ⟨#[]⟩,.slice none 0 0,.bool false,.int .i64 0,.int .i64 0,.int .i64 0,.int .i64 0,.int .i64 0,.int .i64 0,.int .i64 0,.bool false,.string ⟨#[]⟩]),
 .op (.st 12 (.tmp 5) (.tmp 15)),
 .kp [0,3,4,5]]
def f48r5 : List I := [.op (.bsl 16 108 0 [] []),
 .op (.fad 17 1 (.tmp 5)),
 .op (.ld 18 none (.tmp 17)),
 .op (.raw (some 19) ⟨(some 19), (.call ⟨(.builtin .append), #[(.tmp 16), (.tmp 18)], #[101, 101]⟩), 101, "ref.go:96", #[⟨0, .data⟩, ⟨2, .data⟩], none⟩),
 .op (.fad 20 1 (.tmp 5)),
 .op (.st 1 (.tmp 20) (.tmp 19)),
 .kp [0,3,4,5]]
def f48r6 : List I := [.op (.mov 21 (.tmp 3)),
 .op (.ld 22 (some 12) (.tmp 5)),
 .op (.bsl 23 103 1 [.string ⟨#[]⟩,.slice none 0 0,.bool false,.int .i64 0,.int .i64 0,.int .i64 0,.int .i64 0,.int .i64 0,.int .i64 0,.int .i64 0,.bool false,.string ⟨#[]⟩] [(0,12,(.tmp 22))]),
 .op (.raw (some 24) ⟨(some 24), (.call ⟨(.builtin .append), #[(.tmp 21), (.tmp 23)], #[74, 74]⟩), 74, "ref.go:97", #[⟨0, .data⟩, ⟨2, .data⟩], none⟩),
 .op (.mov 3 (.tmp 24)),
 .kp [0,3,4]]
def f48r7 : List I := [.op (.mov 10 (.tmp 4)),
 .op (.bin 11 .add (.tmp 10) (.const (.int .i64 1))),
 .op (.mov 4 (.tmp 11)),
 .kp [0,3,4]]
def f48r8 : List I := [.op (.mov 25 (.tmp 3)),
 .op (.mov 2 (.tmp 25)),
 .kp [2]]
def f48c9 : C := (.reg f48r6)
def f48c8 : C := (.seq (.reg f48r5) f48c9)
def f48c7 : C := (.seq (.reg f48r4) f48c8)
def f48c10 : C := (.reg f48r7)
def f48c6 : C := (.seq (.block 1 f48c7) f48c10)
def f48c5 : C := (.seq (.cond (.tmp 9) .skip (.exit 0)) f48c6)
def f48c4 : C := (.seq (.reg f48r3) f48c5)
def f48c11 : C := (.seq (.reg f48r8) .ret)
def f48c3 : C := (.seq (.block 0 (.loop f48c4)) f48c11)
def f48c2 : C := (.seq (.reg f48r2) f48c3)
def f48c1 : C := (.seq (.reg f48r1) f48c2)
def f48c0 : C := (.seq (.reg f48r0) f48c1)
theorem f48cmp : cmpF Try.prog Try.f48 [.l [.o 0,.kp [0]],
 .l [.o 0,.kp [0,3]],
 .l [.o 0,.kp [0,3,4]],
 .l [.o 0,.o 1,.o 2,.o 3,.kp [0,3,4,9]],
 .l [.o 0,.o 1,.o 2,.o 3,.o 4,.o 5,.kp [0,3,4,5]],
 .l [.o 0,.o 1,.o 2,.o 3,.o 4,.o 5,.kp [0,3,4,5]],
 .l [.o 0,.o 1,.o 2,.o 3,.o 4,.kp [0,3,4]],
 .l [.o 0,.o 1,.o 2,.kp [0,3,4]],
 .l [.o 0,.o 1,.kp [2]]] = some (f48c0,[.tmp 2]) := by kernel_rfl
theorem f48ok {args : List Value} {h : Heap} {R : Value → Heap → Prop} (hn : args.length ≤ 26) (H : wC Try.prog f48c0 (endW [.tmp 2] R) (envOf 0 args) h) : CallsH Try.prog 48 args h R :=
 fn_ok2 Try.func48 f48cmp hn H
section
variable {P : Program} {Q : X → Env → Heap → Prop} {σ : Env} {h : Heap}
theorem f48c9_eq : wC P f48c9 Q σ h = (wL P none f48r6 0 (fun σ h => Q .normal σ h) σ h) := rfl
theorem f48c8_eq : wC P f48c8 Q σ h = (wL P none f48r5 0 (fun σ h => wC P f48c9 Q σ h) σ h) := rfl
theorem f48c7_eq : wC P f48c7 Q σ h = (wL P none f48r4 0 (fun σ h => wC P f48c8 Q σ h) σ h) := rfl
theorem f48c10_eq : wC P f48c10 Q σ h = (wL P none f48r7 0 (fun σ h => Q .normal σ h) σ h) := rfl
theorem f48c6_eq : wC P f48c6 Q σ h = (wC P f48c7 (X.inBlock 1 (X.then (fun σ h => wC P f48c10 Q σ h) Q)) σ h) := rfl
theorem f48c5_eq : wC P f48c5 Q σ h = (bd (evO σ (.tmp 9)) fun v => bd (asB v) fun t => br t (wC P f48c6 Q σ h) (Q (.exit 0) σ h)) := rfl
theorem f48c4_eq : wC P f48c4 Q σ h = (wL P none f48r3 0 (fun σ h => wC P f48c5 Q σ h) σ h) := rfl
theorem f48c11_eq : wC P f48c11 Q σ h = (wL P none f48r8 0 (fun σ h => Q .ret σ h) σ h) := rfl
theorem f48c3_eq : wC P f48c3 Q σ h = (loopW (wC P f48c4) (X.inBlock 0 (X.then (fun σ h => wC P f48c11 Q σ h) Q)) σ h) := rfl
theorem f48c2_eq : wC P f48c2 Q σ h = (wL P none f48r2 0 (fun σ h => wC P f48c3 Q σ h) σ h) := rfl
theorem f48c1_eq : wC P f48c1 Q σ h = (wL P none f48r1 0 (fun σ h => wC P f48c2 Q σ h) σ h) := rfl
theorem f48c0_eq : wC P f48c0 Q σ h = (wL P none f48r0 0 (fun σ h => wC P f48c1 Q σ h) σ h) := rfl
end
def f115r0 : List I := [.op (.mov 6 (.const (.slice none 0 0))),
 .kp [0,1,2]]
def f115r1 : List I := [.op (.mov 10 (.tmp 0)),
 .op (.mov 11 (.tmp 1)),
 .op (.slc 12 4 (.tmp 10) (some (.tmp 11)) none none),
 .kp [0,1,2]]
def f115r2 : List I := [.op (.mov 13 (.tmp 2)),
 .op (.len 14 true (.tmp 13)),
 .op (.mov 7 (.tmp 14)),
 .kp [0,1,2,7]]
def f115r3 : List I := [.op (.mov 15 (.tmp 7)),
 .op (.bin 16 .eql (.tmp 15) (.const (.int .i64 0))),
 .kp [0,1,2,7,16]]
def f115r4 : List I := [.op (.mov 17 (.tmp 0)),
 .op (.mov 6 (.tmp 17)),
 .kp [6]]
def f115r5 : List I := [.op (.mov 18 (.tmp 0)),
 .op (.len 19 true (.tmp 18)),
 .op (.mov 8 (.tmp 19)),
 .kp [0,1,2,7,8]]
def f115r6 : List I := [.op (.mov 20 (.tmp 1)),
 .op (.mov 21 (.tmp 8)),
 .op (.bin 22 .eql (.tmp 20) (.tmp 21)),
 .kp [0,1,2,7,8,22]]
def f115r7 : List I := [.op (.mov 23 (.tmp 0)),
 .op (.mov 24 (.tmp 2)),
 .op (.raw (some 25) ⟨(some 25), (.call ⟨(.builtin .append), #[(.tmp 23), (.tmp 24)], #[101, 101]⟩), 101, "slices.go:145", #[⟨0, .data⟩, ⟨1, .data⟩], none⟩),
 .op (.mov 6 (.tmp 25)),
 .kp [6]]
def f115r8 : List I := [.op (.mov 26 (.tmp 8)),
 .op (.mov 27 (.tmp 7)),
 .op (.bin 28 .add (.tmp 26) (.tmp 27)),
 .op (.mov 29 (.tmp 0)),
 .op (.cap 30 (.tmp 29)),
 .op (.bin 31 .gtr (.tmp 28) (.tmp 30)),
 .kp [0,1,2,7,8,31]]
def f115r9 : List I := [.op (.mov 32 (.tmp 0)),
 .op (.mov 33 (.tmp 1)),
 .op (.slc 34 4 (.tmp 32) none (some (.tmp 33)) none),
 .op (.mov 35 (.tmp 8)),
 .op (.mov 36 (.tmp 7)),
 .op (.bin 37 .add (.tmp 35) (.tmp 36)),
 .op (.mov 38 (.tmp 1)),
 .op (.bin 39 .sub (.tmp 37) (.tmp 38)),
 .op (.raw (some 40) ⟨(some 40), (.call ⟨(.builtin .append), #[(.tmp 34), (.tmp 39)], #[101, 3]⟩), 101, "slices.go:152", #[⟨2, .data⟩, ⟨7, .data⟩], none⟩),
 .op (.mov 9 (.tmp 40)),
 .kp [0,1,2,7,9]]
def f115r10 : List I := [.op (.mov 41 (.tmp 9)),
 .op (.mov 42 (.tmp 1)),
 .op (.slc 43 4 (.tmp 41) (some (.tmp 42)) none none),
 .op (.mov 44 (.tmp 2)),
 .op (.raw (some 45) ⟨(some 45), (.call ⟨(.builtin .copy), #[(.tmp 43), (.tmp 44)], #[101, 101]⟩), 3, "slices.go:153", #[⟨2, .data⟩, ⟨3, .data⟩], none⟩),
 .kp [0,1,7,9]]
def f115r11 : List I := [.op (.mov 46 (.tmp 9)),
 .op (.mov 47 (.tmp 1)),
 .op (.mov 48 (.tmp 7)),
 .op (.bin 49 .add (.tmp 47) (.tmp 48)),
 .op (.slc 50 4 (.tmp 46) (some (.tmp 49)) none none),
 .op (.mov 51 (.tmp 0)),
 .op (.mov 52 (.tmp 1)),
 .op (.slc 53 4 (.tmp 51) (some (.tmp 52)) none none),
 .op (.raw (some 54) ⟨(some 54), (.call ⟨(.builtin .copy), #[(.tmp 50), (.tmp 53)], #[101, 101]⟩), 3, "slices.go:154", #[⟨4, .data⟩, ⟨7, .data⟩], none⟩),
 .kp [9]]
def f115r12 : List I := [.op (.mov 55 (.tmp 9)),
 .op (.mov 6 (.tmp 55)),
 .kp [6]]
def f115r13 : List I := [.op (.mov 56 (.tmp 0)),
 .op (.mov 57 (.tmp 8)),
 .op (.mov 58 (.tmp 7)),
 .op (.bin 59 .add (.tmp 57) (.tmp 58)),
 .op (.slc 60 4 (.tmp 56) none (some (.tmp 59)) none),
 .op (.mov 0 (.tmp 60)),
 .kp [0,1,2,7,8]]
def f115r14 : List I := [.op (.mov 61 (.tmp 2)),
 .op (.mov 62 (.tmp 0)),
 .op (.mov 63 (.tmp 1)),
 .op (.mov 64 (.tmp 7)),
 .op (.bin 65 .add (.tmp 63) (.tmp 64)),
 .op (.slc 66 4 (.tmp 62) (some (.tmp 65)) none none),
 .op (.raw (some 67) ⟨(some 67), (.call ⟨(.value (.func 137)), #[(.tmp 61), (.tmp 66)], #[101, 101]⟩), 4, "slices.go:173", #[⟨0, .data⟩, ⟨5, .data⟩], none⟩),
 .op (.un 68 .not (.tmp 67)),
 .kp [0,1,2,7,8,68]]
def f115r15 : List I := [.op (.mov 69 (.tmp 0)),
 .op (.mov 70 (.tmp 1)),
 .op (.mov 71 (.tmp 7)),
 .op (.bin 72 .add (.tmp 70) (.tmp 71)),
 .op (.slc 73 4 (.tmp 69) (some (.tmp 72)) none none),
 .op (.mov 74 (.tmp 0)),
 .op (.mov 75 (.tmp 1)),
 .op (.slc 76 4 (.tmp 74) (some (.tmp 75)) none none),
 .op (.raw (some 77) ⟨(some 77), (.call ⟨(.builtin .copy), #[(.tmp 73), (.tmp 76)], #[101, 101]⟩), 3, "slices.go:178", #[⟨4, .data⟩, ⟨7, .data⟩], none⟩),
 .kp [0,1,2]]
def f115r16 : List I := [.op (.mov 78 (.tmp 0)),
 .op (.mov 79 (.tmp 1)),
 .op (.slc 80 4 (.tmp 78) (some (.tmp 79)) none none),
 .op (.mov 81 (.tmp 2)),
 .op (.raw (some 82) ⟨(some 82), (.call ⟨(.builtin .copy), #[(.tmp 80), (.tmp 81)], #[101, 101]⟩), 3, "slices.go:186", #[⟨2, .data⟩, ⟨3, .data⟩], none⟩),
 .kp [0]]
def f115r17 : List I := [.op (.mov 83 (.tmp 0)),
 .op (.mov 6 (.tmp 83)),
 .kp [6]]
def f115r18 : List I := [.op (.mov 84 (.tmp 0)),
 .op (.mov 85 (.tmp 8)),
 .op (.slc 86 4 (.tmp 84) (some (.tmp 85)) none none),
 .op (.mov 87 (.tmp 2)),
 .op (.raw (some 88) ⟨(some 88), (.call ⟨(.builtin .copy), #[(.tmp 86), (.tmp 87)], #[101, 101]⟩), 3, "slices.go:200", #[⟨2, .data⟩, ⟨3, .data⟩], none⟩),
 .kp [0,1,7]]
def f115r19 : List I := [.op (.mov 89 (.tmp 0)),
 .op (.mov 90 (.tmp 1)),
 .op (.slc 91 4 (.tmp 89) (some (.tmp 90)) none none),
 .op (.mov 92 (.tmp 7)),
 .op (.call (some 93) 138 [(.tmp 91),(.tmp 92)]),
 .kp [0]]
def f115r20 : List I := [.op (.mov 94 (.tmp 0)),
 .op (.mov 6 (.tmp 94)),
 .kp [6]]
def f115c5 : C := (.seq (.reg f115r4) .ret)
def f115c9 : C := (.seq (.reg f115r7) .ret)
def f115c15 : C := (.seq (.reg f115r12) .ret)
def f115c14 : C := (.seq (.drw f115r11) f115c15)
def f115c13 : C := (.seq (.reg f115r10) f115c14)
def f115c12 : C := (.seq (.reg f115r9) f115c13)
def f115c21 : C := (.seq (.reg f115r17) .ret)
def f115c20 : C := (.seq (.reg f115r16) f115c21)
def f115c19 : C := (.seq (.drw f115r15) f115c20)
def f115c24 : C := (.seq (.reg f115r20) .ret)
def f115c23 : C := (.seq (.reg f115r19) f115c24)
def f115c22 : C := (.seq (.reg f115r18) f115c23)
def f115c18 : C := (.seq (.cond (.tmp 68) f115c19 .skip) f115c22)
def f115c17 : C := (.seq (.reg f115r14) f115c18)
def f115c16 : C := (.seq (.reg f115r13) f115c17)
def f115c11 : C := (.seq (.cond (.tmp 31) f115c12 .skip) f115c16)
def f115c10 : C := (.seq (.reg f115r8) f115c11)
def f115c8 : C := (.seq (.cond (.tmp 22) f115c9 .skip) f115c10)
def f115c7 : C := (.seq (.reg f115r6) f115c8)
def f115c6 : C := (.seq (.reg f115r5) f115c7)
def f115c4 : C := (.seq (.cond (.tmp 16) f115c5 .skip) f115c6)
def f115c3 : C := (.seq (.reg f115r3) f115c4)
def f115c2 : C := (.seq (.reg f115r2) f115c3)
def f115c1 : C := (.seq (.reg f115r1) f115c2)
def f115c0 : C := (.seq (.reg f115r0) f115c1)
theorem f115cmp : cmpF Try.prog Try.f115 [.l [.o 0,.kp [0,1,2]],
 .l [.o 0,.o 1,.o 2,.kp [0,1,2]],
 .l [.o 0,.o 1,.o 2,.kp [0,1,2,7]],
 .l [.o 0,.o 1,.kp [0,1,2,7,16]],
 .l [.o 0,.o 1,.kp [6]],
 .l [.o 0,.o 1,.o 2,.kp [0,1,2,7,8]],
 .l [.o 0,.o 1,.o 2,.kp [0,1,2,7,8,22]],
 .l [.o 0,.o 1,.o 2,.o 3,.kp [6]],
 .l [.o 0,.o 1,.o 2,.o 3,.o 4,.o 5,.kp [0,1,2,7,8,31]],
 .l [.o 0,.o 1,.o 2,.o 3,.o 4,.o 5,.o 6,.o 7,.o 8,.o 9,.kp [0,1,2,7,9]],
 .l [.o 0,.o 1,.o 2,.o 3,.o 4,.kp [0,1,7,9]],
 .l [.o 0,.o 1,.o 2,.o 3,.o 4,.o 5,.o 6,.o 7,.o 8,.kp [9]],
 .l [.o 0,.o 1,.kp [6]],
 .l [.o 0,.o 1,.o 2,.o 3,.o 4,.o 5,.kp [0,1,2,7,8]],
 .l [.o 0,.o 1,.o 2,.o 3,.o 4,.o 5,.o 6,.o 7,.kp [0,1,2,7,8,68]],
 .l [.o 0,.o 1,.o 2,.o 3,.o 4,.o 5,.o 6,.o 7,.o 8,.kp [0,1,2]],
 .l [.o 0,.o 1,.o 2,.o 3,.o 4,.kp [0]],
 .l [.o 0,.o 1,.kp [6]],
 .l [.o 0,.o 1,.o 2,.o 3,.o 4,.kp [0,1,7]],
 .l [.o 0,.o 1,.o 2,.o 3,.o 4,.kp [0]],
 .l [.o 0,.o 1,.kp [6]]] = some (f115c0,[.tmp 6]) := by kernel_rfl
theorem f115ok {args : List Value} {h : Heap} {R : Value → Heap → Prop} (hn : args.length ≤ 95) (H : wC Try.prog f115c0 (endW [.tmp 6] R) (envOf 0 args) h) : CallsH Try.prog 115 args h R :=
 fn_ok2 Try.func115 f115cmp hn H
section
variable {P : Program} {Q : X → Env → Heap → Prop} {σ : Env} {h : Heap}
theorem f115c9_eq : wC P f115c9 Q σ h = (wL P none f115r7 0 (fun σ h => Q .ret σ h) σ h) := rfl
theorem f115c15_eq : wC P f115c15 Q σ h = (wL P none f115r12 0 (fun σ h => Q .ret σ h) σ h) := rfl
theorem f115c14_eq : wC P f115c14 Q σ h = (drwW P f115r11 (fun σ h => wC P f115c15 Q σ h) σ h) := rfl
theorem f115c13_eq : wC P f115c13 Q σ h = (wL P none f115r10 0 (fun σ h => wC P f115c14 Q σ h) σ h) := rfl
theorem f115c12_eq : wC P f115c12 Q σ h = (wL P none f115r9 0 (fun σ h => wC P f115c13 Q σ h) σ h) := rfl
theorem f115c21_eq : wC P f115c21 Q σ h = (wL P none f115r17 0 (fun σ h => Q .ret σ h) σ h) := rfl
theorem f115c20_eq : wC P f115c20 Q σ h = (wL P none f115r16 0 (fun σ h => wC P f115c21 Q σ h) σ h) := rfl
theorem f115c19_eq : wC P f115c19 Q σ h = (drwW P f115r15 (fun σ h => wC P f115c20 Q σ h) σ h) := rfl
theorem f115c18_eq : wC P f115c18 Q σ h = (bd (evO σ (.tmp 68)) fun v => bd (asB v) fun t => br t (wC P f115c19 (X.then (fun σ h => wC P f115c22 Q σ h) Q) σ h) (wC P f115c22 Q σ h)) := rfl
theorem f115c17_eq : wC P f115c17 Q σ h = (wL P none f115r14 0 (fun σ h => wC P f115c18 Q σ h) σ h) := rfl
theorem f115c16_eq : wC P f115c16 Q σ h = (wL P none f115r13 0 (fun σ h => wC P f115c17 Q σ h) σ h) := rfl
theorem f115c11_eq : wC P f115c11 Q σ h = (bd (evO σ (.tmp 31)) fun v => bd (asB v) fun t => br t (wC P f115c12 (X.then (fun σ h => wC P f115c16 Q σ h) Q) σ h) (wC P f115c16 Q σ h)) := rfl
theorem f115c10_eq : wC P f115c10 Q σ h = (wL P none f115r8 0 (fun σ h => wC P f115c11 Q σ h) σ h) := rfl
theorem f115c8_eq : wC P f115c8 Q σ h = (bd (evO σ (.tmp 22)) fun v => bd (asB v) fun t => br t (wC P f115c9 (X.then (fun σ h => wC P f115c10 Q σ h) Q) σ h) (wC P f115c10 Q σ h)) := rfl
theorem f115c7_eq : wC P f115c7 Q σ h = (wL P none f115r6 0 (fun σ h => wC P f115c8 Q σ h) σ h) := rfl
theorem f115c6_eq : wC P f115c6 Q σ h = (wL P none f115r5 0 (fun σ h => wC P f115c7 Q σ h) σ h) := rfl
theorem f115c4_eq : wC P f115c4 Q σ h = (bd (evO σ (.tmp 16)) fun v => bd (asB v) fun t => br t (wC P f115c5 (X.then (fun σ h => wC P f115c6 Q σ h) Q) σ h) (wC P f115c6 Q σ h)) := rfl
theorem f115c3_eq : wC P f115c3 Q σ h = (wL P none f115r3 0 (fun σ h => wC P f115c4 Q σ h) σ h) := rfl
theorem f115c2_eq : wC P f115c2 Q σ h = (wL P none f115r2 0 (fun σ h => wC P f115c3 Q σ h) σ h) := rfl
theorem f115c1_eq : wC P f115c1 Q σ h = (wL P none f115r1 0 (fun σ h => wC P f115c2 Q σ h) σ h) := rfl
theorem f115c0_eq : wC P f115c0 Q σ h = (wL P none f115r0 0 (fun σ h => wC P f115c1 Q σ h) σ h) := rfl
end
def f88r0 : List I := [.op (.mov 6 (.const (.slice none 0 0))),
 .kp [0,1,2]]
def f88r1 : List I := [.op (.mov 10 (.tmp 0)),
 .op (.mov 11 (.tmp 1)),
 .op (.slc 12 12 (.tmp 10) (some (.tmp 11)) none none),
 .kp [0,1,2]]
def f88r2 : List I := [.op (.mov 13 (.tmp 2)),
 .op (.len 14 true (.tmp 13)),
 .op (.mov 7 (.tmp 14)),
 .kp [0,1,2,7]]
def f88r3 : List I := [.op (.mov 15 (.tmp 7)),
 .op (.bin 16 .eql (.tmp 15) (.const (.int .i64 0))),
 .kp [0,1,2,7,16]]
def f88r4 : List I := [.op (.mov 17 (.tmp 0)),
 .op (.mov 6 (.tmp 17)),
 .kp [6]]
def f88r5 : List I := [.op (.mov 18 (.tmp 0)),
 .op (.len 19 true (.tmp 18)),
 .op (.mov 8 (.tmp 19)),
 .kp [0,1,2,7,8]]
def f88r6 : List I := [.op (.mov 20 (.tmp 1)),
 .op (.mov 21 (.tmp 8)),
 .op (.bin 22 .eql (.tmp 20) (.tmp 21)),
 .kp [0,1,2,7,8,22]]
def f88r7 : List I := [.op (.mov 23 (.tmp 0)),
 .op (.mov 24 (.tmp 2)),
 .op (.raw (some 25) ⟨(some 25), (.call ⟨(.builtin .append), #[(.tmp 23), (.tmp 24)], #[74, 74]⟩), 74, "slices.go:145", #[⟨0, .data⟩, ⟨1, .data⟩], none⟩),
 .op (.mov 6 (.tmp 25)),
 .kp [6]]
def f88r8 : List I := [.op (.mov 26 (.tmp 8)),
 .op (.mov 27 (.tmp 7)),
 .op (.bin 28 .add (.tmp 26) (.tmp 27)),
 .op (.mov 29 (.tmp 0)),
 .op (.cap 30 (.tmp 29)),
 .op (.bin 31 .gtr (.tmp 28) (.tmp 30)),
 .kp [0,1,2,7,8,31]]
def f88r9 : List I := [.op (.mov 32 (.tmp 0)),
 .op (.mov 33 (.tmp 1)),
 .op (.slc 34 12 (.tmp 32) none (some (.tmp 33)) none),
 .op (.mov 35 (.tmp 8)),
 .op (.mov 36 (.tmp 7)),
 .op (.bin 37 .add (.tmp 35) (.tmp 36)),
 .op (.mov 38 (.tmp 1)),
 .op (.bin 39 .sub (.tmp 37) (.tmp 38)),
 .op (.raw (some 40) ⟨(some 40), (.call ⟨(.builtin .append), #[(.tmp 34), (.tmp 39)], #[74, 3]⟩), 74, "slices.go:152", #[⟨2, .data⟩, ⟨7, .data⟩], none⟩),
 .op (.mov 9 (.tmp 40)),
 .kp [0,1,2,7,9]]
def f88r10 : List I := [.op (.mov 41 (.tmp 9)),
 .op (.mov 42 (.tmp 1)),
 .op (.slc 43 12 (.tmp 41) (some (.tmp 42)) none none),
 .op (.mov 44 (.tmp 2)),
 .op (.raw (some 45) ⟨(some 45), (.call ⟨(.builtin .copy), #[(.tmp 43), (.tmp 44)], #[74, 74]⟩), 3, "slices.go:153", #[⟨2, .data⟩, ⟨3, .data⟩], none⟩),
 .kp [0,1,7,9]]
def f88r11 : List I := [.op (.mov 46 (.tmp 9)),
 .op (.mov 47 (.tmp 1)),
 .op (.mov 48 (.tmp 7)),
 .op (.bin 49 .add (.tmp 47) (.tmp 48)),
 .op (.slc 50 12 (.tmp 46) (some (.tmp 49)) none none),
 .op (.mov 51 (.tmp 0)),
 .op (.mov 52 (.tmp 1)),
 .op (.slc 53 12 (.tmp 51) (some (.tmp 52)) none none),
 .op (.raw (some 54) ⟨(some 54), (.call ⟨(.builtin .copy), #[(.tmp 50), (.tmp 53)], #[74, 74]⟩), 3, "slices.go:154", #[⟨4, .data⟩, ⟨7, .data⟩], none⟩),
 .kp [9]]
def f88r12 : List I := [.op (.mov 55 (.tmp 9)),
 .op (.mov 6 (.tmp 55)),
 .kp [6]]
def f88r13 : List I := [.op (.mov 56 (.tmp 0)),
 .op (.mov 57 (.tmp 8)),
 .op (.mov 58 (.tmp 7)),
 .op (.bin 59 .add (.tmp 57) (.tmp 58)),
 .op (.slc 60 12 (.tmp 56) none (some (.tmp 59)) none),
 .op (.mov 0 (.tmp 60)),
 .kp [0,1,2,7,8]]
def f88r14 : List I := [.op (.mov 61 (.tmp 2)),
 .op (.mov 62 (.tmp 0)),
 .op (.mov 63 (.tmp 1)),
 .op (.mov 64 (.tmp 7)),
 .op (.bin 65 .add (.tmp 63) (.tmp 64)),
 .op (.slc 66 12 (.tmp 62) (some (.tmp 65)) none none),
 .op (.raw (some 67) ⟨(some 67), (.call ⟨(.value (.func 119)), #[(.tmp 61), (.tmp 66)], #[74, 74]⟩), 4, "slices.go:173", #[⟨0, .data⟩, ⟨5, .data⟩], none⟩),
 .op (.un 68 .not (.tmp 67)),
 .kp [0,1,2,7,8,68]]
def f88r15 : List I := [.op (.mov 69 (.tmp 0)),
 .op (.mov 70 (.tmp 1)),
 .op (.mov 71 (.tmp 7)),
 .op (.bin 72 .add (.tmp 70) (.tmp 71)),
 .op (.slc 73 12 (.tmp 69) (some (.tmp 72)) none none),
 .op (.mov 74 (.tmp 0)),
 .op (.mov 75 (.tmp 1)),
 .op (.slc 76 12 (.tmp 74) (some (.tmp 75)) none none),
 .op (.raw (some 77) ⟨(some 77), (.call ⟨(.builtin .copy), #[(.tmp 73), (.tmp 76)], #[74, 74]⟩), 3, "slices.go:178", #[⟨4, .data⟩, ⟨7, .data⟩], none⟩),
 .kp [0,1,2]]
def f88r16 : List I := [.op (.mov 78 (.tmp 0)),
 .op (.mov 79 (.tmp 1)),
 .op (.slc 80 12 (.tmp 78) (some (.tmp 79)) none none),
 .op (.mov 81 (.tmp 2)),
 .op (.raw (some 82) ⟨(some 82), (.call ⟨(.builtin .copy), #[(.tmp 80), (.tmp 81)], #[74, 74]⟩), 3, "slices.go:186", #[⟨2, .data⟩, ⟨3, .data⟩], none⟩),
 .kp [0]]
def f88r17 : List I := [.op (.mov 83 (.tmp 0)),
 .op (.mov 6 (.tmp 83)),
 .kp [6]]
def f88r18 : List I := [.op (.mov 84 (.tmp 0)),
 .op (.mov 85 (.tmp 8)),
 .op (.slc 86 12 (.tmp 84) (some (.tmp 85)) none none),
 .op (.mov 87 (.tmp 2)),
 .op (.raw (some 88) ⟨(some 88), (.call ⟨(.builtin .copy), #[(.tmp 86), (.tmp 87)], #[74, 74]⟩), 3, "slices.go:200", #[⟨2, .data⟩, ⟨3, .data⟩], none⟩),
 .kp [0,1,7]]
def f88r19 : List I := [.op (.mov 89 (.tmp 0)),
 .op (.mov 90 (.tmp 1)),
 .op (.slc 91 12 (.tmp 89) (some (.tmp 90)) none none),
 .op (.mov 92 (.tmp 7)),
 .op (.call (some 93) 120 [(.tmp 91),(.tmp 92)]),
 .kp [0]]
def f88r20 : List I := [.op (.mov 94 (.tmp 0)),
 .op (.mov 6 (.tmp 94)),
 .kp [6]]
def f88c5 : C := (.seq (.reg f88r4) .ret)
def f88c9 : C := (.seq (.reg f88r7) .ret)
def f88c15 : C := (.seq (.reg f88r12) .ret)
def f88c14 : C := (.seq (.drw f88r11) f88c15)
def f88c13 : C := (.seq (.reg f88r10) f88c14)
def f88c12 : C := (.seq (.reg f88r9) f88c13)
def f88c21 : C := (.seq (.reg f88r17) .ret)
def f88c20 : C := (.seq (.reg f88r16) f88c21)
def f88c19 : C := (.seq (.drw f88r15) f88c20)
def f88c24 : C := (.seq (.reg f88r20) .ret)
def f88c23 : C := (.seq (.reg f88r19) f88c24)
def f88c22 : C := (.seq (.reg f88r18) f88c23)
def f88c18 : C := (.seq (.cond (.tmp 68) f88c19 .skip) f88c22)
def f88c17 : C := (.seq (.reg f88r14) f88c18)
def f88c16 : C := (.seq (.reg f88r13) f88c17)
def f88c11 : C := (.seq (.cond (.tmp 31) f88c12 .skip) f88c16)
def f88c10 : C := (.seq (.reg f88r8) f88c11)
def f88c8 : C := (.seq (.cond (.tmp 22) f88c9 .skip) f88c10)
def f88c7 : C := (.seq (.reg f88r6) f88c8)
def f88c6 : C := (.seq (.reg f88r5) f88c7)
def f88c4 : C := (.seq (.cond (.tmp 16) f88c5 .skip) f88c6)
def f88c3 : C := (.seq (.reg f88r3) f88c4)
def f88c2 : C := (.seq (.reg f88r2) f88c3)
def f88c1 : C := (.seq (.reg f88r1) f88c2)
def f88c0 : C := (.seq (.reg f88r0) f88c1)
theorem f88cmp : cmpF Try.prog Try.f88 [.l [.o 0,.kp [0,1,2]],
 .l [.o 0,.o 1,.o 2,.kp [0,1,2]],
 .l [.o 0,.o 1,.o 2,.kp [0,1,2,7]],
 .l [.o 0,.o 1,.kp [0,1,2,7,16]],
 .l [.o 0,.o 1,.kp [6]],
 .l [.o 0,.o 1,.o 2,.kp [0,1,2,7,8]],
 .l [.o 0,.o 1,.o 2,.kp [0,1,2,7,8,22]],
 .l [.o 0,.o 1,.o 2,.o 3,.kp [6]],
 .l [.o 0,.o 1,.o 2,.o 3,.o 4,.o 5,.kp [0,1,2,7,8,31]],
 .l [.o 0,.o 1,.o 2,.o 3,.o 4,.o 5,.o 6,.o 7,.o 8,.o 9,.kp [0,1,2,7,9]],
 .l [.o 0,.o 1,.o 2,.o 3,.o 4,.kp [0,1,7,9]],
 .l [.o 0,.o 1,.o 2,.o 3,.o 4,.o 5,.o 6,.o 7,.o 8,.kp [9]],
 .l [.o 0,.o 1,.kp [6]],
 .l [.o 0,.o 1,.o 2,.o 3,.o 4,.o 5,.kp [0,1,2,7,8]],
 .l [.o 0,.o 1,.o 2,.o 3,.o 4,.o 5,.o 6,.o 7,.kp [0,1,2,7,8,68]],
 .l [.o 0,.o 1,.o 2,.o 3,.o 4,.o 5,.o 6,.o 7,.o 8,.kp [0,1,2]],
 .l [.o 0,.o 1,.o 2,.o 3,.o 4,.kp [0]],
 .l [.o 0,.o 1,.kp [6]],
 .l [.o 0,.o 1,.o 2,.o 3,.o 4,.kp [0,1,7]],
 .l [.o 0,.o 1,.o 2,.o 3,.o 4,.kp [0]],
 .l [.o 0,.o 1,.kp [6]]] = some (f88c0,[.tmp 6]) := by kernel_rfl
theorem f88ok {args : List Value} {h : Heap} {R : Value → Heap → Prop} (hn : args.length ≤ 95) (H : wC Try.prog f88c0 (endW [.tmp 6] R) (envOf 0 args) h) : CallsH Try.prog 88 args h R :=
 fn_ok2 Try.func88 f88cmp hn H
section
variable {P : Program} {Q : X → Env → Heap → Prop} {σ : Env} {h : Heap}
theorem f88c9_eq : wC P f88c9 Q σ h = (wL P none f88r7 0 (fun σ h => Q .ret σ h) σ h) := rfl
theorem f88c15_eq : wC P f88c15 Q σ h = (wL P none f88r12 0 (fun σ h => Q .ret σ h) σ h) := rfl
theorem f88c14_eq : wC P f88c14 Q σ h = (drwW P f88r11 (fun σ h => wC P f88c15 Q σ h) σ h) := rfl
theorem f88c13_eq : wC P f88c13 Q σ h = (wL P none f88r10 0 (fun σ h => wC P f88c14 Q σ h) σ h) := rfl
theorem f88c12_eq : wC P f88c12 Q σ h = (wL P none f88r9 0 (fun σ h => wC P f88c13 Q σ h) σ h) := rfl
theorem f88c21_eq : wC P f88c21 Q σ h = (wL P none f88r17 0 (fun σ h => Q .ret σ h) σ h) := rfl
theorem f88c20_eq : wC P f88c20 Q σ h = (wL P none f88r16 0 (fun σ h => wC P f88c21 Q σ h) σ h) := rfl
theorem f88c19_eq : wC P f88c19 Q σ h = (drwW P f88r15 (fun σ h => wC P f88c20 Q σ h) σ h) := rfl
theorem f88c18_eq : wC P f88c18 Q σ h = (bd (evO σ (.tmp 68)) fun v => bd (asB v) fun t => br t (wC P f88c19 (X.then (fun σ h => wC P f88c22 Q σ h) Q) σ h) (wC P f88c22 Q σ h)) := rfl
theorem f88c17_eq : wC P f88c17 Q σ h = (wL P none f88r14 0 (fun σ h => wC P f88c18 Q σ h) σ h) := rfl
theorem f88c16_eq : wC P f88c16 Q σ h = (wL P none f88r13 0 (fun σ h => wC P f88c17 Q σ h) σ h) := rfl
theorem f88c11_eq : wC P f88c11 Q σ h = (bd (evO σ (.tmp 31)) fun v => bd (asB v) fun t => br t (wC P f88c12 (X.then (fun σ h => wC P f88c16 Q σ h) Q) σ h) (wC P f88c16 Q σ h)) := rfl
theorem f88c10_eq : wC P f88c10 Q σ h = (wL P none f88r8 0 (fun σ h => wC P f88c11 Q σ h) σ h) := rfl
theorem f88c8_eq : wC P f88c8 Q σ h = (bd (evO σ (.tmp 22)) fun v => bd (asB v) fun t => br t (wC P f88c9 (X.then (fun σ h => wC P f88c10 Q σ h) Q) σ h) (wC P f88c10 Q σ h)) := rfl
theorem f88c7_eq : wC P f88c7 Q σ h = (wL P none f88r6 0 (fun σ h => wC P f88c8 Q σ h) σ h) := rfl
theorem f88c6_eq : wC P f88c6 Q σ h = (wL P none f88r5 0 (fun σ h => wC P f88c7 Q σ h) σ h) := rfl
theorem f88c4_eq : wC P f88c4 Q σ h = (bd (evO σ (.tmp 16)) fun v => bd (asB v) fun t => br t (wC P f88c5 (X.then (fun σ h => wC P f88c6 Q σ h) Q) σ h) (wC P f88c6 Q σ h)) := rfl
theorem f88c3_eq : wC P f88c3 Q σ h = (wL P none f88r3 0 (fun σ h => wC P f88c4 Q σ h) σ h) := rfl
theorem f88c2_eq : wC P f88c2 Q σ h = (wL P none f88r2 0 (fun σ h => wC P f88c3 Q σ h) σ h) := rfl
theorem f88c1_eq : wC P f88c1 Q σ h = (wL P none f88r1 0 (fun σ h => wC P f88c2 Q σ h) σ h) := rfl
theorem f88c0_eq : wC P f88c0 Q σ h = (wL P none f88r0 0 (fun σ h => wC P f88c1 Q σ h) σ h) := rfl
end
def f85r0 : List I := [.op (.box 3 108 (.tmp 1)),
 .op (.mov 4 (.const (.slice none 0 0))),
 .kp [0,3]]
def f85r1 : List I := [.op (.mov 6 (.tmp 0)),
 .op (.fad 7 0 (.tmp 3)),
 .op (.ld 8 (some 2) (.tmp 7)),
 .op (.call (some 9) 91 [(.tmp 6),(.tmp 8)]),
 .op (.mov 5 (.tmp 9)),
 .kp [0,3,5]]
def f85r2 : List I := [.op (.mov 10 (.tmp 5)),
 .op (.bin 11 .geq (.tmp 10) (.const (.int .i64 0))),
 .op (.mov 12 (.tmp 11)),
 .sc 12 true 8,
 .g 12 true (.mov 13 (.tmp 0)),
 .g 12 true (.mov 14 (.tmp 5)),
 .g 12 true (.iad 15 4 (.tmp 13) (.tmp 14)),
 .g 12 true (.fad 16 0 (.tmp 15)),
 .g 12 true (.ld 17 (some 2) (.tmp 16)),
 .g 12 true (.fad 18 0 (.tmp 3)),
 .g 12 true (.ld 19 (some 2) (.tmp 18)),
 .g 12 true (.eqa 20 false [.i .i64,.i .i64] (.tmp 17) (.tmp 19)),
 .op (.pick 21 (.tmp 12) (.tmp 20) (.const (.bool false))),
 .kp [0,3,5,21]]
def f85r3 : List I := [.op (.mov 22 (.tmp 0)),
 .op (.mov 23 (.tmp 5)),
 .op (.ld 24 (some 4) (.tmp 3)),
 .op (.iad 25 4 (.tmp 22) (.tmp 23)),
 .op (.st 4 (.tmp 25) (.tmp 24)),
 .kp [0]]
def f85r4 : List I := [.op (.mov 26 (.tmp 0)),
 .op (.mov 4 (.tmp 26)),
 .kp [4]]
def f85r5 : List I := [.op (.mov 27 (.tmp 0)),
 .op (.mov 28 (.tmp 5)),
 .op (.bin 29 .add (.tmp 28) (.const (.int .i64 1))),
 .op (.ld 30 (some 4) (.tmp 3)),
 .op (.bsl 31 108 1 [.int .i64 0,.int .i64 0,.bool false,.string ⟨#[]⟩] [(0,4,(.tmp 30))]),
 .op (.call (some 32) 115 [(.tmp 27),(.tmp 29),(.tmp 31)]),
 .op (.mov 4 (.tmp 32)),
 .kp [4]]
def f85c5 : C := (.seq (.reg f85r4) .ret)
def f85c4 : C := (.seq (.reg f85r3) f85c5)
def f85c6 : C := (.seq (.reg f85r5) .ret)
def f85c3 : C := (.seq (.cond (.tmp 21) f85c4 .skip) f85c6)
def f85c2 : C := (.seq (.drw f85r2) f85c3)
def f85c1 : C := (.seq (.reg f85r1) f85c2)
def f85c0 : C := (.seq (.reg f85r0) f85c1)
theorem f85cmp : cmpF Try.prog Try.f85 [.l [.o 0,.o 1,.kp [0,3]],
 .l [.o 0,.o 1,.o 2,.o 3,.o 4,.kp [0,3,5]],
 .l [.o 0,.o 1,.o 2,.sc 12 true 8,.o 3,.o 4,.o 5,.o 6,.o 7,.o 8,.o 9,.o 10,.o 11,.kp [0,3,5,21]],
 .l [.o 0,.o 1,.o 2,.o 3,.o 4,.kp [0]],
 .l [.o 0,.o 1,.kp [4]],
 .l [.o 0,.o 1,.o 2,.o 3,.o 4,.o 5,.o 6,.kp [4]]] = some (f85c0,[.tmp 4]) := by kernel_rfl
theorem f85ok {args : List Value} {h : Heap} {R : Value → Heap → Prop} (hn : args.length ≤ 33) (H : wC Try.prog f85c0 (endW [.tmp 4] R) (envOf 0 args) h) : CallsH Try.prog 85 args h R :=
 fn_ok2 Try.func85 f85cmp hn H
section
variable {P : Program} {Q : X → Env → Heap → Prop} {σ : Env} {h : Heap}
theorem f85c5_eq : wC P f85c5 Q σ h = (wL P none f85r4 0 (fun σ h => Q .ret σ h) σ h) := rfl
theorem f85c4_eq : wC P f85c4 Q σ h = (wL P none f85r3 0 (fun σ h => wC P f85c5 Q σ h) σ h) := rfl
theorem f85c6_eq : wC P f85c6 Q σ h = (wL P none f85r5 0 (fun σ h => Q .ret σ h) σ h) := rfl
theorem f85c3_eq : wC P f85c3 Q σ h = (bd (evO σ (.tmp 21)) fun v => bd (asB v) fun t => br t (wC P f85c4 (X.then (fun σ h => wC P f85c6 Q σ h) Q) σ h) (wC P f85c6 Q σ h)) := rfl
theorem f85c2_eq : wC P f85c2 Q σ h = (drwW P f85r2 (fun σ h => wC P f85c3 Q σ h) σ h) := rfl
theorem f85c1_eq : wC P f85c1 Q σ h = (wL P none f85r1 0 (fun σ h => wC P f85c2 Q σ h) σ h) := rfl
theorem f85c0_eq : wC P f85c0 Q σ h = (wL P none f85r0 0 (fun σ h => wC P f85c1 Q σ h) σ h) := rfl
end
def f112r0 : List I := [.op (.box 3 108 (.tmp 1)),
 .op (.mov 4 (.const (.slice none 0 0))),
 .kp [0,3]]
def f112r1 : List I := [.op (.mov 5 (.const (.slice none 0 0))),
 .kp [0,3,5]]
def f112r2 : List I := [.op (.mov 6 (.const (.bool false))),
 .kp [0,3,5,6]]
def f112r3 : List I := [.op (.mov 7 (.const (.int .i64 0))),
 .kp [0,3,5,6,7]]
def f112r4 : List I := [.op (.mov 8 (.tmp 7)),
 .op (.mov 9 (.tmp 0)),
 .op (.len 10 true (.tmp 9)),
 .op (.bin 11 .lss (.tmp 8) (.tmp 10)),
 .kp [0,3,5,6,7,11]]
def f112r5 : List I := [.op (.mov 14 (.tmp 6)),
 .op (.un 15 .not (.tmp 14)),
 .op (.mov 16 (.tmp 15)),
 .sc 16 true 9,
 .g 16 true (.mov 17 (.tmp 0)),
 .g 16 true (.mov 18 (.tmp 7)),
 .g 16 true (.iad 19 4 (.tmp 17) (.tmp 18)),
 .g 16 true (.fad 20 0 (.tmp 19)),
 .g 16 true (.ld 21 (some 2) (.tmp 20)),
 .g 16 true (.fad 22 0 (.tmp 3)),
 .g 16 true (.ld 23 (some 2) (.tmp 22)),
 .g 16 true (.call (some 24) 42 [(.tmp 21),(.tmp 23)]),
 .g 16 true (.un 25 .not (.tmp 24)),
 .op (.pick 26 (.tmp 16) (.tmp 25) (.const (.bool false))),
 .kp [0,3,5,6,7,26]]
def f112r6 : List I := [.op (.mov 27 (.tmp 5)),
 .op (.ld 28 (some 4) (.tmp 3)),
 .op (.bsl 29 108 1 [.int .i64 0,.int .i64 0,.bool false,.string ⟨#[]⟩] [(0,4,(.tmp 28))]),
 .op (.raw (some 30) ⟨(some 30), (.call ⟨(.builtin .append), #[(.tmp 27), (.tmp 29)], #[101, 101]⟩), 101, "ref.go:146", #[⟨0, .data⟩, ⟨2, .data⟩], none⟩),
 .op (.mov 5 (.tmp 30)),
 .op (.mov 6 (.const (.bool true))),
 .kp [0,3,5,6,7]]
def f112r7 : List I := [.op (.mov 31 (.tmp 0)),
 .op (.mov 32 (.tmp 7)),
 .op (.iad 33 4 (.tmp 31) (.tmp 32)),
 .op (.fad 34 0 (.tmp 33)),
 .op (.ld 35 (some 2) (.tmp 34)),
 .op (.fad 36 0 (.tmp 3)),
 .op (.ld 37 (some 2) (.tmp 36)),
 .op (.eqa 38 true [.i .i64,.i .i64] (.tmp 35) (.tmp 37)),
 .kp [0,3,5,6,7,38]]
def f112r8 : List I := [.op (.mov 39 (.tmp 5)),
 .op (.mov 40 (.tmp 0)),
 .op (.mov 41 (.tmp 7)),
 .op (.iad 42 4 (.tmp 40) (.tmp 41)),
 .op (.ld 43 (some 4) (.tmp 42)),
 .op (.bsl 44 108 1 [.int .i64 0,.int .i64 0,.bool false,.string ⟨#[]⟩] [(0,4,(.tmp 43))]),
 .op (.raw (some 45) ⟨(some 45), (.call ⟨(.builtin .append), #[(.tmp 39), (.tmp 44)], #[101, 101]⟩), 101, "ref.go:149", #[⟨0, .data⟩, ⟨5, .data⟩], none⟩),
 .op (.mov 5 (.tmp 45)),
 .kp [0,3,5,6,7]]
def f112r9 : List I := [.op (.mov 12 (.tmp 7)),
 .op (.bin 13 .add (.tmp 12) (.const (.int .i64 1))),
 .op (.mov 7 (.tmp 13)),
 .kp [0,3,5,6,7]]
def f112r10 : List I := [.op (.mov 46 (.tmp 6)),
 .op (.un 47 .not (.tmp 46)),
 .kp [3,5,47]]
def f112r11 : List I := [.op (.mov 48 (.tmp 5)),
 .op (.ld 49 (some 4) (.tmp 3)),
 .op (.bsl 50 108 1 [.int .i64 0,.int .i64 0,.bool false,.string ⟨#[]⟩] [(0,4,(.tmp 49))]),
 .op (.raw (some 51) ⟨(some 51), (.call ⟨(.builtin .append), #[(.tmp 48), (.tmp 50)], #[101, 101]⟩), 101, "ref.go:153", #[⟨0, .data⟩, ⟨2, .data⟩], none⟩),
 .op (.mov 5 (.tmp 51)),
 .kp [5]]
def f112r12 : List I := [.op (.mov 52 (.tmp 5)),
 .op (.mov 4 (.tmp 52)),
 .kp [4]]
def f112c10 : C := (.reg f112r6)
def f112c13 : C := (.reg f112r8)
def f112c12 : C := (.cond (.tmp 38) f112c13 .skip)
def f112c11 : C := (.seq (.drw f112r7) f112c12)
def f112c9 : C := (.seq (.cond (.tmp 26) f112c10 .skip) f112c11)
def f112c8 : C := (.seq (.drw f112r5) f112c9)
def f112c14 : C := (.reg f112r9)
def f112c7 : C := (.seq (.block 1 f112c8) f112c14)
def f112c6 : C := (.seq (.cond (.tmp 11) .skip (.exit 0)) f112c7)
def f112c5 : C := (.seq (.reg f112r4) f112c6)
def f112c17 : C := (.reg f112r11)
def f112c18 : C := (.seq (.reg f112r12) .ret)
def f112c16 : C := (.seq (.cond (.tmp 47) f112c17 .skip) f112c18)
def f112c15 : C := (.seq (.reg f112r10) f112c16)
def f112c4 : C := (.seq (.block 0 (.loop f112c5)) f112c15)
def f112c3 : C := (.seq (.reg f112r3) f112c4)
def f112c2 : C := (.seq (.reg f112r2) f112c3)
def f112c1 : C := (.seq (.reg f112r1) f112c2)
def f112c0 : C := (.seq (.reg f112r0) f112c1)
theorem f112cmp : cmpF Try.prog Try.f112 [.l [.o 0,.o 1,.kp [0,3]],
 .l [.o 0,.kp [0,3,5]],
 .l [.o 0,.kp [0,3,5,6]],
 .l [.o 0,.kp [0,3,5,6,7]],
 .l [.o 0,.o 1,.o 2,.o 3,.kp [0,3,5,6,7,11]],
 .l [.o 0,.o 1,.o 2,.sc 16 true 9,.o 3,.o 4,.o 5,.o 6,.o 7,.o 8,.o 9,.o 10,.o 11,.o 12,.kp [0,3,5,6,7,26]],
 .l [.o 0,.o 1,.o 2,.o 3,.o 4,.o 5,.kp [0,3,5,6,7]],
 .l [.o 0,.o 1,.o 2,.o 3,.o 4,.o 5,.o 6,.o 7,.kp [0,3,5,6,7,38]],
 .l [.o 0,.o 1,.o 2,.o 3,.o 4,.o 5,.o 6,.o 7,.kp [0,3,5,6,7]],
 .l [.o 0,.o 1,.o 2,.kp [0,3,5,6,7]],
 .l [.o 0,.o 1,.kp [3,5,47]],
 .l [.o 0,.o 1,.o 2,.o 3,.o 4,.kp [5]],
 .l [.o 0,.o 1,.kp [4]]] = some (f112c0,[.tmp 4]) := by kernel_rfl
theorem f112ok {args : List Value} {h : Heap} {R : Value → Heap → Prop} (hn : args.length ≤ 53) (H : wC Try.prog f112c0 (endW [.tmp 4] R) (envOf 0 args) h) : CallsH Try.prog 112 args h R :=
 fn_ok2 Try.func112 f112cmp hn H
section
variable {P : Program} {Q : X → Env → Heap → Prop} {σ : Env} {h : Heap}
theorem f112c10_eq : wC P f112c10 Q σ h = (wL P none f112r6 0 (fun σ h => Q .normal σ h) σ h) := rfl
theorem f112c13_eq : wC P f112c13 Q σ h = (wL P none f112r8 0 (fun σ h => Q .normal σ h) σ h) := rfl
theorem f112c12_eq : wC P f112c12 Q σ h = (bd (evO σ (.tmp 38)) fun v => bd (asB v) fun t => br t (wC P f112c13 Q σ h) (Q .normal σ h)) := rfl
theorem f112c11_eq : wC P f112c11 Q σ h = (drwW P f112r7 (fun σ h => wC P f112c12 Q σ h) σ h) := rfl
theorem f112c9_eq : wC P f112c9 Q σ h = (bd (evO σ (.tmp 26)) fun v => bd (asB v) fun t => br t (wC P f112c10 (X.then (fun σ h => wC P f112c11 Q σ h) Q) σ h) (wC P f112c11 Q σ h)) := rfl
theorem f112c8_eq : wC P f112c8 Q σ h = (drwW P f112r5 (fun σ h => wC P f112c9 Q σ h) σ h) := rfl
theorem f112c14_eq : wC P f112c14 Q σ h = (wL P none f112r9 0 (fun σ h => Q .normal σ h) σ h) := rfl
theorem f112c7_eq : wC P f112c7 Q σ h = (wC P f112c8 (X.inBlock 1 (X.then (fun σ h => wC P f112c14 Q σ h) Q)) σ h) := rfl
theorem f112c6_eq : wC P f112c6 Q σ h = (bd (evO σ (.tmp 11)) fun v => bd (asB v) fun t => br t (wC P f112c7 Q σ h) (Q (.exit 0) σ h)) := rfl
theorem f112c5_eq : wC P f112c5 Q σ h = (wL P none f112r4 0 (fun σ h => wC P f112c6 Q σ h) σ h) := rfl
theorem f112c17_eq : wC P f112c17 Q σ h = (wL P none f112r11 0 (fun σ h => Q .normal σ h) σ h) := rfl
theorem f112c18_eq : wC P f112c18 Q σ h = (wL P none f112r12 0 (fun σ h => Q .ret σ h) σ h) := rfl
theorem f112c16_eq : wC P f112c16 Q σ h = (bd (evO σ (.tmp 47)) fun v => bd (asB v) fun t => br t (wC P f112c17 (X.then (fun σ h => wC P f112c18 Q σ h) Q) σ h) (wC P f112c18 Q σ h)) := rfl
theorem f112c15_eq : wC P f112c15 Q σ h = (wL P none f112r10 0 (fun σ h => wC P f112c16 Q σ h) σ h) := rfl
theorem f112c4_eq : wC P f112c4 Q σ h = (loopW (wC P f112c5) (X.inBlock 0 (X.then (fun σ h => wC P f112c15 Q σ h) Q)) σ h) := rfl
theorem f112c3_eq : wC P f112c3 Q σ h = (wL P none f112r3 0 (fun σ h => wC P f112c4 Q σ h) σ h) := rfl
theorem f112c2_eq : wC P f112c2 Q σ h = (wL P none f112r2 0 (fun σ h => wC P f112c3 Q σ h) σ h) := rfl
theorem f112c1_eq : wC P f112c1 Q σ h = (wL P none f112r1 0 (fun σ h => wC P f112c2 Q σ h) σ h) := rfl
theorem f112c0_eq : wC P f112c0 Q σ h = (wL P none f112r0 0 (fun σ h => wC P f112c1 Q σ h) σ h) := rfl
end
end Go.Proofs.Ytefghfgmkndikaa
namespace Go.Proofs.Ytefghfgmkndikaa
open Go.AX
set_option maxRecDepth 100000
def f40r0 : List I := [.op (.box 4 70 (.tmp 1)),
 .op (.box 5 72 (.tmp 2)),
 .op (.mov 6 (.const (.slice none 0 0))),
 .kp [0,4,5]]
def f40r1 : List I := [.op (.fad 10 1 (.tmp 4)),
 .op (.ld 11 none (.tmp 10)),
 .op (.fad 12 2 (.tmp 4)),
 .op (.ld 13 none (.tmp 12)),
 .op (.fad 14 7 (.tmp 5)),
 .op (.st 1 (.tmp 14) (.tmp 11)),
 .op (.fad 15 8 (.tmp 5)),
 .op (.st 1 (.tmp 15) (.tmp 13)),
 .kp [0,4,5]]
def f40r2 : List I := [.op (.fad 16 1 (.tmp 4)),
 .op (.ld 17 none (.tmp 16)),
 .kp [0,4,5,17]]
def f40r3 : List I := [.op (.fad 18 8 (.tmp 5)),
 .op (.st 1 (.tmp 18) (.const (.string ⟨#[]⟩))),
 .kp [0,4,5]]
def f40r4 : List I := [.op (.mov 19 (.tmp 0)),
 .op (.call (some 20) 86 [(.tmp 19)]),
 .op (.mov 7 (.tmp 20)),
 .kp [4,5,7]]
def f40r5 : List I := [.op (.mov 22 (.tmp 7)),
 .op (.fad 23 0 (.tmp 4)),
 .op (.ld 24 none (.tmp 23)),
 .op (.call (some 25) 87 [(.tmp 22),(.tmp 24)]),
 .op (.mov 21 (.tmp 25)),
 .op (.ext 26 (.tmp 21) 0),
 .op (.ext 27 (.tmp 21) 1),
 .op (.mov 8 (.tmp 26)),
 .op (.mov 9 (.tmp 27)),
 .kp [4,5,7,8,9]]
def f40r6 : List I := [.op (.mov 28 (.tmp 9)),
 .op (.un 29 .not (.tmp 28)),
 .kp [4,5,7,8,29]]
def f40r7 : List I := [.op (.mov 30 (.tmp 7)),
 .op (.mov 31 (.tmp 8)),
 .op (.fad 32 0 (.tmp 4)),
 .op (.ld 33 none (.tmp 32)),
 .op (.bld 34 [.string ⟨#[]⟩,.slice none 0 0,.bool false,.int .i64 0,.int .i64 0,.int .i64 0,.int .i64 0,.int .i64 0,.int .i64 0,.int .i64 0,.bool false,.string ⟨#[]⟩] [(0,1,(.tmp 33))]),
 .op (.bsl 35 103 1 [.string ⟨#[]⟩,.slice none 0 0,.bool false,.int .i64 0,.int .i64 0,.int .i64 0,.int .i64 0,.int .i64 0,.int .i64 0,.int .i64 0,.bool false,.string ⟨#[]⟩] [(0,12,(.tmp 34))]),
 .op (.call (some 36) 88 [(.tmp 30),(.tmp 31),(.tmp 35)]),
 .op (.mov 7 (.tmp 36)),
 .kp [5,7,8]]
def f40r8 : List I := [.op (.mov 37 (.tmp 7)),
 .op (.mov 38 (.tmp 8)),
 .op (.mov 39 (.tmp 7)),
 .op (.mov 40 (.tmp 8)),
 .op (.ld 41 (some 9) (.tmp 5)),
 .op (.iad 42 12 (.tmp 37) (.tmp 38)),
 .op (.fad 43 2 (.tmp 42)),
 .op (.st 1 (.tmp 43) (.const (.bool true))),
 .op (.iad 44 12 (.tmp 39) (.tmp 40)),
 .op (.fad 45 3 (.tmp 44)),
 .kp [7,41,45],
 .op (.st 9 (.tmp 45) (.tmp 41)),
 .kp [7]]
def f40r9 : List I := [.op (.mov 46 (.tmp 7)),
 .op (.mov 6 (.tmp 46)),
 .kp [6]]
def f40c4 : C := (.reg f40r3)
def f40c9 : C := (.reg f40r7)
def f40c11 : C := (.seq (.reg f40r9) .ret)
def f40c10 : C := (.seq (.drw f40r8) f40c11)
def f40c8 : C := (.seq (.cond (.tmp 29) f40c9 .skip) f40c10)
def f40c7 : C := (.seq (.reg f40r6) f40c8)
def f40c6 : C := (.seq (.reg f40r5) f40c7)
def f40c5 : C := (.seq (.reg f40r4) f40c6)
def f40c3 : C := (.seq (.cond (.tmp 17) f40c4 .skip) f40c5)
def f40c2 : C := (.seq (.reg f40r2) f40c3)
def f40c1 : C := (.seq (.drw f40r1) f40c2)
def f40c0 : C := (.seq (.reg f40r0) f40c1)
theorem f40cmp : cmpF Try.prog Try.f40 [.l [.o 0,.o 1,.o 2,.kp [0,4,5]],
 .l [.o 0,.o 1,.o 2,.o 3,.o 4,.o 5,.o 6,.o 7,.kp [0,4,5]],
 .l [.o 0,.o 1,.kp [0,4,5,17]],
 .l [.o 0,.o 1,.kp [0,4,5]],
 .l [.o 0,.o 1,.o 2,.kp [4,5,7]],
 .l [.o 0,.o 1,.o 2,.o 3,.o 4,.o 5,.o 6,.o 7,.o 8,.kp [4,5,7,8,9]],
 .l [.o 0,.o 1,.kp [4,5,7,8,29]],
 .l [.o 0,.o 1,.o 2,.o 3,.o 4,.o 5,.o 6,.o 7,.kp [5,7,8]],
 .l [.o 0,.o 1,.o 2,.o 3,.o 4,.o 5,.o 6,.o 7,.o 8,.o 9,.kp [7,41,45],.o 10,.kp [7]],
 .l [.o 0,.o 1,.kp [6]]] = some (f40c0,[.tmp 6]) := by kernel_rfl
theorem f40ok {args : List Value} {h : Heap} {R : Value → Heap → Prop} (hn : args.length ≤ 47) (H : wC Try.prog f40c0 (endW [.tmp 6] R) (envOf 0 args) h) : CallsH Try.prog 40 args h R :=
 fn_ok2 Try.func40 f40cmp hn H
section
variable {P : Program} {Q : X → Env → Heap → Prop} {σ : Env} {h : Heap}
theorem f40c4_eq : wC P f40c4 Q σ h = (wL P none f40r3 0 (fun σ h => Q .normal σ h) σ h) := rfl
theorem f40c9_eq : wC P f40c9 Q σ h = (wL P none f40r7 0 (fun σ h => Q .normal σ h) σ h) := rfl
theorem f40c11_eq : wC P f40c11 Q σ h = (wL P none f40r9 0 (fun σ h => Q .ret σ h) σ h) := rfl
theorem f40c10_eq : wC P f40c10 Q σ h = (drwW P f40r8 (fun σ h => wC P f40c11 Q σ h) σ h) := rfl
theorem f40c8_eq : wC P f40c8 Q σ h = (bd (evO σ (.tmp 29)) fun v => bd (asB v) fun t => br t (wC P f40c9 (X.then (fun σ h => wC P f40c10 Q σ h) Q) σ h) (wC P f40c10 Q σ h)) := rfl
theorem f40c7_eq : wC P f40c7 Q σ h = (wL P none f40r6 0 (fun σ h => wC P f40c8 Q σ h) σ h) := rfl
theorem f40c6_eq : wC P f40c6 Q σ h = (wL P none f40r5 0 (fun σ h => wC P f40c7 Q σ h) σ h) := rfl
theorem f40c5_eq : wC P f40c5 Q σ h = (wL P none f40r4 0 (fun σ h => wC P f40c6 Q σ h) σ h) := rfl
theorem f40c3_eq : wC P f40c3 Q σ h = (bd (evO σ (.tmp 17)) fun v => bd (asB v) fun t => br t (wC P f40c4 (X.then (fun σ h => wC P f40c5 Q σ h) Q) σ h) (wC P f40c5 Q σ h)) := rfl
theorem f40c2_eq : wC P f40c2 Q σ h = (wL P none f40r2 0 (fun σ h => wC P f40c3 Q σ h) σ h) := rfl
theorem f40c1_eq : wC P f40c1 Q σ h = (drwW P f40r1 (fun σ h => wC P f40c2 Q σ h) σ h) := rfl
theorem f40c0_eq : wC P f40c0 Q σ h = (wL P none f40r0 0 (fun σ h => wC P f40c1 Q σ h) σ h) := rfl
end
def f79r0 : List I := [.op (.box 4 70 (.tmp 1)),
 .op (.box 5 72 (.tmp 2)),
 .op (.mov 6 (.const (.slice none 0 0))),
 .kp [0,4,5]]
def f79r1 : List I := [.op (.mov 9 (.tmp 0)),
 .op (.call (some 10) 48 [(.tmp 9)]),
 .op (.mov 7 (.tmp 10)),
 .kp [4,5,7]]
def f79r2 : List I := [.op (.fad 11 1 (.tmp 4)),
 .op (.ld 12 none (.tmp 11)),
 .op (.fad 13 2 (.tmp 4)),
 .op (.ld 14 none (.tmp 13)),
 .op (.fad 15 7 (.tmp 5)),
 .op (.st 1 (.tmp 15) (.tmp 12)),
 .op (.fad 16 8 (.tmp 5)),
 .op (.st 1 (.tmp 16) (.tmp 14)),
 .kp [4,5,7]]
def f79r3 : List I := [.op (.fad 17 1 (.tmp 4)),
 .op (.ld 18 none (.tmp 17)),
 .kp [4,5,7,18]]
def f79r4 : List I := [.op (.fad 19 8 (.tmp 5)),
 .op (.st 1 (.tmp 19) (.const (.string ⟨#[]⟩))),
 .kp [4,5,7]]
def f79r5 : List I := [.op (.mov 20 (.tmp 7)),
 .op (.fad 21 0 (.tmp 4)),
 .op (.ld 22 none (.tmp 21)),
 .op (.call (some 23) 108 [(.tmp 20),(.tmp 22)]),
 .op (.mov 8 (.tmp 23)),
 .kp [4,5,7,8]]
def f79r6 : List I := [.op (.mov 24 (.tmp 8)),
 .op (.bin 25 .lss (.tmp 24) (.const (.int .i64 0))),
 .kp [4,5,7,8,25]]
def f79r7 : List I := [.op (.mov 8 (.const (.int .i64 0))),
 .kp [4,5,7,8]]
def f79r8 : List I := [.op (.mov 26 (.tmp 8)),
 .op (.mov 27 (.tmp 7)),
 .op (.len 28 true (.tmp 27)),
 .op (.bin 29 .lss (.tmp 26) (.tmp 28)),
 .op (.mov 30 (.tmp 29)),
 .sc 30 true 8,
 .g 30 true (.mov 31 (.tmp 7)),
 .g 30 true (.mov 32 (.tmp 8)),
 .g 30 true (.iad 33 12 (.tmp 31) (.tmp 32)),
 .g 30 true (.fad 34 0 (.tmp 33)),
 .g 30 true (.ld 35 none (.tmp 34)),
 .g 30 true (.fad 36 0 (.tmp 4)),
 .g 30 true (.ld 37 none (.tmp 36)),
 .g 30 true (.bin 38 .lss (.tmp 35) (.tmp 37)),
 .op (.pick 39 (.tmp 30) (.tmp 38) (.const (.bool false))),
 .kp [4,5,7,8,39]]
def f79r9 : List I := [.op (.mov 40 (.tmp 8)),
 .op (.bin 41 .add (.tmp 40) (.const (.int .i64 1))),
 .op (.mov 8 (.tmp 41)),
 .kp [4,5,7,8]]
def f79r10 : L := (.one [.op (.mov 43 (.tmp 7)),
 .op (.mov 44 (.tmp 8)),
 .op (.slc 45 12 (.tmp 43) none (some (.tmp 44)) none),
 .op (.fad 47 0 (.tmp 4)),
 .op (.ld 48 none (.tmp 47)),
 .op (.bld 49 [.string ⟨#[]⟩,.slice none 0 0,.bool false,.int .i64 0,.int .i64 0,.int .i64 0,.int .i64 0,.int .i64 0,.int .i64 0,.int .i64 0,.bool false,.string ⟨#[]⟩] [(0,1,(.tmp 48))]),
 .op (.mov 52 (.tmp 7)),
 .op (.mov 53 (.tmp 8)),
 .op (.slc 54 12 (.tmp 52) (some (.tmp 53)) none none)] (.alt (.one [.op (.bsl 42 103 0 [] [])] (.alt (.one [.op (.raw (some 46) ⟨(some 46), (.call ⟨(.builtin .append), #[(.tmp 42), (.tmp 45)], #[74, 74]⟩), 74, "ref.go:115", #[⟨0, .data⟩, ⟨3, .data⟩], none⟩),
 .op (.bsl 50 103 1 [.string ⟨#[]⟩,.slice none 0 0,.bool false,.int .i64 0,.int .i64 0,.int .i64 0,.int .i64 0,.int .i64 0,.int .i64 0,.int .i64 0,.bool false,.string ⟨#[]⟩] [(0,12,(.tmp 49))]),
 .op (.raw (some 51) ⟨(some 51), (.call ⟨(.builtin .append), #[(.tmp 46), (.tmp 50)], #[74, 74]⟩), 74, "ref.go:115", #[⟨4, .data⟩, ⟨8, .data⟩, ⟨4, .chain⟩], none⟩),
 .op (.raw (some 55) ⟨(some 55), (.call ⟨(.builtin .append), #[(.tmp 51), (.tmp 54)], #[74, 74]⟩), 74, "ref.go:115", #[⟨9, .data⟩, ⟨12, .data⟩, ⟨9, .chain⟩], none⟩),
 .op (.mov 7 (.tmp 55)),
 .kp [5,7,8]] .nil) (.one [.op (.bsl 50 103 1 [.string ⟨#[]⟩,.slice none 0 0,.bool false,.int .i64 0,.int .i64 0,.int .i64 0,.int .i64 0,.int .i64 0,.int .i64 0,.int .i64 0,.bool false,.string ⟨#[]⟩] [(0,12,(.tmp 49))]),
 .op (.raw (some 46) ⟨(some 46), (.call ⟨(.builtin .append), #[(.tmp 42), (.tmp 45)], #[74, 74]⟩), 74, "ref.go:115", #[⟨0, .data⟩, ⟨3, .data⟩], none⟩),
 .op (.raw (some 51) ⟨(some 51), (.call ⟨(.builtin .append), #[(.tmp 46), (.tmp 50)], #[74, 74]⟩), 74, "ref.go:115", #[⟨4, .data⟩, ⟨8, .data⟩, ⟨4, .chain⟩], none⟩),
 .op (.raw (some 55) ⟨(some 55), (.call ⟨(.builtin .append), #[(.tmp 51), (.tmp 54)], #[74, 74]⟩), 74, "ref.go:115", #[⟨9, .data⟩, ⟨12, .data⟩, ⟨9, .chain⟩], none⟩),
 .op (.mov 7 (.tmp 55)),
 .kp [5,7,8]] .nil))) (.one [.op (.bsl 50 103 1 [.string ⟨#[]⟩,.slice none 0 0,.bool false,.int .i64 0,.int .i64 0,.int .i64 0,.int .i64 0,.int .i64 0,.int .i64 0,.int .i64 0,.bool false,.string ⟨#[]⟩] [(0,12,(.tmp 49))]),
 .op (.bsl 42 103 0 [] []),
 .op (.raw (some 46) ⟨(some 46), (.call ⟨(.builtin .append), #[(.tmp 42), (.tmp 45)], #[74, 74]⟩), 74, "ref.go:115", #[⟨0, .data⟩, ⟨3, .data⟩], none⟩),
 .op (.raw (some 51) ⟨(some 51), (.call ⟨(.builtin .append), #[(.tmp 46), (.tmp 50)], #[74, 74]⟩), 74, "ref.go:115", #[⟨4, .data⟩, ⟨8, .data⟩, ⟨4, .chain⟩], none⟩),
 .op (.raw (some 55) ⟨(some 55), (.call ⟨(.builtin .append), #[(.tmp 51), (.tmp 54)], #[74, 74]⟩), 74, "ref.go:115", #[⟨9, .data⟩, ⟨12, .data⟩, ⟨9, .chain⟩], none⟩),
 .op (.mov 7 (.tmp 55)),
 .kp [5,7,8]] .nil)))
def f79r11 : List I := [.op (.mov 56 (.tmp 7)),
 .op (.mov 57 (.tmp 8)),
 .op (.mov 58 (.tmp 7)),
 .op (.mov 59 (.tmp 8)),
 .op (.ld 60 (some 9) (.tmp 5)),
 .op (.iad 61 12 (.tmp 56) (.tmp 57)),
 .op (.fad 62 2 (.tmp 61)),
 .op (.st 1 (.tmp 62) (.const (.bool true))),
 .op (.iad 63 12 (.tmp 58) (.tmp 59)),
 .op (.fad 64 3 (.tmp 63)),
 .kp [7,60,64],
 .op (.st 9 (.tmp 64) (.tmp 60)),
 .kp [7]]
def f79r12 : List I := [.op (.mov 65 (.tmp 7)),
 .op (.mov 6 (.tmp 65)),
 .kp [6]]
def f79c5 : C := (.reg f79r4)
def f79c14 : C := (.reg f79r9)
def f79c13 : C := (.block 1 f79c14)
def f79c12 : C := (.seq (.cond (.tmp 39) .skip (.exit 0)) f79c13)
def f79c11 : C := (.seq (.drw f79r8) f79c12)
def f79c15 : C := (.drt f79r10)
def f79c10 : C := (.seq (.block 0 (.loop f79c11)) f79c15)
def f79c9 : C := (.seq (.reg f79r7) f79c10)
def f79c17 : C := (.seq (.reg f79r12) .ret)
def f79c16 : C := (.seq (.drw f79r11) f79c17)
def f79c8 : C := (.seq (.cond (.tmp 25) f79c9 .skip) f79c16)
def f79c7 : C := (.seq (.reg f79r6) f79c8)
def f79c6 : C := (.seq (.reg f79r5) f79c7)
def f79c4 : C := (.seq (.cond (.tmp 18) f79c5 .skip) f79c6)
def f79c3 : C := (.seq (.reg f79r3) f79c4)
def f79c2 : C := (.seq (.drw f79r2) f79c3)
def f79c1 : C := (.seq (.reg f79r1) f79c2)
def f79c0 : C := (.seq (.reg f79r0) f79c1)
theorem f79cmp : cmpF Try.prog Try.f79 [.l [.o 0,.o 1,.o 2,.kp [0,4,5]],
 .l [.o 0,.o 1,.o 2,.kp [4,5,7]],
 .l [.o 0,.o 1,.o 2,.o 3,.o 4,.o 5,.o 6,.o 7,.kp [4,5,7]],
 .l [.o 0,.o 1,.kp [4,5,7,18]],
 .l [.o 0,.o 1,.kp [4,5,7]],
 .l [.o 0,.o 1,.o 2,.o 3,.o 4,.kp [4,5,7,8]],
 .l [.o 0,.o 1,.kp [4,5,7,8,25]],
 .l [.o 0,.kp [4,5,7,8]],
 .l [.o 0,.o 1,.o 2,.o 3,.o 4,.sc 30 true 8,.o 5,.o 6,.o 7,.o 8,.o 9,.o 10,.o 11,.o 12,.o 13,.kp [4,5,7,8,39]],
 .l [.o 0,.o 1,.o 2,.kp [4,5,7,8]],
 .t (.one [.o 1,.o 2,.o 3,.o 5,.o 6,.o 7,.o 10,.o 11,.o 12] (.alt (.one [.o 0] (.alt (.one [.o 4,.o 8,.o 9,.o 13,.o 14,.kp [5,7,8]] .nil) (.one [.o 8,.o 4,.o 9,.o 13,.o 14,.kp [5,7,8]] .nil))) (.one [.o 8,.o 0,.o 4,.o 9,.o 13,.o 14,.kp [5,7,8]] .nil))),
 .l [.o 0,.o 1,.o 2,.o 3,.o 4,.o 5,.o 6,.o 7,.o 8,.o 9,.kp [7,60,64],.o 10,.kp [7]],
 .l [.o 0,.o 1,.kp [6]]] = some (f79c0,[.tmp 6]) := by kernel_rfl
theorem f79ok {args : List Value} {h : Heap} {R : Value → Heap → Prop} (hn : args.length ≤ 66) (H : wC Try.prog f79c0 (endW [.tmp 6] R) (envOf 0 args) h) : CallsH Try.prog 79 args h R :=
 fn_ok2 Try.func79 f79cmp hn H
section
variable {P : Program} {Q : X → Env → Heap → Prop} {σ : Env} {h : Heap}
theorem f79c5_eq : wC P f79c5 Q σ h = (wL P none f79r4 0 (fun σ h => Q .normal σ h) σ h) := rfl
theorem f79c14_eq : wC P f79c14 Q σ h = (wL P none f79r9 0 (fun σ h => Q .normal σ h) σ h) := rfl
theorem f79c13_eq : wC P f79c13 Q σ h = (wC P f79c14 (X.inBlock 1 Q) σ h) := rfl
theorem f79c12_eq : wC P f79c12 Q σ h = (bd (evO σ (.tmp 39)) fun v => bd (asB v) fun t => br t (wC P f79c13 Q σ h) (Q (.exit 0) σ h)) := rfl
theorem f79c11_eq : wC P f79c11 Q σ h = (drwW P f79r8 (fun σ h => wC P f79c12 Q σ h) σ h) := rfl
theorem f79c15_eq : wC P f79c15 Q σ h = (drtW P f79r10 (fun σ h => Q .normal σ h) σ h) := rfl
theorem f79c10_eq : wC P f79c10 Q σ h = (loopW (wC P f79c11) (X.inBlock 0 (X.then (fun σ h => wC P f79c15 Q σ h) Q)) σ h) := rfl
theorem f79c9_eq : wC P f79c9 Q σ h = (wL P none f79r7 0 (fun σ h => wC P f79c10 Q σ h) σ h) := rfl
theorem f79c17_eq : wC P f79c17 Q σ h = (wL P none f79r12 0 (fun σ h => Q .ret σ h) σ h) := rfl
theorem f79c16_eq : wC P f79c16 Q σ h = (drwW P f79r11 (fun σ h => wC P f79c17 Q σ h) σ h) := rfl
theorem f79c8_eq : wC P f79c8 Q σ h = (bd (evO σ (.tmp 25)) fun v => bd (asB v) fun t => br t (wC P f79c9 (X.then (fun σ h => wC P f79c16 Q σ h) Q) σ h) (wC P f79c16 Q σ h)) := rfl
theorem f79c7_eq : wC P f79c7 Q σ h = (wL P none f79r6 0 (fun σ h => wC P f79c8 Q σ h) σ h) := rfl
theorem f79c6_eq : wC P f79c6 Q σ h = (wL P none f79r5 0 (fun σ h => wC P f79c7 Q σ h) σ h) := rfl
theorem f79c4_eq : wC P f79c4 Q σ h = (bd (evO σ (.tmp 18)) fun v => bd (asB v) fun t => br t (wC P f79c5 (X.then (fun σ h => wC P f79c6 Q σ h) Q) σ h) (wC P f79c6 Q σ h)) := rfl
theorem f79c3_eq : wC P f79c3 Q σ h = (wL P none f79r3 0 (fun σ h => wC P f79c4 Q σ h) σ h) := rfl
theorem f79c2_eq : wC P f79c2 Q σ h = (drwW P f79r2 (fun σ h => wC P f79c3 Q σ h) σ h) := rfl
theorem f79c1_eq : wC P f79c1 Q σ h = (wL P none f79r1 0 (fun σ h => wC P f79c2 Q σ h) σ h) := rfl
theorem f79c0_eq : wC P f79c0 Q σ h = (wL P none f79r0 0 (fun σ h => wC P f79c1 Q σ h) σ h) := rfl
end
def f39r0 : List I := [.op (.box 4 37 (.tmp 1)),
 .op (.mov 6 (.const (.slice none 0 0))),
 .kp [0,2,4]]
def f39r1 : List I := [.op (.mov 7 (.const (.slice none 0 0))),
 .kp [0,2,4,7]]
def f39r2 : List I := [.op (.mov 10 (.tmp 0)),
 .op (.len 11 true (.tmp 10)),
 .op (.mov 12 (.const (.int .i64 0))),
 .kp [2,4,7,10,11,12]]
def f39r3 : List I := [.op (.bin 13 .lss (.tmp 12) (.tmp 11)),
 .kp [2,4,7,10,11,12,13]]
def f39r4 : List I := [.op (.iad 14 12 (.tmp 10) (.tmp 12)),
 .op (.ld 15 (some 12) (.tmp 14)),
 .op (.new 9 103 [.string ⟨#[]⟩,.slice none 0 0,.bool false,.int .i64 0,.int .i64 0,.int .i64 0,.int .i64 0,.int .i64 0,.int .i64 0,.int .i64 0,.bool false,.string ⟨#[]⟩]),
 .op (.st 12 (.tmp 9) (.tmp 15)),
 .kp [2,4,7,9,10,11,12]]
def f39r5 : List I := [.op (.ld 16 (some 12) (.tmp 9)),
 .op (.call (some 17) 84 [(.tmp 16)]),
 .op (.st 12 (.tmp 9) (.tmp 17)),
 .kp [2,4,7,9,10,11,12]]
def f39r6 : List I := [.op (.fad 18 2 (.tmp 9)),
 .op (.ld 19 none (.tmp 18)),
 .op (.mov 20 (.tmp 19)),
 .sc 20 true 5,
 .g 20 true (.fad 21 3 (.tmp 9)),
 .g 20 true (.fad 22 0 (.tmp 21)),
 .g 20 true (.ld 23 (some 4) (.tmp 22)),
 .g 20 true (.ld 24 (some 4) (.tmp 4)),
 .g 20 true (.eqa 25 false [.i .i64,.i .i64,.i .i64,.i .i64] (.tmp 23) (.tmp 24)),
 .op (.pick 26 (.tmp 20) (.tmp 25) (.const (.bool false))),
 .kp [2,4,7,9,10,11,12,26]]
def f39r7 : List I := [.op (.mov 27 (.tmp 2)),
 .kp [2,4,7,9,10,11,12,27]]
def f39r8 : List I := [.op (.fad 28 1 (.tmp 9)),
 .op (.ld 29 none (.tmp 28)),
 .op (.fad 30 3 (.tmp 9)),
 .op (.fad 31 5 (.tmp 30)),
 .op (.ld 32 (some 2) (.tmp 31)),
 .op (.fad 33 3 (.tmp 9)),
 .op (.fad 34 7 (.tmp 33)),
 .op (.ld 35 none (.tmp 34)),
 .op (.fad 36 3 (.tmp 9)),
 .op (.fad 37 8 (.tmp 36)),
 .kp [2,4,7,9,10,11,12,29,32,35,37],
 .op (.ld 38 none (.tmp 37)),
 .op (.bld 39 [.int .i64 0,.int .i64 0,.bool false,.string ⟨#[]⟩] [(0,2,(.tmp 32)),(2,1,(.tmp 35)),(3,1,(.tmp 38))]),
 .op (.call (some 40) 85 [(.tmp 29),(.tmp 39)]),
 .op (.fad 41 1 (.tmp 9)),
 .op (.st 1 (.tmp 41) (.tmp 40)),
 .kp [2,4,7,9,10,11,12]]
def f39r9 : List I := [.op (.bld 42 [.int .i64 0,.int .i64 0,.int .i64 0,.int .i64 0,.int .i64 0,.int .i64 0,.int .i64 0,.bool false,.string ⟨#[]⟩] []),
 .op (.fad 43 2 (.tmp 9)),
 .op (.st 1 (.tmp 43) (.const (.bool false))),
 .op (.fad 44 3 (.tmp 9)),
 .op (.st 9 (.tmp 44) (.tmp 42)),
 .kp [2,4,7,9,10,11,12]]
def f39r10 : List I := [.op (.fad 45 2 (.tmp 9)),
 .op (.ld 46 none (.tmp 45)),
 .op (.mov 47 (.tmp 46)),
 .sc 47 false 4,
 .g 47 false (.fad 48 1 (.tmp 9)),
 .g 47 false (.ld 49 none (.tmp 48)),
 .g 47 false (.len 50 true (.tmp 49)),
 .g 47 false (.bin 51 .gtr (.tmp 50) (.const (.int .i64 0))),
 .op (.pick 52 (.tmp 47) (.const (.bool true)) (.tmp 51)),
 .kp [2,4,7,9,10,11,12,52]]
def f39r11 : List I := [.op (.mov 53 (.tmp 7)),
 .op (.ld 54 (some 12) (.tmp 9)),
 .op (.bsl 55 103 1 [.string ⟨#[]⟩,.slice none 0 0,.bool false,.int .i64 0,.int .i64 0,.int .i64 0,.int .i64 0,.int .i64 0,.int .i64 0,.int .i64 0,.bool false,.string ⟨#[]⟩] [(0,12,(.tmp 54))]),
 .op (.raw (some 56) ⟨(some 56), (.call ⟨(.builtin .append), #[(.tmp 53), (.tmp 55)], #[74, 74]⟩), 74, "mvcc.go:162", #[⟨0, .data⟩, ⟨2, .data⟩], none⟩),
 .op (.mov 7 (.tmp 56)),
 .kp [2,4,7,10,11,12]]
def f39r12 : List I := [.op (.bin 57 .add (.tmp 12) (.const (.int .i64 1))),
 .op (.mov 12 (.tmp 57)),
 .kp [2,4,7,10,11,12]]
def f39r13 : List I := [.op (.mov 58 (.tmp 7)),
 .op (.mov 6 (.tmp 58)),
 .kp [6]]
def f39c13 : C := (.reg f39r8)
def f39c14 : C := (.reg f39r9)
def f39c12 : C := (.seq (.cond (.tmp 27) f39c13 .skip) f39c14)
def f39c11 : C := (.seq (.reg f39r7) f39c12)
def f39c17 : C := (.reg f39r11)
def f39c16 : C := (.cond (.tmp 52) f39c17 .skip)
def f39c15 : C := (.seq (.reg f39r10) f39c16)
def f39c10 : C := (.seq (.cond (.tmp 26) f39c11 .skip) f39c15)
def f39c9 : C := (.seq (.reg f39r6) f39c10)
def f39c8 : C := (.seq (.reg f39r5) f39c9)
def f39c7 : C := (.seq (.reg f39r4) f39c8)
def f39c18 : C := (.reg f39r12)
def f39c6 : C := (.seq (.block 1 f39c7) f39c18)
def f39c5 : C := (.seq (.cond (.tmp 13) .skip (.exit 0)) f39c6)
def f39c4 : C := (.seq (.reg f39r3) f39c5)
def f39c19 : C := (.seq (.reg f39r13) .ret)
def f39c3 : C := (.seq (.block 0 (.loop f39c4)) f39c19)
def f39c2 : C := (.seq (.reg f39r2) f39c3)
def f39c1 : C := (.seq (.reg f39r1) f39c2)
def f39c0 : C := (.seq (.reg f39r0) f39c1)
theorem f39cmp : cmpF Try.prog Try.f39 [.l [.o 0,.o 1,.kp [0,2,4]],
 .l [.o 0,.kp [0,2,4,7]],
 .l [.o 0,.o 1,.o 2,.kp [2,4,7,10,11,12]],
 .l [.o 0,.kp [2,4,7,10,11,12,13]],
 .l [.o 0,.o 1,.o 2,.o 3,.kp [2,4,7,9,10,11,12]],
 .l [.o 0,.o 1,.o 2,.kp [2,4,7,9,10,11,12]],
 .l [.o 0,.o 1,.o 2,.sc 20 true 5,.o 3,.o 4,.o 5,.o 6,.o 7,.o 8,.kp [2,4,7,9,10,11,12,26]],
 .l [.o 0,.kp [2,4,7,9,10,11,12,27]],
 .l [.o 0,.o 1,.o 2,.o 3,.o 4,.o 5,.o 6,.o 7,.o 8,.o 9,.kp [2,4,7,9,10,11,12,29,32,35,37],.o 10,.o 11,.o 12,.o 13,.o 14,.kp [2,4,7,9,10,11,12]],
 .l [.o 0,.o 1,.o 2,.o 3,.o 4,.kp [2,4,7,9,10,11,12]],
 .l [.o 0,.o 1,.o 2,.sc 47 false 4,.o 3,.o 4,.o 5,.o 6,.o 7,.kp [2,4,7,9,10,11,12,52]],
 .l [.o 0,.o 1,.o 2,.o 3,.o 4,.kp [2,4,7,10,11,12]],
 .l [.o 0,.o 1,.kp [2,4,7,10,11,12]],
 .l [.o 0,.o 1,.kp [6]]] = some (f39c0,[.tmp 6]) := by kernel_rfl
theorem f39ok {args : List Value} {h : Heap} {R : Value → Heap → Prop} (hn : args.length ≤ 59) (H : wC Try.prog f39c0 (endW [.tmp 6] R) (envOf 0 args) h) : CallsH Try.prog 39 args h R :=
 fn_ok2 Try.func39 f39cmp hn H
section
variable {P : Program} {Q : X → Env → Heap → Prop} {σ : Env} {h : Heap}
theorem f39c13_eq : wC P f39c13 Q σ h = (wL P none f39r8 0 (fun σ h => Q .normal σ h) σ h) := rfl
theorem f39c14_eq : wC P f39c14 Q σ h = (wL P none f39r9 0 (fun σ h => Q .normal σ h) σ h) := rfl
theorem f39c12_eq : wC P f39c12 Q σ h = (bd (evO σ (.tmp 27)) fun v => bd (asB v) fun t => br t (wC P f39c13 (X.then (fun σ h => wC P f39c14 Q σ h) Q) σ h) (wC P f39c14 Q σ h)) := rfl
theorem f39c11_eq : wC P f39c11 Q σ h = (wL P none f39r7 0 (fun σ h => wC P f39c12 Q σ h) σ h) := rfl
theorem f39c17_eq : wC P f39c17 Q σ h = (wL P none f39r11 0 (fun σ h => Q .normal σ h) σ h) := rfl
theorem f39c16_eq : wC P f39c16 Q σ h = (bd (evO σ (.tmp 52)) fun v => bd (asB v) fun t => br t (wC P f39c17 Q σ h) (Q .normal σ h)) := rfl
theorem f39c15_eq : wC P f39c15 Q σ h = (wL P none f39r10 0 (fun σ h => wC P f39c16 Q σ h) σ h) := rfl
theorem f39c10_eq : wC P f39c10 Q σ h = (bd (evO σ (.tmp 26)) fun v => bd (asB v) fun t => br t (wC P f39c11 (X.then (fun σ h => wC P f39c15 Q σ h) Q) σ h) (wC P f39c15 Q σ h)) := rfl
theorem f39c9_eq : wC P f39c9 Q σ h = (wL P none f39r6 0 (fun σ h => wC P f39c10 Q σ h) σ h) := rfl
theorem f39c8_eq : wC P f39c8 Q σ h = (wL P none f39r5 0 (fun σ h => wC P f39c9 Q σ h) σ h) := rfl
theorem f39c7_eq : wC P f39c7 Q σ h = (wL P none f39r4 0 (fun σ h => wC P f39c8 Q σ h) σ h) := rfl
theorem f39c18_eq : wC P f39c18 Q σ h = (wL P none f39r12 0 (fun σ h => Q .normal σ h) σ h) := rfl
theorem f39c6_eq : wC P f39c6 Q σ h = (wC P f39c7 (X.inBlock 1 (X.then (fun σ h => wC P f39c18 Q σ h) Q)) σ h) := rfl
theorem f39c5_eq : wC P f39c5 Q σ h = (bd (evO σ (.tmp 13)) fun v => bd (asB v) fun t => br t (wC P f39c6 Q σ h) (Q (.exit 0) σ h)) := rfl
theorem f39c4_eq : wC P f39c4 Q σ h = (wL P none f39r3 0 (fun σ h => wC P f39c5 Q σ h) σ h) := rfl
theorem f39c19_eq : wC P f39c19 Q σ h = (wL P none f39r13 0 (fun σ h => Q .ret σ h) σ h) := rfl
theorem f39c3_eq : wC P f39c3 Q σ h = (loopW (wC P f39c4) (X.inBlock 0 (X.then (fun σ h => wC P f39c19 Q σ h) Q)) σ h) := rfl
theorem f39c2_eq : wC P f39c2 Q σ h = (wL P none f39r2 0 (fun σ h => wC P f39c3 Q σ h) σ h) := rfl
theorem f39c1_eq : wC P f39c1 Q σ h = (wL P none f39r1 0 (fun σ h => wC P f39c2 Q σ h) σ h) := rfl
theorem f39c0_eq : wC P f39c0 Q σ h = (wL P none f39r0 0 (fun σ h => wC P f39c1 Q σ h) σ h) := rfl
end
def f80r0 : List I := [.op (.box 4 37 (.tmp 1)),
 .op (.mov 6 (.const (.slice none 0 0))),
 .kp [0,2,4]]
def f80r1 : List I := [.op (.mov 7 (.const (.slice none 0 0))),
 .kp [0,2,4,7]]
def f80r2 : List I := [.op (.mov 11 (.tmp 0)),
 .op (.call (some 12) 48 [(.tmp 11)]),
 .op (.mov 8 (.tmp 12)),
 .kp [2,4,7,8]]
def f80r3 : List I := [.op (.mov 9 (.const (.int .i64 0))),
 .kp [2,4,7,8,9]]
def f80r4 : List I := [.op (.mov 13 (.tmp 9)),
 .op (.mov 14 (.tmp 8)),
 .op (.len 15 true (.tmp 14)),
 .op (.bin 16 .lss (.tmp 13) (.tmp 15)),
 .kp [2,4,7,8,9,16]]
def f80r5 : List I := [.op (.mov 19 (.tmp 8)),
 .op (.mov 20 (.tmp 9)),
 .op (.iad 21 12 (.tmp 19) (.tmp 20)),
 .op (.ld 22 (some 12) (.tmp 21)),
 .op (.new 10 103 [.string ⟨#[]⟩,.slice none 0 0,.bool false,.int .i64 0,.int .i64 0,.int .i64 0,.int .i64 0,.int .i64 0,.int .i64 0,.int .i64 0,.bool false,.string ⟨#[]⟩]),
 .op (.st 12 (.tmp 10) (.tmp 22)),
 .kp [2,4,7,8,9,10]]
def f80r6 : List I := [.op (.fad 23 2 (.tmp 10)),
 .op (.ld 24 none (.tmp 23)),
 .op (.mov 25 (.tmp 24)),
 .sc 25 true 5,
 .g 25 true (.fad 26 3 (.tmp 10)),
 .g 25 true (.fad 27 0 (.tmp 26)),
 .g 25 true (.ld 28 (some 4) (.tmp 27)),
 .g 25 true (.ld 29 (some 4) (.tmp 4)),
 .g 25 true (.eqa 30 false [.i .i64,.i .i64,.i .i64,.i .i64] (.tmp 28) (.tmp 29)),
 .op (.pick 31 (.tmp 25) (.tmp 30) (.const (.bool false))),
 .kp [2,4,7,8,9,10,31]]
def f80r7 : List I := [.op (.mov 32 (.tmp 2)),
 .kp [2,4,7,8,9,10,32]]
def f80r8 : List I := [.op (.fad 33 1 (.tmp 10)),
 .op (.ld 34 none (.tmp 33)),
 .op (.fad 35 3 (.tmp 10)),
 .op (.fad 36 5 (.tmp 35)),
 .op (.ld 37 (some 2) (.tmp 36)),
 .op (.fad 38 3 (.tmp 10)),
 .op (.fad 39 7 (.tmp 38)),
 .op (.ld 40 none (.tmp 39)),
 .op (.fad 41 3 (.tmp 10)),
 .op (.fad 42 8 (.tmp 41)),
 .kp [2,4,7,8,9,10,34,37,40,42],
 .op (.ld 43 none (.tmp 42)),
 .op (.bld 44 [.int .i64 0,.int .i64 0,.bool false,.string ⟨#[]⟩] [(0,2,(.tmp 37)),(2,1,(.tmp 40)),(3,1,(.tmp 43))]),
 .op (.call (some 45) 112 [(.tmp 34),(.tmp 44)]),
 .op (.fad 46 1 (.tmp 10)),
 .op (.st 1 (.tmp 46) (.tmp 45)),
 .kp [2,4,7,8,9,10]]
def f80r9 : List I := [.op (.bld 47 [.int .i64 0,.int .i64 0,.int .i64 0,.int .i64 0,.int .i64 0,.int .i64 0,.int .i64 0,.bool false,.string ⟨#[]⟩] []),
 .op (.fad 48 2 (.tmp 10)),
 .op (.st 1 (.tmp 48) (.const (.bool false))),
 .op (.fad 49 3 (.tmp 10)),
 .op (.st 9 (.tmp 49) (.tmp 47)),
 .kp [2,4,7,8,9,10]]
def f80r10 : List I := [.op (.fad 50 2 (.tmp 10)),
 .op (.ld 51 none (.tmp 50)),
 .op (.mov 52 (.tmp 51)),
 .sc 52 false 4,
 .g 52 false (.fad 53 1 (.tmp 10)),
 .g 52 false (.ld 54 none (.tmp 53)),
 .g 52 false (.len 55 true (.tmp 54)),
 .g 52 false (.bin 56 .gtr (.tmp 55) (.const (.int .i64 0))),
 .op (.pick 57 (.tmp 52) (.const (.bool true)) (.tmp 56)),
 .kp [2,4,7,8,9,10,57]]
def f80r11 : List I := [.op (.mov 58 (.tmp 7)),
 .op (.ld 59 (some 12) (.tmp 10)),
 .op (.bsl 60 103 1 [.string ⟨#[]⟩,.slice none 0 0,.bool false,.int .i64 0,.int .i64 0,.int .i64 0,.int .i64 0,.int .i64 0,.int .i64 0,.int .i64 0,.bool false,.string ⟨#[]⟩] [(0,12,(.tmp 59))]),
 .op (.raw (some 61) ⟨(some 61), (.call ⟨(.builtin .append), #[(.tmp 58), (.tmp 60)], #[74, 74]⟩), 74, "ref.go:171", #[⟨0, .data⟩, ⟨2, .data⟩], none⟩),
 .op (.mov 7 (.tmp 61)),
 .kp [2,4,7,8,9]]
def f80r12 : List I := [.op (.mov 17 (.tmp 9)),
 .op (.bin 18 .add (.tmp 17) (.const (.int .i64 1))),
 .op (.mov 9 (.tmp 18)),
 .kp [2,4,7,8,9]]
def f80r13 : List I := [.op (.mov 62 (.tmp 7)),
 .op (.mov 6 (.tmp 62)),
 .kp [6]]
def f80c13 : C := (.reg f80r8)
def f80c14 : C := (.reg f80r9)
def f80c12 : C := (.seq (.cond (.tmp 32) f80c13 .skip) f80c14)
def f80c11 : C := (.seq (.reg f80r7) f80c12)
def f80c17 : C := (.reg f80r11)
def f80c16 : C := (.cond (.tmp 57) f80c17 .skip)
def f80c15 : C := (.seq (.reg f80r10) f80c16)
def f80c10 : C := (.seq (.cond (.tmp 31) f80c11 .skip) f80c15)
def f80c9 : C := (.seq (.reg f80r6) f80c10)
def f80c8 : C := (.seq (.reg f80r5) f80c9)
def f80c18 : C := (.reg f80r12)
def f80c7 : C := (.seq (.block 1 f80c8) f80c18)
def f80c6 : C := (.seq (.cond (.tmp 16) .skip (.exit 0)) f80c7)
def f80c5 : C := (.seq (.reg f80r4) f80c6)
def f80c19 : C := (.seq (.reg f80r13) .ret)
def f80c4 : C := (.seq (.block 0 (.loop f80c5)) f80c19)
def f80c3 : C := (.seq (.reg f80r3) f80c4)
def f80c2 : C := (.seq (.reg f80r2) f80c3)
def f80c1 : C := (.seq (.reg f80r1) f80c2)
def f80c0 : C := (.seq (.reg f80r0) f80c1)
theorem f80cmp : cmpF Try.prog Try.f80 [.l [.o 0,.o 1,.kp [0,2,4]],
 .l [.o 0,.kp [0,2,4,7]],
 .l [.o 0,.o 1,.o 2,.kp [2,4,7,8]],
 .l [.o 0,.kp [2,4,7,8,9]],
 .l [.o 0,.o 1,.o 2,.o 3,.kp [2,4,7,8,9,16]],
 .l [.o 0,.o 1,.o 2,.o 3,.o 4,.o 5,.kp [2,4,7,8,9,10]],
 .l [.o 0,.o 1,.o 2,.sc 25 true 5,.o 3,.o 4,.o 5,.o 6,.o 7,.o 8,.kp [2,4,7,8,9,10,31]],
 .l [.o 0,.kp [2,4,7,8,9,10,32]],
 .l [.o 0,.o 1,.o 2,.o 3,.o 4,.o 5,.o 6,.o 7,.o 8,.o 9,.kp [2,4,7,8,9,10,34,37,40,42],.o 10,.o 11,.o 12,.o 13,.o 14,.kp [2,4,7,8,9,10]],
 .l [.o 0,.o 1,.o 2,.o 3,.o 4,.kp [2,4,7,8,9,10]],
 .l [.o 0,.o 1,.o 2,.sc 52 false 4,.o 3,.o 4,.o 5,.o 6,.o 7,.kp [2,4,7,8,9,10,57]],
 .l [.o 0,.o 1,.o 2,.o 3,.o 4,.kp [2,4,7,8,9]],
 .l [.o 0,.o 1,.o 2,.kp [2,4,7,8,9]],
 .l [.o 0,.o 1,.kp [6]]] = some (f80c0,[.tmp 6]) := by kernel_rfl
theorem f80ok {args : List Value} {h : Heap} {R : Value → Heap → Prop} (hn : args.length ≤ 63) (H : wC Try.prog f80c0 (endW [.tmp 6] R) (envOf 0 args) h) : CallsH Try.prog 80 args h R :=
 fn_ok2 Try.func80 f80cmp hn H
section
variable {P : Program} {Q : X → Env → Heap → Prop} {σ : Env} {h : Heap}
theorem f80c13_eq : wC P f80c13 Q σ h = (wL P none f80r8 0 (fun σ h => Q .normal σ h) σ h) := rfl
theorem f80c14_eq : wC P f80c14 Q σ h = (wL P none f80r9 0 (fun σ h => Q .normal σ h) σ h) := rfl
theorem f80c12_eq : wC P f80c12 Q σ h = (bd (evO σ (.tmp 32)) fun v => bd (asB v) fun t => br t (wC P f80c13 (X.then (fun σ h => wC P f80c14 Q σ h) Q) σ h) (wC P f80c14 Q σ h)) := rfl
theorem f80c11_eq : wC P f80c11 Q σ h = (wL P none f80r7 0 (fun σ h => wC P f80c12 Q σ h) σ h) := rfl
theorem f80c17_eq : wC P f80c17 Q σ h = (wL P none f80r11 0 (fun σ h => Q .normal σ h) σ h) := rfl
theorem f80c16_eq : wC P f80c16 Q σ h = (bd (evO σ (.tmp 57)) fun v => bd (asB v) fun t => br t (wC P f80c17 Q σ h) (Q .normal σ h)) := rfl
theorem f80c15_eq : wC P f80c15 Q σ h = (wL P none f80r10 0 (fun σ h => wC P f80c16 Q σ h) σ h) := rfl
theorem f80c10_eq : wC P f80c10 Q σ h = (bd (evO σ (.tmp 31)) fun v => bd (asB v) fun t => br t (wC P f80c11 (X.then (fun σ h => wC P f80c15 Q σ h) Q) σ h) (wC P f80c15 Q σ h)) := rfl
theorem f80c9_eq : wC P f80c9 Q σ h = (wL P none f80r6 0 (fun σ h => wC P f80c10 Q σ h) σ h) := rfl
theorem f80c8_eq : wC P f80c8 Q σ h = (wL P none f80r5 0 (fun σ h => wC P f80c9 Q σ h) σ h) := rfl
theorem f80c18_eq : wC P f80c18 Q σ h = (wL P none f80r12 0 (fun σ h => Q .normal σ h) σ h) := rfl
theorem f80c7_eq : wC P f80c7 Q σ h = (wC P f80c8 (X.inBlock 1 (X.then (fun σ h => wC P f80c18 Q σ h) Q)) σ h) := rfl
theorem f80c6_eq : wC P f80c6 Q σ h = (bd (evO σ (.tmp 16)) fun v => bd (asB v) fun t => br t (wC P f80c7 Q σ h) (Q (.exit 0) σ h)) := rfl
theorem f80c5_eq : wC P f80c5 Q σ h = (wL P none f80r4 0 (fun σ h => wC P f80c6 Q σ h) σ h) := rfl
theorem f80c19_eq : wC P f80c19 Q σ h = (wL P none f80r13 0 (fun σ h => Q .ret σ h) σ h) := rfl
theorem f80c4_eq : wC P f80c4 Q σ h = (loopW (wC P f80c5) (X.inBlock 0 (X.then (fun σ h => wC P f80c19 Q σ h) Q)) σ h) := rfl
theorem f80c3_eq : wC P f80c3 Q σ h = (wL P none f80r3 0 (fun σ h => wC P f80c4 Q σ h) σ h) := rfl
theorem f80c2_eq : wC P f80c2 Q σ h = (wL P none f80r2 0 (fun σ h => wC P f80c3 Q σ h) σ h) := rfl
theorem f80c1_eq : wC P f80c1 Q σ h = (wL P none f80r1 0 (fun σ h => wC P f80c2 Q σ h) σ h) := rfl
theorem f80c0_eq : wC P f80c0 Q σ h = (wL P none f80r0 0 (fun σ h => wC P f80c1 Q σ h) σ h) := rfl
end
def f46r0 : List I := [.op (.box 3 39 (.tmp 1)),
 .op (.mov 4 (.const (.slice none 0 0))),
 .kp [0,3]]
def f46r1 : List I := [.op (.mov 5 (.const (.slice none 0 0))),
 .kp [0,3,5]]
def f46r2 : List I := [.op (.mov 9 (.tmp 0)),
 .op (.len 10 true (.tmp 9)),
 .op (.mov 11 (.const (.int .i64 0))),
 .kp [3,5,9,10,11]]
def f46r3 : List I := [.op (.bin 12 .lss (.tmp 11) (.tmp 10)),
 .kp [3,5,9,10,11,12]]
def f46r4 : List I := [.op (.iad 13 12 (.tmp 9) (.tmp 11)),
 .op (.ld 14 (some 12) (.tmp 13)),
 .op (.new 7 103 [.string ⟨#[]⟩,.slice none 0 0,.bool false,.int .i64 0,.int .i64 0,.int .i64 0,.int .i64 0,.int .i64 0,.int .i64 0,.int .i64 0,.bool false,.string ⟨#[]⟩]),
 .op (.st 12 (.tmp 7) (.tmp 14)),
 .kp [3,5,7,9,10,11]]
def f46r5 : List I := [.op (.ld 15 (some 12) (.tmp 7)),
 .op (.call (some 16) 84 [(.tmp 15)]),
 .op (.st 12 (.tmp 7) (.tmp 16)),
 .kp [3,5,7,9,10,11]]
def f46r6 : List I := [.op (.fad 17 1 (.tmp 7)),
 .op (.ld 18 none (.tmp 17)),
 .op (.ld 19 (some 2) (.tmp 3)),
 .op (.call (some 20) 91 [(.tmp 18),(.tmp 19)]),
 .op (.mov 8 (.tmp 20)),
 .kp [3,5,7,8,9,10,11]]
def f46r7 : List I := [.op (.mov 21 (.tmp 8)),
 .op (.bin 22 .geq (.tmp 21) (.const (.int .i64 0))),
 .kp [3,5,7,8,9,10,11,22]]
def f46r8 : List I := [.op (.fad 23 1 (.tmp 7)),
 .op (.ld 24 none (.tmp 23)),
 .op (.mov 25 (.tmp 8)),
 .op (.iad 26 4 (.tmp 24) (.tmp 25)),
 .op (.fad 27 2 (.tmp 26)),
 .op (.ld 28 none (.tmp 27)),
 .kp [3,5,7,8,9,10,11,28]]
def f46r9 : List I := [.op (.mov 29 (.tmp 8)),
 .op (.bin 30 .add (.tmp 29) (.const (.int .i64 1))),
 .op (.mov 8 (.tmp 30)),
 .kp [3,5,7,8,9,10,11]]
def f46r10 : List I := [.op (.fad 31 1 (.tmp 7)),
 .op (.ld 32 none (.tmp 31)),
 .op (.mov 33 (.tmp 8)),
 .op (.slc 34 4 (.tmp 32) (some (.tmp 33)) none none),
 .op (.fad 35 1 (.tmp 7)),
 .op (.st 1 (.tmp 35) (.tmp 34)),
 .kp [3,5,7,9,10,11]]
def f46r11 : List I := [.op (.fad 36 2 (.tmp 7)),
 .op (.ld 37 none (.tmp 36)),
 .op (.mov 38 (.tmp 37)),
 .sc 38 false 4,
 .g 38 false (.fad 39 1 (.tmp 7)),
 .g 38 false (.ld 40 none (.tmp 39)),
 .g 38 false (.len 41 true (.tmp 40)),
 .g 38 false (.bin 42 .gtr (.tmp 41) (.const (.int .i64 0))),
 .op (.pick 43 (.tmp 38) (.const (.bool true)) (.tmp 42)),
 .kp [3,5,7,9,10,11,43]]
def f46r12 : List I := [.op (.mov 44 (.tmp 5)),
 .op (.ld 45 (some 12) (.tmp 7)),
 .op (.bsl 46 103 1 [.string ⟨#[]⟩,.slice none 0 0,.bool false,.int .i64 0,.int .i64 0,.int .i64 0,.int .i64 0,.int .i64 0,.int .i64 0,.int .i64 0,.bool false,.string ⟨#[]⟩] [(0,12,(.tmp 45))]),
 .op (.raw (some 47) ⟨(some 47), (.call ⟨(.builtin .append), #[(.tmp 44), (.tmp 46)], #[74, 74]⟩), 74, "mvcc.go:180", #[⟨0, .data⟩, ⟨2, .data⟩], none⟩),
 .op (.mov 5 (.tmp 47)),
 .kp [3,5,9,10,11]]
def f46r13 : List I := [.op (.bin 48 .add (.tmp 11) (.const (.int .i64 1))),
 .op (.mov 11 (.tmp 48)),
 .kp [3,5,9,10,11]]
def f46r14 : List I := [.op (.mov 49 (.tmp 5)),
 .op (.mov 4 (.tmp 49)),
 .kp [4]]
def f46c14 : C := (.reg f46r9)
def f46c15 : C := (.reg f46r10)
def f46c13 : C := (.seq (.cond (.tmp 28) f46c14 .skip) f46c15)
def f46c12 : C := (.seq (.reg f46r8) f46c13)
def f46c18 : C := (.reg f46r12)
def f46c17 : C := (.cond (.tmp 43) f46c18 .skip)
def f46c16 : C := (.seq (.reg f46r11) f46c17)
def f46c11 : C := (.seq (.cond (.tmp 22) f46c12 .skip) f46c16)
def f46c10 : C := (.seq (.reg f46r7) f46c11)
def f46c9 : C := (.seq (.reg f46r6) f46c10)
def f46c8 : C := (.seq (.reg f46r5) f46c9)
def f46c7 : C := (.seq (.reg f46r4) f46c8)
def f46c19 : C := (.reg f46r13)
def f46c6 : C := (.seq (.block 1 f46c7) f46c19)
def f46c5 : C := (.seq (.cond (.tmp 12) .skip (.exit 0)) f46c6)
def f46c4 : C := (.seq (.reg f46r3) f46c5)
def f46c20 : C := (.seq (.reg f46r14) .ret)
def f46c3 : C := (.seq (.block 0 (.loop f46c4)) f46c20)
def f46c2 : C := (.seq (.reg f46r2) f46c3)
def f46c1 : C := (.seq (.reg f46r1) f46c2)
def f46c0 : C := (.seq (.reg f46r0) f46c1)
theorem f46cmp : cmpF Try.prog Try.f46 [.l [.o 0,.o 1,.kp [0,3]],
 .l [.o 0,.kp [0,3,5]],
 .l [.o 0,.o 1,.o 2,.kp [3,5,9,10,11]],
 .l [.o 0,.kp [3,5,9,10,11,12]],
 .l [.o 0,.o 1,.o 2,.o 3,.kp [3,5,7,9,10,11]],
 .l [.o 0,.o 1,.o 2,.kp [3,5,7,9,10,11]],
 .l [.o 0,.o 1,.o 2,.o 3,.o 4,.kp [3,5,7,8,9,10,11]],
 .l [.o 0,.o 1,.kp [3,5,7,8,9,10,11,22]],
 .l [.o 0,.o 1,.o 2,.o 3,.o 4,.o 5,.kp [3,5,7,8,9,10,11,28]],
 .l [.o 0,.o 1,.o 2,.kp [3,5,7,8,9,10,11]],
 .l [.o 0,.o 1,.o 2,.o 3,.o 4,.o 5,.kp [3,5,7,9,10,11]],
 .l [.o 0,.o 1,.o 2,.sc 38 false 4,.o 3,.o 4,.o 5,.o 6,.o 7,.kp [3,5,7,9,10,11,43]],
 .l [.o 0,.o 1,.o 2,.o 3,.o 4,.kp [3,5,9,10,11]],
 .l [.o 0,.o 1,.kp [3,5,9,10,11]],
 .l [.o 0,.o 1,.kp [4]]] = some (f46c0,[.tmp 4]) := by kernel_rfl
theorem f46ok {args : List Value} {h : Heap} {R : Value → Heap → Prop} (hn : args.length ≤ 50) (H : wC Try.prog f46c0 (endW [.tmp 4] R) (envOf 0 args) h) : CallsH Try.prog 46 args h R :=
 fn_ok2 Try.func46 f46cmp hn H
section
variable {P : Program} {Q : X → Env → Heap → Prop} {σ : Env} {h : Heap}
theorem f46c14_eq : wC P f46c14 Q σ h = (wL P none f46r9 0 (fun σ h => Q .normal σ h) σ h) := rfl
theorem f46c15_eq : wC P f46c15 Q σ h = (wL P none f46r10 0 (fun σ h => Q .normal σ h) σ h) := rfl
theorem f46c13_eq : wC P f46c13 Q σ h = (bd (evO σ (.tmp 28)) fun v => bd (asB v) fun t => br t (wC P f46c14 (X.then (fun σ h => wC P f46c15 Q σ h) Q) σ h) (wC P f46c15 Q σ h)) := rfl
theorem f46c12_eq : wC P f46c12 Q σ h = (wL P none f46r8 0 (fun σ h => wC P f46c13 Q σ h) σ h) := rfl
theorem f46c18_eq : wC P f46c18 Q σ h = (wL P none f46r12 0 (fun σ h => Q .normal σ h) σ h) := rfl
theorem f46c17_eq : wC P f46c17 Q σ h = (bd (evO σ (.tmp 43)) fun v => bd (asB v) fun t => br t (wC P f46c18 Q σ h) (Q .normal σ h)) := rfl
theorem f46c16_eq : wC P f46c16 Q σ h = (wL P none f46r11 0 (fun σ h => wC P f46c17 Q σ h) σ h) := rfl
theorem f46c11_eq : wC P f46c11 Q σ h = (bd (evO σ (.tmp 22)) fun v => bd (asB v) fun t => br t (wC P f46c12 (X.then (fun σ h => wC P f46c16 Q σ h) Q) σ h) (wC P f46c16 Q σ h)) := rfl
theorem f46c10_eq : wC P f46c10 Q σ h = (wL P none f46r7 0 (fun σ h => wC P f46c11 Q σ h) σ h) := rfl
theorem f46c9_eq : wC P f46c9 Q σ h = (wL P none f46r6 0 (fun σ h => wC P f46c10 Q σ h) σ h) := rfl
theorem f46c8_eq : wC P f46c8 Q σ h = (wL P none f46r5 0 (fun σ h => wC P f46c9 Q σ h) σ h) := rfl
theorem f46c7_eq : wC P f46c7 Q σ h = (wL P none f46r4 0 (fun σ h => wC P f46c8 Q σ h) σ h) := rfl
theorem f46c19_eq : wC P f46c19 Q σ h = (wL P none f46r13 0 (fun σ h => Q .normal σ h) σ h) := rfl
theorem f46c6_eq : wC P f46c6 Q σ h = (wC P f46c7 (X.inBlock 1 (X.then (fun σ h => wC P f46c19 Q σ h) Q)) σ h) := rfl
theorem f46c5_eq : wC P f46c5 Q σ h = (bd (evO σ (.tmp 12)) fun v => bd (asB v) fun t => br t (wC P f46c6 Q σ h) (Q (.exit 0) σ h)) := rfl
theorem f46c4_eq : wC P f46c4 Q σ h = (wL P none f46r3 0 (fun σ h => wC P f46c5 Q σ h) σ h) := rfl
theorem f46c20_eq : wC P f46c20 Q σ h = (wL P none f46r14 0 (fun σ h => Q .ret σ h) σ h) := rfl
theorem f46c3_eq : wC P f46c3 Q σ h = (loopW (wC P f46c4) (X.inBlock 0 (X.then (fun σ h => wC P f46c20 Q σ h) Q)) σ h) := rfl
theorem f46c2_eq : wC P f46c2 Q σ h = (wL P none f46r2 0 (fun σ h => wC P f46c3 Q σ h) σ h) := rfl
theorem f46c1_eq : wC P f46c1 Q σ h = (wL P none f46r1 0 (fun σ h => wC P f46c2 Q σ h) σ h) := rfl
theorem f46c0_eq : wC P f46c0 Q σ h = (wL P none f46r0 0 (fun σ h => wC P f46c1 Q σ h) σ h) := rfl
end
def f81r0 : List I := [.op (.box 3 39 (.tmp 1)),
 .op (.mov 4 (.const (.slice none 0 0))),
 .kp [0,3]]
def f81r1 : List I := [.op (.mov 5 (.const (.slice none 0 0))),
 .kp [0,3,5]]
def f81r2 : List I := [.op (.mov 10 (.tmp 0)),
 .op (.call (some 11) 48 [(.tmp 10)]),
 .op (.mov 6 (.tmp 11)),
 .kp [3,5,6]]
def f81r3 : List I := [.op (.mov 7 (.const (.int .i64 0))),
 .kp [3,5,6,7]]
def f81r4 : List I := [.op (.mov 12 (.tmp 7)),
 .op (.mov 13 (.tmp 6)),
 .op (.len 14 true (.tmp 13)),
 .op (.bin 15 .lss (.tmp 12) (.tmp 14)),
 .kp [3,5,6,7,15]]
def f81r5 : List I := [.op (.mov 18 (.tmp 6)),
 .op (.mov 19 (.tmp 7)),
 .op (.iad 20 12 (.tmp 18) (.tmp 19)),
 .op (.ld 21 (some 12) (.tmp 20)),
 .op (.new 8 103 [.string ⟨#[]⟩,.slice none 0 0,.bool false,.int .i64 0,.int .i64 0,.int .i64 0,.int .i64 0,.int .i64 0,.int .i64 0,.int .i64 0,.bool false,.string ⟨#[]⟩]),
 .op (.st 12 (.tmp 8) (.tmp 21)),
 .kp [3,5,6,7,8]]
def f81r6 : List I := [.op (.mov 9 (.const (.int .i64 0))),
 .kp [3,5,6,7,8,9]]
def f81r7 : List I := [.op (.mov 22 (.tmp 9)),
 .op (.fad 23 1 (.tmp 8)),
 .op (.ld 24 none (.tmp 23)),
 .op (.len 25 true (.tmp 24)),
 .op (.bin 26 .lss (.tmp 22) (.tmp 25)),
 .op (.mov 27 (.tmp 26)),
 .sc 27 true 9,
 .g 27 true (.ld 28 (some 2) (.tmp 3)),
 .g 27 true (.fad 29 1 (.tmp 8)),
 .g 27 true (.ld 30 none (.tmp 29)),
 .g 27 true (.mov 31 (.tmp 9)),
 .g 27 true (.iad 32 4 (.tmp 30) (.tmp 31)),
 .g 27 true (.fad 33 0 (.tmp 32)),
 .g 27 true (.ld 34 (some 2) (.tmp 33)),
 .g 27 true (.call (some 35) 42 [(.tmp 28),(.tmp 34)]),
 .g 27 true (.un 36 .not (.tmp 35)),
 .op (.pick 37 (.tmp 27) (.tmp 36) (.const (.bool false))),
 .kp [3,5,6,7,8,9,37]]
def f81r8 : List I := [.op (.mov 38 (.tmp 9)),
 .op (.bin 39 .add (.tmp 38) (.const (.int .i64 1))),
 .op (.mov 9 (.tmp 39)),
 .kp [3,5,6,7,8,9]]
def f81r9 : List I := [.op (.mov 40 (.tmp 9)),
 .op (.bin 41 .gtr (.tmp 40) (.const (.int .i64 0))),
 .op (.mov 42 (.tmp 41)),
 .sc 42 true 8,
 .g 42 true (.fad 43 1 (.tmp 8)),
 .g 42 true (.ld 44 none (.tmp 43)),
 .g 42 true (.mov 45 (.tmp 9)),
 .g 42 true (.bin 46 .sub (.tmp 45) (.const (.int .i64 1))),
 .g 42 true (.iad 47 4 (.tmp 44) (.tmp 46)),
 .g 42 true (.fad 48 2 (.tmp 47)),
 .g 42 true (.ld 49 none (.tmp 48)),
 .g 42 true (.un 50 .not (.tmp 49)),
 .op (.pick 51 (.tmp 42) (.tmp 50) (.const (.bool false))),
 .kp [3,5,6,7,8,9,51]]
def f81r10 : List I := [.op (.mov 52 (.tmp 9)),
 .op (.bin 53 .sub (.tmp 52) (.const (.int .i64 1))),
 .op (.mov 9 (.tmp 53)),
 .kp [3,5,6,7,8,9]]
def f81r11 : List I := [.op (.fad 54 1 (.tmp 8)),
 .op (.ld 55 none (.tmp 54)),
 .op (.mov 56 (.tmp 9)),
 .op (.slc 57 4 (.tmp 55) (some (.tmp 56)) none none),
 .op (.fad 58 1 (.tmp 8)),
 .op (.st 1 (.tmp 58) (.tmp 57)),
 .kp [3,5,6,7,8]]
def f81r12 : List I := [.op (.fad 59 2 (.tmp 8)),
 .op (.ld 60 none (.tmp 59)),
 .op (.mov 61 (.tmp 60)),
 .sc 61 false 4,
 .g 61 false (.fad 62 1 (.tmp 8)),
 .g 61 false (.ld 63 none (.tmp 62)),
 .g 61 false (.len 64 true (.tmp 63)),
 .g 61 false (.bin 65 .gtr (.tmp 64) (.const (.int .i64 0))),
 .op (.pick 66 (.tmp 61) (.const (.bool true)) (.tmp 65)),
 .kp [3,5,6,7,8,66]]
def f81r13 : List I := [.op (.mov 67 (.tmp 5)),
 .op (.ld 68 (some 12) (.tmp 8)),
 .op (.bsl 69 103 1 [.string ⟨#[]⟩,.slice none 0 0,.bool false,.int .i64 0,.int .i64 0,.int .i64 0,.int .i64 0,.int .i64 0,.int .i64 0,.int .i64 0,.bool false,.string ⟨#[]⟩] [(0,12,(.tmp 68))]),
 .op (.raw (some 70) ⟨(some 70), (.call ⟨(.builtin .append), #[(.tmp 67), (.tmp 69)], #[74, 74]⟩), 74, "ref.go:192", #[⟨0, .data⟩, ⟨2, .data⟩], none⟩),
 .op (.mov 5 (.tmp 70)),
 .kp [3,5,6,7]]
def f81r14 : List I := [.op (.mov 16 (.tmp 7)),
 .op (.bin 17 .add (.tmp 16) (.const (.int .i64 1))),
 .op (.mov 7 (.tmp 17)),
 .kp [3,5,6,7]]
def f81r15 : List I := [.op (.mov 71 (.tmp 5)),
 .op (.mov 4 (.tmp 71)),
 .kp [4]]
def f81c14 : C := (.reg f81r8)
def f81c13 : C := (.block 3 f81c14)
def f81c12 : C := (.seq (.cond (.tmp 37) .skip (.exit 2)) f81c13)
def f81c11 : C := (.seq (.drw f81r7) f81c12)
def f81c17 : C := (.reg f81r10)
def f81c21 : C := (.reg f81r13)
def f81c20 : C := (.cond (.tmp 66) f81c21 .skip)
def f81c19 : C := (.seq (.reg f81r12) f81c20)
def f81c18 : C := (.seq (.reg f81r11) f81c19)
def f81c16 : C := (.seq (.cond (.tmp 51) f81c17 .skip) f81c18)
def f81c15 : C := (.seq (.reg f81r9) f81c16)
def f81c10 : C := (.seq (.block 2 (.loop f81c11)) f81c15)
def f81c9 : C := (.seq (.reg f81r6) f81c10)
def f81c8 : C := (.seq (.reg f81r5) f81c9)
def f81c22 : C := (.reg f81r14)
def f81c7 : C := (.seq (.block 1 f81c8) f81c22)
def f81c6 : C := (.seq (.cond (.tmp 15) .skip (.exit 0)) f81c7)
def f81c5 : C := (.seq (.reg f81r4) f81c6)
def f81c23 : C := (.seq (.reg f81r15) .ret)
def f81c4 : C := (.seq (.block 0 (.loop f81c5)) f81c23)
def f81c3 : C := (.seq (.reg f81r3) f81c4)
def f81c2 : C := (.seq (.reg f81r2) f81c3)
def f81c1 : C := (.seq (.reg f81r1) f81c2)
def f81c0 : C := (.seq (.reg f81r0) f81c1)
theorem f81cmp : cmpF Try.prog Try.f81 [.l [.o 0,.o 1,.kp [0,3]],
 .l [.o 0,.kp [0,3,5]],
 .l [.o 0,.o 1,.o 2,.kp [3,5,6]],
 .l [.o 0,.kp [3,5,6,7]],
 .l [.o 0,.o 1,.o 2,.o 3,.kp [3,5,6,7,15]],
 .l [.o 0,.o 1,.o 2,.o 3,.o 4,.o 5,.kp [3,5,6,7,8]],
 .l [.o 0,.kp [3,5,6,7,8,9]],
 .l [.o 0,.o 1,.o 2,.o 3,.o 4,.o 5,.sc 27 true 9,.o 6,.o 7,.o 8,.o 9,.o 10,.o 11,.o 12,.o 13,.o 14,.o 15,.kp [3,5,6,7,8,9,37]],
 .l [.o 0,.o 1,.o 2,.kp [3,5,6,7,8,9]],
 .l [.o 0,.o 1,.o 2,.sc 42 true 8,.o 3,.o 4,.o 5,.o 6,.o 7,.o 8,.o 9,.o 10,.o 11,.kp [3,5,6,7,8,9,51]],
 .l [.o 0,.o 1,.o 2,.kp [3,5,6,7,8,9]],
 .l [.o 0,.o 1,.o 2,.o 3,.o 4,.o 5,.kp [3,5,6,7,8]],
 .l [.o 0,.o 1,.o 2,.sc 61 false 4,.o 3,.o 4,.o 5,.o 6,.o 7,.kp [3,5,6,7,8,66]],
 .l [.o 0,.o 1,.o 2,.o 3,.o 4,.kp [3,5,6,7]],
 .l [.o 0,.o 1,.o 2,.kp [3,5,6,7]],
 .l [.o 0,.o 1,.kp [4]]] = some (f81c0,[.tmp 4]) := by kernel_rfl
theorem f81ok {args : List Value} {h : Heap} {R : Value → Heap → Prop} (hn : args.length ≤ 72) (H : wC Try.prog f81c0 (endW [.tmp 4] R) (envOf 0 args) h) : CallsH Try.prog 81 args h R :=
 fn_ok2 Try.func81 f81cmp hn H
section
variable {P : Program} {Q : X → Env → Heap → Prop} {σ : Env} {h : Heap}
theorem f81c14_eq : wC P f81c14 Q σ h = (wL P none f81r8 0 (fun σ h => Q .normal σ h) σ h) := rfl
theorem f81c13_eq : wC P f81c13 Q σ h = (wC P f81c14 (X.inBlock 3 Q) σ h) := rfl
theorem f81c12_eq : wC P f81c12 Q σ h = (bd (evO σ (.tmp 37)) fun v => bd (asB v) fun t => br t (wC P f81c13 Q σ h) (Q (.exit 2) σ h)) := rfl
theorem f81c11_eq : wC P f81c11 Q σ h = (drwW P f81r7 (fun σ h => wC P f81c12 Q σ h) σ h) := rfl
theorem f81c17_eq : wC P f81c17 Q σ h = (wL P none f81r10 0 (fun σ h => Q .normal σ h) σ h) := rfl
theorem f81c21_eq : wC P f81c21 Q σ h = (wL P none f81r13 0 (fun σ h => Q .normal σ h) σ h) := rfl
theorem f81c20_eq : wC P f81c20 Q σ h = (bd (evO σ (.tmp 66)) fun v => bd (asB v) fun t => br t (wC P f81c21 Q σ h) (Q .normal σ h)) := rfl
theorem f81c19_eq : wC P f81c19 Q σ h = (wL P none f81r12 0 (fun σ h => wC P f81c20 Q σ h) σ h) := rfl
theorem f81c18_eq : wC P f81c18 Q σ h = (wL P none f81r11 0 (fun σ h => wC P f81c19 Q σ h) σ h) := rfl
theorem f81c16_eq : wC P f81c16 Q σ h = (bd (evO σ (.tmp 51)) fun v => bd (asB v) fun t => br t (wC P f81c17 (X.then (fun σ h => wC P f81c18 Q σ h) Q) σ h) (wC P f81c18 Q σ h)) := rfl
theorem f81c15_eq : wC P f81c15 Q σ h = (wL P none f81r9 0 (fun σ h => wC P f81c16 Q σ h) σ h) := rfl
theorem f81c10_eq : wC P f81c10 Q σ h = (loopW (wC P f81c11) (X.inBlock 2 (X.then (fun σ h => wC P f81c15 Q σ h) Q)) σ h) := rfl
theorem f81c9_eq : wC P f81c9 Q σ h = (wL P none f81r6 0 (fun σ h => wC P f81c10 Q σ h) σ h) := rfl
theorem f81c8_eq : wC P f81c8 Q σ h = (wL P none f81r5 0 (fun σ h => wC P f81c9 Q σ h) σ h) := rfl
theorem f81c22_eq : wC P f81c22 Q σ h = (wL P none f81r14 0 (fun σ h => Q .normal σ h) σ h) := rfl
theorem f81c7_eq : wC P f81c7 Q σ h = (wC P f81c8 (X.inBlock 1 (X.then (fun σ h => wC P f81c22 Q σ h) Q)) σ h) := rfl
theorem f81c6_eq : wC P f81c6 Q σ h = (bd (evO σ (.tmp 15)) fun v => bd (asB v) fun t => br t (wC P f81c7 Q σ h) (Q (.exit 0) σ h)) := rfl
theorem f81c5_eq : wC P f81c5 Q σ h = (wL P none f81r4 0 (fun σ h => wC P f81c6 Q σ h) σ h) := rfl
theorem f81c23_eq : wC P f81c23 Q σ h = (wL P none f81r15 0 (fun σ h => Q .ret σ h) σ h) := rfl
theorem f81c4_eq : wC P f81c4 Q σ h = (loopW (wC P f81c5) (X.inBlock 0 (X.then (fun σ h => wC P f81c23 Q σ h) Q)) σ h) := rfl
theorem f81c3_eq : wC P f81c3 Q σ h = (wL P none f81r3 0 (fun σ h => wC P f81c4 Q σ h) σ h) := rfl
theorem f81c2_eq : wC P f81c2 Q σ h = (wL P none f81r2 0 (fun σ h => wC P f81c3 Q σ h) σ h) := rfl
theorem f81c1_eq : wC P f81c1 Q σ h = (wL P none f81r1 0 (fun σ h => wC P f81c2 Q σ h) σ h) := rfl
theorem f81c0_eq : wC P f81c0 Q σ h = (wL P none f81r0 0 (fun σ h => wC P f81c1 Q σ h) σ h) := rfl
end
end Go.Proofs.Ytefghfgmkndikaa
namespace Go.Proofs.Ytefghfgmkndikaa
open Go.AX
set_option maxRecDepth 100000
def f45r0 : List I := [.op (.mov 2 (.const (.bool false))),
 .kp [0]]
def f45r1 : List I := [.op (.mov 7 (.tmp 0)),
 .op (.len 8 true (.tmp 7)),
 .op (.mov 9 (.const (.int .i64 0))),
 .kp [0,7,8,9]]
def f45r2 : List I := [.op (.bin 10 .lss (.tmp 9) (.tmp 8)),
 .kp [0,7,8,9,10]]
def f45r3 : List I := [.op (.mov 11 (.tmp 9)),
 .op (.iad 12 12 (.tmp 7) (.tmp 9)),
 .op (.ld 13 (some 12) (.tmp 12)),
 .op (.new 4 103 [.string ⟨#[]⟩,.slice none 0 0,.bool false,.int .i64 0,.int .i64 0,.int .i64 0,.int .i64 0,.int .i64 0,.int .i64 0,.int .i64 0,.bool false,.string ⟨#[]⟩]),
 .op (.mov 3 (.tmp 11)),
 .op (.st 12 (.tmp 4) (.tmp 13)),
 .kp [0,3,4,7,8,9]]
def f45r4c : List I := [.op (.mov 49 (.tmp 48)),
 .sc 49 false 10,
 .g 49 false (.fad 50 3 (.tmp 4)),
 .g 49 false (.fad 51 7 (.tmp 50)),
 .g 49 false (.ld 52 none (.tmp 51)),
 .g 49 false (.mov 53 (.tmp 52)),
 .sc 53 true 4,
 .g 53 true (.fad 54 3 (.tmp 4)),
 .g 53 true (.fad 55 8 (.tmp 54)),
 .g 53 true (.ld 56 none (.tmp 55)),
 .g 53 true (.bin 57 .neq (.tmp 56) (.const (.string ⟨#[]⟩))),
 .g 49 false (.pick 58 (.tmp 53) (.tmp 57) (.const (.bool false))),
 .op (.pick 59 (.tmp 49) (.const (.bool true)) (.tmp 58)),
 .kp [59,0,4,7,8,9]]
def f45r4b : List I := .op (.mov 38 (.tmp 37)) ::
 .sc 38 false 10 ::
 .g 38 false (.fad 39 2 (.tmp 4)) ::
 .g 38 false (.ld 40 none (.tmp 39)) ::
 .g 38 false (.un 41 .not (.tmp 40)) ::
 .g 38 false (.mov 42 (.tmp 41)) ::
 .sc 42 true 4 ::
 .g 42 true (.fad 43 1 (.tmp 4)) ::
 .g 42 true (.ld 44 none (.tmp 43)) ::
 .g 42 true (.len 45 true (.tmp 44)) ::
 .g 42 true (.bin 46 .eql (.tmp 45) (.const (.int .i64 0))) ::
 .g 38 false (.pick 47 (.tmp 42) (.tmp 46) (.const (.bool false))) ::
 .op (.pick 48 (.tmp 38) (.const (.bool true)) (.tmp 47)) ::
 .kp [48,0,4,7,8,9] ::
 f45r4c
def f45r4a : List I := .op (.mov 27 (.tmp 26)) ::
 .sc 27 false 10 ::
 .g 27 false (.fad 28 2 (.tmp 4)) ::
 .g 27 false (.ld 29 none (.tmp 28)) ::
 .g 27 false (.un 30 .not (.tmp 29)) ::
 .g 27 false (.mov 31 (.tmp 30)) ::
 .sc 31 true 4 ::
 .g 31 true (.fad 32 3 (.tmp 4)) ::
 .g 31 true (.ld 33 (some 9) (.tmp 32)) ::
 .g 31 true (.bld 34 [.int .i64 0,.int .i64 0,.int .i64 0,.int .i64 0,.int .i64 0,.int .i64 0,.int .i64 0,.bool false,.string ⟨#[]⟩] []) ::
 .g 31 true (.eqa 35 true [.i .i64,.i .i64,.i .i64,.i .i64,.i .i64,.i .i64,.i .i64,.b,.s] (.tmp 33) (.tmp 34)) ::
 .g 27 false (.pick 36 (.tmp 31) (.tmp 35) (.const (.bool false))) ::
 .op (.pick 37 (.tmp 27) (.const (.bool true)) (.tmp 36)) ::
 .kp [37,0,4,7,8,9] ::
 f45r4b
def f45r4 : List I := .op (.mov 14 (.tmp 3)) ::
 .op (.bin 15 .gtr (.tmp 14) (.const (.int .i64 0))) ::
 .op (.mov 16 (.tmp 15)) ::
 .sc 16 true 9 ::
 .g 16 true (.fad 17 0 (.tmp 4)) ::
 .g 16 true (.ld 18 none (.tmp 17)) ::
 .g 16 true (.mov 19 (.tmp 0)) ::
 .g 16 true (.mov 20 (.tmp 3)) ::
 .g 16 true (.bin 21 .sub (.tmp 20) (.const (.int .i64 1))) ::
 .g 16 true (.iad 22 12 (.tmp 19) (.tmp 21)) ::
 .g 16 true (.fad 23 0 (.tmp 22)) ::
 .g 16 true (.ld 24 none (.tmp 23)) ::
 .g 16 true (.bin 25 .leq (.tmp 18) (.tmp 24)) ::
 .op (.pick 26 (.tmp 16) (.tmp 25) (.const (.bool false))) ::
 .kp [26,0,4,7,8,9] ::
 f45r4a
def f45r5 : List I := [.op (.mov 2 (.const (.bool false))),
 .kp [2]]
def f45r6 : List I := [.op (.fad 60 1 (.tmp 4)),
 .op (.ld 61 none (.tmp 60)),
 .op (.len 62 true (.tmp 61)),
 .op (.mov 63 (.const (.int .i64 0))),
 .kp [0,4,7,8,9,61,62,63]]
def f45r7 : List I := [.op (.bin 64 .lss (.tmp 63) (.tmp 62)),
 .kp [0,4,7,8,9,61,62,63,64]]
def f45r8 : List I := [.op (.mov 65 (.tmp 63)),
 .op (.iad 66 4 (.tmp 61) (.tmp 63)),
 .op (.ld 67 (some 4) (.tmp 66)),
 .op (.new 6 108 [.int .i64 0,.int .i64 0,.bool false,.string ⟨#[]⟩]),
 .op (.mov 5 (.tmp 65)),
 .op (.st 4 (.tmp 6) (.tmp 67)),
 .kp [0,4,5,6,7,8,9,61,62,63]]
def f45r9a : List I := [.op (.mov 83 (.tmp 82)),
 .sc 83 false 8,
 .g 83 false (.fad 84 2 (.tmp 6)),
 .g 83 false (.ld 85 none (.tmp 84)),
 .g 83 false (.mov 86 (.tmp 85)),
 .sc 86 true 3,
 .g 86 true (.fad 87 3 (.tmp 6)),
 .g 86 true (.ld 88 none (.tmp 87)),
 .g 86 true (.bin 89 .neq (.tmp 88) (.const (.string ⟨#[]⟩))),
 .g 83 false (.pick 90 (.tmp 86) (.tmp 89) (.const (.bool false))),
 .op (.pick 91 (.tmp 83) (.const (.bool true)) (.tmp 90)),
 .kp [91,0,4,7,8,9,61,62,63]]
def f45r9 : List I := .op (.mov 68 (.tmp 5)) ::
 .op (.bin 69 .gtr (.tmp 68) (.const (.int .i64 0))) ::
 .op (.mov 70 (.tmp 69)) ::
 .sc 70 true 11 ::
 .g 70 true (.fad 71 1 (.tmp 4)) ::
 .g 70 true (.ld 72 none (.tmp 71)) ::
 .g 70 true (.mov 73 (.tmp 5)) ::
 .g 70 true (.bin 74 .sub (.tmp 73) (.const (.int .i64 1))) ::
 .g 70 true (.iad 75 4 (.tmp 72) (.tmp 74)) ::
 .g 70 true (.fad 76 0 (.tmp 75)) ::
 .g 70 true (.ld 77 (some 2) (.tmp 76)) ::
 .g 70 true (.fad 78 0 (.tmp 6)) ::
 .g 70 true (.ld 79 (some 2) (.tmp 78)) ::
 .g 70 true (.call (some 80) 90 [(.tmp 77),(.tmp 79)]) ::
 .g 70 true (.un 81 .not (.tmp 80)) ::
 .op (.pick 82 (.tmp 70) (.tmp 81) (.const (.bool false))) ::
 .kp [82,0,4,6,7,8,9,61,62,63] ::
 f45r9a
def f45r10 : List I := [.op (.mov 2 (.const (.bool false))),
 .kp [2]]
def f45r11 : List I := [.op (.bin 92 .add (.tmp 63) (.const (.int .i64 1))),
 .op (.mov 63 (.tmp 92)),
 .kp [0,4,7,8,9,61,62,63]]
def f45r12 : List I := [.op (.bin 93 .add (.tmp 9) (.const (.int .i64 1))),
 .op (.mov 9 (.tmp 93)),
 .kp [0,7,8,9]]
def f45r13 : List I := [.op (.mov 2 (.const (.bool true))),
 .kp [2]]
def f45c9 : C := (.seq (.reg f45r5) .ret)
def f45c18 : C := (.seq (.reg f45r10) .ret)
def f45c17 : C := (.cond (.tmp 91) f45c18 .skip)
def f45c16 : C := (.seq (.drw f45r9) f45c17)
def f45c15 : C := (.seq (.reg f45r8) f45c16)
def f45c19 : C := (.reg f45r11)
def f45c14 : C := (.seq (.block 3 f45c15) f45c19)
def f45c13 : C := (.seq (.cond (.tmp 64) .skip (.exit 2)) f45c14)
def f45c12 : C := (.seq (.reg f45r7) f45c13)
def f45c11 : C := (.block 2 (.loop f45c12))
def f45c10 : C := (.seq (.reg f45r6) f45c11)
def f45c8 : C := (.seq (.cond (.tmp 59) f45c9 .skip) f45c10)
def f45c7 : C := (.seq (.drw f45r4) f45c8)
def f45c6 : C := (.seq (.reg f45r3) f45c7)
def f45c20 : C := (.reg f45r12)
def f45c5 : C := (.seq (.block 1 f45c6) f45c20)
def f45c4 : C := (.seq (.cond (.tmp 10) .skip (.exit 0)) f45c5)
def f45c3 : C := (.seq (.reg f45r2) f45c4)
def f45c21 : C := (.seq (.reg f45r13) .ret)
def f45c2 : C := (.seq (.block 0 (.loop f45c3)) f45c21)
def f45c1 : C := (.seq (.reg f45r1) f45c2)
def f45c0 : C := (.seq (.reg f45r0) f45c1)
theorem f45cmp : cmpF Try.prog Try.f45 [.l [.o 0,.kp [0]],
 .l [.o 0,.o 1,.o 2,.kp [0,7,8,9]],
 .l [.o 0,.kp [0,7,8,9,10]],
 .l [.o 0,.o 1,.o 2,.o 3,.o 4,.o 5,.kp [0,3,4,7,8,9]],
 .l [.o 0,.o 1,.o 2,.sc 16 true 9,.o 3,.o 4,.o 5,.o 6,.o 7,.o 8,.o 9,.o 10,.o 11,.o 12,.kp [26,0,4,7,8,9],.o 13,.sc 27 false 10,.o 14,.o 15,.o 16,.o 17,.sc 31 true 4,.o 18,.o 19,.o 20,.o 21,.o 22,.o 23,.kp [37,0,4,7,8,9],.o 24,.sc 38 false 10,.o 25,.o 26,.o 27,.o 28,.sc 42 true 4,.o 29,.o 30,.o 31,.o 32,.o 33,.o 34,.kp [48,0,4,7,8,9],.o 35,.sc 49 false 10,.o 36,.o 37,.o 38,.o 39,.sc 53 true 4,.o 40,.o 41,.o 42,.o 43,.o 44,.o 45,.kp [59,0,4,7,8,9]],
 .l [.o 0,.kp [2]],
 .l [.o 0,.o 1,.o 2,.o 3,.kp [0,4,7,8,9,61,62,63]],
 .l [.o 0,.kp [0,4,7,8,9,61,62,63,64]],
 .l [.o 0,.o 1,.o 2,.o 3,.o 4,.o 5,.kp [0,4,5,6,7,8,9,61,62,63]],
 .l [.o 0,.o 1,.o 2,.sc 70 true 11,.o 3,.o 4,.o 5,.o 6,.o 7,.o 8,.o 9,.o 10,.o 11,.o 12,.o 13,.o 14,.kp [82,0,4,6,7,8,9,61,62,63],.o 15,.sc 83 false 8,.o 16,.o 17,.o 18,.sc 86 true 3,.o 19,.o 20,.o 21,.o 22,.o 23,.kp [91,0,4,7,8,9,61,62,63]],
 .l [.o 0,.kp [2]],
 .l [.o 0,.o 1,.kp [0,4,7,8,9,61,62,63]],
 .l [.o 0,.o 1,.kp [0,7,8,9]],
 .l [.o 0,.kp [2]]] = some (f45c0,[.tmp 2]) := by kernel_rfl
theorem f45ok {args : List Value} {h : Heap} {R : Value → Heap → Prop} (hn : args.length ≤ 94) (H : wC Try.prog f45c0 (endW [.tmp 2] R) (envOf 0 args) h) : CallsH Try.prog 45 args h R :=
 fn_ok2 Try.func45 f45cmp hn H
section
variable {P : Program} {Q : X → Env → Heap → Prop} {σ : Env} {h : Heap}
theorem f45c9_eq : wC P f45c9 Q σ h = (wL P none f45r5 0 (fun σ h => Q .ret σ h) σ h) := rfl
theorem f45c18_eq : wC P f45c18 Q σ h = (wL P none f45r10 0 (fun σ h => Q .ret σ h) σ h) := rfl
theorem f45c17_eq : wC P f45c17 Q σ h = (bd (evO σ (.tmp 91)) fun v => bd (asB v) fun t => br t (wC P f45c18 Q σ h) (Q .normal σ h)) := rfl
theorem f45c16_eq : wC P f45c16 Q σ h = (drwW P f45r9 (fun σ h => wC P f45c17 Q σ h) σ h) := rfl
theorem f45c15_eq : wC P f45c15 Q σ h = (wL P none f45r8 0 (fun σ h => wC P f45c16 Q σ h) σ h) := rfl
theorem f45c19_eq : wC P f45c19 Q σ h = (wL P none f45r11 0 (fun σ h => Q .normal σ h) σ h) := rfl
theorem f45c14_eq : wC P f45c14 Q σ h = (wC P f45c15 (X.inBlock 3 (X.then (fun σ h => wC P f45c19 Q σ h) Q)) σ h) := rfl
theorem f45c13_eq : wC P f45c13 Q σ h = (bd (evO σ (.tmp 64)) fun v => bd (asB v) fun t => br t (wC P f45c14 Q σ h) (Q (.exit 2) σ h)) := rfl
theorem f45c12_eq : wC P f45c12 Q σ h = (wL P none f45r7 0 (fun σ h => wC P f45c13 Q σ h) σ h) := rfl
theorem f45c11_eq : wC P f45c11 Q σ h = (loopW (wC P f45c12) (X.inBlock 2 Q) σ h) := rfl
theorem f45c10_eq : wC P f45c10 Q σ h = (wL P none f45r6 0 (fun σ h => wC P f45c11 Q σ h) σ h) := rfl
theorem f45c8_eq : wC P f45c8 Q σ h = (bd (evO σ (.tmp 59)) fun v => bd (asB v) fun t => br t (wC P f45c9 (X.then (fun σ h => wC P f45c10 Q σ h) Q) σ h) (wC P f45c10 Q σ h)) := rfl
theorem f45c7_eq : wC P f45c7 Q σ h = (drwW P f45r4 (fun σ h => wC P f45c8 Q σ h) σ h) := rfl
theorem f45c6_eq : wC P f45c6 Q σ h = (wL P none f45r3 0 (fun σ h => wC P f45c7 Q σ h) σ h) := rfl
theorem f45c20_eq : wC P f45c20 Q σ h = (wL P none f45r12 0 (fun σ h => Q .normal σ h) σ h) := rfl
theorem f45c5_eq : wC P f45c5 Q σ h = (wC P f45c6 (X.inBlock 1 (X.then (fun σ h => wC P f45c20 Q σ h) Q)) σ h) := rfl
theorem f45c4_eq : wC P f45c4 Q σ h = (bd (evO σ (.tmp 10)) fun v => bd (asB v) fun t => br t (wC P f45c5 Q σ h) (Q (.exit 0) σ h)) := rfl
theorem f45c3_eq : wC P f45c3 Q σ h = (wL P none f45r2 0 (fun σ h => wC P f45c4 Q σ h) σ h) := rfl
theorem f45c21_eq : wC P f45c21 Q σ h = (wL P none f45r13 0 (fun σ h => Q .ret σ h) σ h) := rfl
theorem f45c2_eq : wC P f45c2 Q σ h = (loopW (wC P f45c3) (X.inBlock 0 (X.then (fun σ h => wC P f45c21 Q σ h) Q)) σ h) := rfl
theorem f45c1_eq : wC P f45c1 Q σ h = (wL P none f45r1 0 (fun σ h => wC P f45c2 Q σ h) σ h) := rfl
theorem f45c0_eq : wC P f45c0 Q σ h = (wL P none f45r0 0 (fun σ h => wC P f45c1 Q σ h) σ h) := rfl
end
section
variable {P : Program} {Q : X → Env → Heap → Prop} {σ : Env} {h : Heap}
end
section
variable {P : Program} {Q : X → Env → Heap → Prop} {σ : Env} {h : Heap}
end
section
variable {P : Program} {Q : X → Env → Heap → Prop} {σ : Env} {h : Heap}
end
section
variable {P : Program} {Q : X → Env → Heap → Prop} {σ : Env} {h : Heap}
end
end Go.Proofs.Ytefghfgmkndikaa
namespace Go.Proofs.Ytefghfgmkndikaa
open Go Go.AX
theorem isNaN_ok (a : Int) (h : Heap) {R : Value → Heap → Prop} (hR : R (.bool false) h) : CallsH Try.prog 141 [vi a] h R := by
 refine f141ok (by simp) ?_
 rw [f141c0_eq]
 simp (disch:=first|exact Lb rfl|omega) only [AXR,AXB,J.dst,reduceIte,Z1,Z2,Z3,Z4,Z5,f141r0]
 rw [f141c1_eq]
 simp (disch:=first|exact Lb rfl|omega) only [AXR,AXB,J.dst,reduceIte,Z1,Z2,Z3,Z4,Z5,f141r1]
 exact hR
def cmpI (a b : Int) : Int := if a < b then -1 else if b < a then 1 else 0
theorem compare_ok (a b : Int) (h : Heap) {R : Value → Heap → Prop} (hR : R (vi (cmpI a b)) h) : CallsH Try.prog 122 [vi a,vi b] h R := by
 refine f122ok (by simp) ?_
 rw [f122c0_eq]; simp (disch:=first|exact Lb rfl|omega) only [AXR,AXB,J.dst,reduceIte,Z1,Z2,Z3,Z4,Z5,f122r0]
 rw [f122c1_eq]; simp (disch:=first|exact Lb rfl|omega) only [AXR,AXB,J.dst,reduceIte,Z1,Z2,Z3,Z4,Z5,f122r1]
 refine isNaN_ok _ _ ?_
 rw [f122c2_eq]; simp (disch:=first|exact Lb rfl|omega) only [AXR,AXB,J.dst,reduceIte,Z1,Z2,Z3,Z4,Z5,f122r2]
 refine isNaN_ok _ _ ?_
 rw [f122c3_eq]; simp (disch:=first|exact Lb rfl|omega) only [AXR,AXB,J.dst,reduceIte,Z1,Z2,Z3,Z4,Z5,f122r3]
 rw [f122c4_eq]; simp (disch:=first|exact Lb rfl|omega) only [AXR,AXB,J.dst,reduceIte,Z1,Z2,Z3,Z4,Z5]
 rw [f122c9_eq]; simp (disch:=first|exact Lb rfl|omega) only [AXR,AXB,J.dst,reduceIte,Z1,Z2,Z3,Z4,Z5,f122r7]
 rw [f122c10_eq]; simp (disch:=first|exact Lb rfl|omega) only [AXR,AXB,J.dst,reduceIte,Z1,Z2,Z3,Z4,Z5]
 rw [f122c12_eq]; simp (disch:=first|exact Lb rfl|omega) only [AXR,AXB,J.dst,reduceIte,Z1,Z2,Z3,Z4,Z5,f122r9]
 rw [f122c13_eq]; simp (disch:=first|exact Lb rfl|omega) only [AXR,AXB,J.dst,reduceIte,Z1,Z2,Z3,Z4,Z5]
 refine ⟨fun h1 => ?_,fun h1 => ?_⟩
 ·rw [f122c14_eq]; simp (disch:=first|exact Lb rfl|omega) only [AXR,AXB,J.dst,reduceIte,Z1,Z2,Z3,Z4,Z5,f122r10]
  simpa [cmpI,of_decide_eq_true h1] using hR
 rw [f122c15_eq]; simp (disch:=first|exact Lb rfl|omega) only [AXR,AXB,J.dst,reduceIte,Z1,Z2,Z3,Z4,Z5,f122r11]
 rw [f122c16_eq]; simp (disch:=first|exact Lb rfl|omega) only [AXR,AXB,J.dst,reduceIte,Z1,Z2,Z3,Z4,Z5]
 refine ⟨fun h2 => ?_,fun h2 => ?_⟩
 ·rw [f122c17_eq]; simp (disch:=first|exact Lb rfl|omega) only [AXR,AXB,J.dst,reduceIte,Z1,Z2,Z3,Z4,Z5,f122r12]
  simpa [cmpI,of_decide_eq_false h1,of_decide_eq_true h2] using hR
 rw [f122c18_eq]; simp (disch:=first|exact Lb rfl|omega) only [AXR,AXB,J.dst,reduceIte,Z1,Z2,Z3,Z4,Z5,f122r13]
 have h3 : ¬ b < a := of_decide_eq_false h2
 simpa [cmpI,of_decide_eq_false h1,h3] using hR
def orI (x y : Int) : Int := if x = 0 then y else x
theorem or_ok (x y : Int) (b : Nat) (h : Heap) (h0 : cel h b 0 = some (vi x)) (h1 : cel h b 1 = some (vi y)) {R : Value → Heap → Prop} (hR : R (vi (orI x y)) h) :
  CallsH Try.prog 121 [sl b 0 2 2] h R := by
 refine f121ok (by simp) ?_
 rw [f121c0_eq]; simp (disch:=first|exact Lb rfl|omega) only [AXR,AXB,J.dst,reduceIte,Z1,Z2,Z3,Z4,Z5,f121r0]
 rw [f121c1_eq]; simp (disch:=first|exact Lb rfl|omega) only [AXR,AXB,J.dst,reduceIte,Z1,Z2,Z3,Z4,Z5,f121r1]
 rw [f121c2_eq]; simp (disch:=first|exact Lb rfl|omega) only [AXR,AXB,J.dst,reduceIte,Z1,Z2,Z3,Z4,Z5,f121r2]
 rw [f121c3_eq]
 refine loop_in (fun n σ h' => h' = h ∧ ∃ k : Nat,k + n = 2 ∧ σ = [(3,vi 0),(6,sl b 0 2 2),(7,vi 2),(8,vi k)] ∧ (1 ≤ k → x = 0) ∧ (2 ≤ k → y = 0)) 2 ⟨rfl,0,rfl,rfl,by omega,by omega⟩ ?_
 rintro n σ h' ⟨rfl,k,hk,rfl,hx,hy⟩ Q' hn he hr _
 rw [f121c4_eq]; simp (disch:=first|exact Lb rfl|omega) only [AXR,AXB,J.dst,reduceIte,Z1,Z2,Z3,Z4,Z5,f121r3]
 rw [f121c5_eq]; simp (disch:=first|exact Lb rfl|omega) only [AXR,AXB,J.dst,reduceIte,Z1,Z2,Z3,Z4,Z5]
 refine ⟨fun h2 => ?_,fun h2 => ?_⟩
 ·have hlt : k < 2 := by have := of_decide_eq_true h2; omega
  rw [f121c6_eq,f121c7_eq]
  have hcel : cel h' b (0 + k * 1) = some (vi (if k = 0 then x else y)) := by
   have : k = 0 ∨ k = 1 := by omega
   rcases this with rfl | rfl
   ·simpa using h0
   ·simpa using h1
  simp (disch:=first|exact Lb rfl|omega) only [AXR,AXB,J.dst,reduceIte,Z1,Z2,Z3,Z4,Z5,f121r4,hcel]
  refine ⟨by omega,by omega,?_⟩
  rw [f121c8_eq]; simp (disch:=first|exact Lb rfl|omega) only [AXR,AXB,J.dst,reduceIte,Z1,Z2,Z3,Z4,Z5,f121r5,binV_neq]
  rw [f121c9_eq]; simp (disch:=first|exact Lb rfl|omega) only [AXR,AXB,J.dst,reduceIte,Z1,Z2,Z3,Z4,Z5]
  refine ⟨fun h3 => ?_,fun h3 => ?_⟩
  ·rw [f121c10_eq]; simp (disch:=first|exact Lb rfl|omega) only [AXR,AXB,J.dst,reduceIte,Z1,Z2,Z3,Z4,Z5,f121r6]
   refine hr _ _ ?_
   simp (disch:=first|exact Lb rfl|omega) only [AXR,AXB,J.dst,reduceIte,Z1,Z2,Z3,Z4,Z5]
   have : (if k = 0 then x else y) = orI x y := by
    have h3' : (if k = 0 then x else y) ≠ 0 := by simpa using h3
    by_cases h0 : k = 0
    ·subst h0; simp [orI] at h3' ⊢; simp [h3']
    ·have : k = 1 := by omega
     subst this; simp [orI,hx]
   rw [← this] at hR
   exact hR
  ·have h3' : (if k = 0 then x else y) = 0 := by simpa using h3
   rw [f121c11_eq]; simp (disch:=first|exact Lb rfl|omega) only [AXR,AXB,J.dst,reduceIte,Z1,Z2,Z3,Z4,Z5,f121r7]
   have hw : IntKind.i64.wrap (k + 1) = ((k + 1 : Nat) : Int) := by
    have : k = 0 ∨ k = 1 := by omega
    rcases this with rfl | rfl <;> rfl
   rw [hw]
   refine hn (n - 1) _ _ (by omega) ⟨rfl,k + 1,by omega,rfl,fun _ => ?_,fun _ => ?_⟩
   ·by_cases h0 : k = 0
    ·simpa [h0] using h3'
    ·exact hx (by omega)
   ·have : k = 1 := by omega
    simpa [this] using h3'
 ·have hge : k = 2 := by have := of_decide_eq_false h2; omega
  subst hge
  refine he _ _ ?_
  rw [f121c12_eq]; simp (disch:=first|exact Lb rfl|omega) only [AXR,AXB,J.dst,reduceIte,Z1,Z2,Z3,Z4,Z5,f121r8]
  simpa [orI,hx,hy] using hR
theorem less_or (a b c d : Int) : (orI (cmpI a c) (cmpI b d) < 0) ↔ Stamp.lt ⟨a,b⟩ ⟨c,d⟩ = true := by
 unfold orI cmpI Stamp.lt
 simp
 split <;> rename_i h <;> (repeat' split) <;> omega
theorem less_ok (s t : Stamp) (h : Heap) {R : Value → Heap → Prop} (hR : ∀ h',Ext h h' → R (.bool (Stamp.lt s t)) h') :
  CallsH Try.prog 90 [.agg (eStamp s).toArray,.agg (eStamp t).toArray] h R := by
 refine f90ok (by simp) ?_
 rw [f90c0_eq]; simp (disch:=first|exact Lb rfl|omega) only [AXR,AXB,J.dst,reduceIte,Z1,Z2,Z3,Z4,Z5,f90r0]
 refine wL_boxN rfl ?_; intro b1 h1 e1 s1 hb1 B1
 refine wL_boxN rfl ?_; intro b2 h2 e2 s2 hb2 B2
 have B1 := B1.ext e2
 simp (disch:=first|exact Lb rfl|omega) only [AXR,AXB,J.dst,reduceIte,Z1,Z2,Z3,Z4,Z5]
 rw [f90c1_eq]
 refine drw_lt ?_
 simp (disch:=first|exact Lb rfl|omega) only [AXR,AXB,J.dst,reduceIte,Z1,Z2,Z3,Z4,Z5,f90r1,B1.cel,B2.cel,cells_agg,eStamp]
 refine ⟨by omega,by omega,by omega,by omega,?_⟩
 refine compare_ok _ _ _ ⟨kp_ext (by omega) (Ext.refl _),?_⟩
 refine compare_ok _ _ _ ⟨kp_ext (by omega) (Ext.refl _),?_⟩
 refine wL_bslD rfl (by omega) ?_; intro b3 h3 e3 s3 hb3 B3
 simp (disch:=first|exact Lb rfl|omega) only [AXR,AXB,J.dst,reduceIte,Z1,Z2,Z3,Z4,Z5]
 refine or_ok (cmpI s.wall t.wall) (cmpI s.tie t.tie) _ _ (by rw [B3.cel]; rfl) (by rw [B3.cel]; rfl) ⟨kp_ext (by omega) (Ext.refl _),?_⟩
 simp (disch:=first|exact Lb rfl|omega) only [AXR,AXB,J.dst,reduceIte,Z1,Z2,Z3,Z4,Z5,binV_lss]
 have hl := less_or s.wall s.tie t.wall t.tie
 have : decide (orI (cmpI s.wall t.wall) (cmpI s.tie t.tie) < 0) = Stamp.lt s t := by
  rw [Bool.eq_iff_iff]; simpa using hl
 rw [this]
 exact hR _ ((e1.trans e2).trans e3)
/-- The reference's. -/
theorem rless_ok (s t : Stamp) (h : Heap) {R : Value → Heap → Prop} (hR : ∀ h',Ext h h' → R (.bool (Stamp.lt s t)) h') :
  CallsH Try.prog 42 [.agg (eStamp s).toArray,.agg (eStamp t).toArray] h R := by
 refine f42ok (by simp) ?_
 rw [f42c0_eq]; simp (disch:=first|exact Lb rfl|omega) only [AXR,AXB,J.dst,reduceIte,Z1,Z2,Z3,Z4,Z5,f42r0]
 refine wL_boxN rfl ?_; intro b1 h1 e1 s1 hb1 B1
 refine wL_boxN rfl ?_; intro b2 h2 e2 s2 hb2 B2
 have B1 := B1.ext e2
 simp (disch:=first|exact Lb rfl|omega) only [AXR,AXB,J.dst,reduceIte,Z1,Z2,Z3,Z4,Z5]
 rw [f42c1_eq]
 simp (disch:=first|exact Lb rfl|omega) only [AXR,AXB,J.dst,reduceIte,Z1,Z2,Z3,Z4,Z5,f42r1,B1.cel,B2.cel,cells_agg,eStamp]
 have e := e1.trans e2
 refine ⟨fun h1 => ?_,fun h1 => ?_⟩
 ·have : Stamp.lt s t = true := by simp [Stamp.lt,h1]
  rw [← this]; exact hR _ e
 ·refine ⟨fun h2 => ?_,fun h2 => ?_⟩
  ·have : Stamp.lt s t = decide (s.tie < t.tie) := by
    have h2' : s.wall = t.wall := by simpa using h2
    simp [Stamp.lt,h2']
   rw [← this]; exact hR _ e
  ·have : Stamp.lt s t = false := by
    have h2' : s.wall ≠ t.wall := by simpa using h2
    have h1' : ¬ s.wall < t.wall := by simpa using h1
    simp [Stamp.lt,h1',h2']
   rw [← this]; exact hR _ e
theorem i64_wrap {n : Int} (h0 : -9223372036854775808 ≤ n) (h1 : n ≤ 9223372036854775807) : IntKind.i64.wrap n = n := by
 unfold IntKind.wrap IntKind.bits IntKind.signed; simp; omega
theorem last_ok {B : Nat → Prop} {a : Option Addr} {c : Nat} (vs : List Ver) (t : Stamp) (h : Heap) (S : SlF B h eVer a vs) (hn : vs.length ≤ maxLen) {R : Value → Heap → Prop} (hR : ∀ h',Ext h h' → R (vi (lastV vs t)) h') :
  CallsH Try.prog 91 [.slice a vs.length c,.agg (eStamp t).toArray] h R := by
 refine f91ok (by simp) ?_
 rw [f91c0_eq]; simp (disch:=first|exact Lb rfl|omega) only [AXR,AXB,J.dst,reduceIte,Z1,Z2,Z3,Z4,Z5,f91r0]
 refine wL_boxN rfl ?_; rintro b1 h1 e1 s1 hb1 (B1 : Blk _ _ _ (eStamp t))
 simp (disch:=first|exact Lb rfl|omega) only [AXR,AXB,J.dst,reduceIte,Z1,Z2,Z3,Z4,Z5]
 rw [f91c1_eq]; simp (disch:=first|exact Lb rfl|omega) only [AXR,AXB,J.dst,reduceIte,Z1,Z2,Z3,Z4,Z5,f91r1,binV_sub]
 rw [f91c2_eq]
 unfold maxLen at hn
 rw [i64_wrap (by omega) (by omega)]
 refine loop_in (fun n σ h' => Ext h1 h' ∧ n ≤ vs.length ∧ σ = [(0,.slice a vs.length c),(3,ptr b1 0),(5,vi ((n : Int) - 1))] ∧ lastV vs t = lastK vs t n) vs.length ⟨Ext.refl _,Nat.le_refl _,rfl,rfl⟩ ?_
 rintro n σ h' ⟨e2,hnl,rfl,hl⟩ Q' hnx hex hrt _
 rw [f91c3_eq]; simp (disch:=first|exact Lb rfl|omega) only [AXR,AXB,J.dst,reduceIte,Z1,Z2,Z3,Z4,Z5,f91r2]
 rw [f91c4_eq]; simp (disch:=first|exact Lb rfl|omega) only [AXR,AXB,J.dst,reduceIte,Z1,Z2,Z3,Z4,Z5]
 refine ⟨fun h2 => ?_,fun h2 => ?_⟩
 ·have hpos : 1 ≤ n := by have := of_decide_eq_true h2; omega
  obtain ⟨k,rfl⟩ : ∃ k,n = k + 1 := ⟨n - 1,by omega⟩
  have hk : ((k + 1 : Nat) : Int) - 1 = k := by omega
  obtain ⟨v,hv⟩ : ∃ v,vs[k]? = some v := ⟨vs[k],List.getElem?_eq_getElem (by omega)⟩
  obtain ⟨b,o,rfl,_,hrow⟩ := (S.ext (e1.trans e2)).elem eVer_len hv
  rw [hk,f91c5_eq,f91c6_eq]
  refine drw_lt ?_
  have B1' := B1.ext e2
  simp (disch:=first|exact Lb rfl|omega) only [AXR,AXB,J.dst,reduceIte,Z1,Z2,Z3,Z4,Z5,f91r3,B1'.rd,row_ver hrow,eStamp]
  refine ⟨B1'.lt,by omega,by omega,hrow.lt (by rw [eVer_len]; omega),?_⟩
  refine less_ok t v.at_ _ ?_
  intro h3 e3
  refine ⟨kp_ext (Nat.le_refl _) e3,?_⟩
  simp (disch:=first|exact Lb rfl|omega) only [AXR,AXB,J.dst,reduceIte,Z1,Z2,Z3,Z4,Z5]
  rw [f91c7_eq]; simp (disch:=first|exact Lb rfl|omega) only [AXR,AXB,J.dst,reduceIte,Z1,Z2,Z3,Z4,Z5]
  have hlk : lastK vs t (k + 1) = if Stamp.lt t v.at_ then lastK vs t k else (k : Int) := by
   simp [lastK,List.getD_eq_getElem?_getD,hv]
  refine ⟨fun h4 => ?_,fun h4 => ?_⟩
  ·have h4' : Stamp.lt t v.at_ = false := by simpa using h4
   rw [f91c8_eq]; simp (disch:=first|exact Lb rfl|omega) only [AXR,AXB,J.dst,reduceIte,Z1,Z2,Z3,Z4,Z5,f91r4]
   refine hrt _ _ ?_
   simp (disch:=first|exact Lb rfl|omega) only [AXR,AXB,J.dst,reduceIte,Z1,Z2,Z3,Z4,Z5]
   rw [hlk,h4'] at hl
   rw [show (k : Int) = lastV vs t from hl.symm]
   exact hR _ (e1.trans (e2.trans e3))
  ·have h4' : Stamp.lt t v.at_ = true := by simpa using h4
   rw [f91c9_eq]; simp (disch:=first|exact Lb rfl|omega) only [AXR,AXB,J.dst,reduceIte,Z1,Z2,Z3,Z4,Z5,f91r5,binV_sub]
   rw [i64_wrap (by omega) (by omega)]
   rw [hlk,h4'] at hl
   exact hnx k _ _ (by omega) ⟨e2.trans e3,by omega,rfl,hl⟩
 ·have hz : n = 0 := by have := of_decide_eq_false h2; omega
  subst hz
  refine hex _ _ ?_
  rw [f91c10_eq]; simp (disch:=first|exact Lb rfl|omega) only [AXR,AXB,J.dst,reduceIte,Z1,Z2,Z3,Z4,Z5,f91r6]
  have : lastV vs t = -1 := hl
  rw [← this]
  exact hR _ (e1.trans e2)
end Go.Proofs.Ytefghfgmkndikaa
namespace Go.Proofs.Ytefghfgmkndikaa
open Go Go.AX
theorem getD_of {α : Type} {l : List α} {k : Nat} {x d : α} (h : l[k]? = some x) : l.getD k d = x := by simp [List.getD_eq_getElem?_getD,h]
theorem get_ex {α : Type} {l : List α} {k : Nat} (h : k < l.length) : ∃ x,l[k]? = some x := ⟨l[k],List.getElem?_eq_getElem h⟩
theorem tells_ok {B : Nat → Prop} (x : CV) (c : Cell) (t : Stamp) (h : Heap) (S : CR B h x c) (hn : c.vers.length ≤ maxLen) {R : Value → Heap → Prop}
  (hR : ∀ h',Ext h h' → R (.tuple #[.string (tellV c.vers t).1,.bool (tellV c.vers t).2]) h') :
  CallsH Try.prog 89 [.agg (eCV x).toArray,.agg (eStamp t).toArray] h R := by
 refine f89ok (by simp) ?_
 simp (disch:=first|exact Lb rfl|omega) only [AXR,AXB,J.dst,reduceIte,Z1,Z2,Z3,Z4,Z5,f89r0,f89r1,f89r2,f89r3,f89r4,f89c4_eq,f89c5_eq,f89c3_eq,f89c2_eq,f89c1_eq,f89c0_eq]
 refine wL_boxN rfl ?_; rintro b1 h1 e1 s1 hb1 (B1 : Blk _ _ _ (eCV x))
 refine wL_boxN rfl ?_; rintro b2 h2 e2 s2 hb2 (B2 : Blk _ _ _ (eStamp t))
 replace B1 := B1.ext e2
 simp (disch:=first|exact Lb rfl|omega) only [AXR,AXB,J.dst,reduceIte,Z1,Z2,Z3,Z4,Z5,f89r0,f89r1,f89r2,f89r3,f89r4,f89c4_eq,f89c5_eq,f89c3_eq,f89c2_eq,f89c1_eq,f89c0_eq,B1.cel,B2.rd,eCV,eStamp,S.vn]
 refine last_ok c.vers t _ (S.vers.ext (e1.trans e2)) hn ?_
 intro h3 e3
 replace B1 := B1.ext e3
 simp (disch:=first|exact Lb rfl|omega) only [AXR,AXB,J.dst,reduceIte,Z1,Z2,Z3,Z4,Z5,f89r0,f89r1,f89r2,f89r3,f89r4,f89c4_eq,f89c5_eq,f89c3_eq,f89c2_eq,f89c1_eq,f89c0_eq,B1.cel,eCV]
 have hR := hR _ (e1.trans (e2.trans e3))
 have hb := lastV_le c.vers t
 by_cases hl : lastV c.vers t < 0
 ·simp (disch:=first|exact Lb rfl|omega) only [AXR,AXB,J.dst,reduceIte,Z1,Z2,Z3,Z4,Z5,decide_eq_true hl]
  simpa [tellV,hl,noB] using hR
 obtain ⟨k,hk⟩ : ∃ k : Nat,lastV c.vers t = k := ⟨(lastV c.vers t).toNat,by omega⟩
 obtain ⟨v,hv⟩ := get_ex (show k < c.vers.length by omega)
 obtain ⟨b,o,ha,_,hrow⟩ := (S.vers.ext (e1.trans (e2.trans e3))).elem eVer_len hv
 rw [hk] at hb hl
 simp (disch:=first|exact Lb rfl|omega) only [AXR,AXB,J.dst,reduceIte,Z1,Z2,Z3,Z4,Z5,decide_eq_false hl,hk,ha,S.vn,row_ver hrow]
 have ht : tellV c.vers t = if v.drop then (noB,false) else (v.data,true) := by
  simp [tellV,hk,List.getD_eq_getElem?_getD,hv,hl]
 rw [ht] at hR
 refine ⟨by omega,by omega,fun hd => ?_,fun hd => ⟨by omega,by omega,?_⟩⟩
 ·simpa [hd,noB] using hR
 ·simpa [hd] using hR
theorem of_ok {B : Nat → Prop} (x : CV) (c : Cell) (t : Stamp) (h : Heap) (S : CR B h x c) (hn : c.vers.length ≤ maxLen) {R : Value → Heap → Prop}
  (hR : ∀ h',Ext h h' → R (.tuple #[.string (tellV c.vers t).1,.bool (tellV c.vers t).2]) h') :
  CallsH Try.prog 107 [.agg (eCV x).toArray,.agg (eStamp t).toArray] h R := by
 refine f107ok (by simp) ?_
 simp (disch:=first|exact Lb rfl|omega) only [AXR,AXB,J.dst,reduceIte,Z1,Z2,Z3,Z4,Z5,f107r0,f107r1,f107r2,f107r3,f107r4,f107r5,f107r6,f107r7,f107r8,f107r9,f107r10,f107c10_eq,f107c9_eq,f107c8_eq,f107c7_eq,f107c11_eq,f107c6_eq,f107c5_eq,f107c4_eq,f107c14_eq,f107c15_eq,f107c13_eq,f107c12_eq,f107c3_eq,f107c2_eq,f107c1_eq,f107c0_eq]
 refine wL_boxN rfl ?_; rintro b1 h1 e1 s1 hb1 (B1 : Blk _ _ _ (eCV x))
 refine wL_boxN rfl ?_; rintro b2 h2 e2 s2 hb2 (B2 : Blk _ _ _ (eStamp t))
 replace B1 := B1.ext e2
 simp (disch:=first|exact Lb rfl|omega) only [AXR,AXB,J.dst,reduceIte,Z1,Z2,Z3,Z4,Z5,f107r0,f107r1,f107r2,f107r3,f107r4,f107r5,f107r6,f107r7,f107r8,f107r9,f107r10,f107c10_eq,f107c9_eq,f107c8_eq,f107c7_eq,f107c11_eq,f107c6_eq,f107c5_eq,f107c4_eq,f107c14_eq,f107c15_eq,f107c13_eq,f107c12_eq,f107c3_eq,f107c2_eq,f107c1_eq,f107c0_eq]
 unfold maxLen at hn
 refine loop_in (fun n σ h' => Ext h2 h' ∧ ∃ k : Nat,k + n = c.vers.length ∧ σ = [(2,ptr b1 0),(3,ptr b2 0),(6,.string (ofK c.vers t k).1),(7,.bool (ofK c.vers t k).2),(8,vi k)])
  c.vers.length ⟨Ext.refl _,0,by omega,rfl⟩ ?_
 rintro n σ h' ⟨e3,k,hk,rfl⟩ Q' hnx hex hrt _
 replace B1 := B1.ext e3
 replace B2 := B2.ext e3
 simp (disch:=first|exact Lb rfl|omega) only [AXR,AXB,J.dst,reduceIte,Z1,Z2,Z3,Z4,Z5,f107r0,f107r1,f107r2,f107r3,f107r4,f107r5,f107r6,f107r7,f107r8,f107r9,f107r10,f107c10_eq,f107c9_eq,f107c8_eq,f107c7_eq,f107c11_eq,f107c6_eq,f107c5_eq,f107c4_eq,f107c14_eq,f107c15_eq,f107c13_eq,f107c12_eq,f107c3_eq,f107c2_eq,f107c1_eq,f107c0_eq,B1.cel,eCV,S.vn]
 refine ⟨fun h2 => ?_,fun h2 => ?_⟩
 ·have hkl : k < c.vers.length := by have := of_decide_eq_true h2; omega
  obtain ⟨v,hv⟩ := get_ex hkl
  obtain ⟨b,o,ha,_,hrow⟩ := (S.vers.ext (e1.trans (e2.trans e3))).elem eVer_len hv
  simp (disch:=first|exact Lb rfl|omega) only [AXR,AXB,J.dst,reduceIte,Z1,Z2,Z3,Z4,Z5,f107r0,f107r1,f107r2,f107r3,f107r4,f107r5,f107r6,f107r7,f107r8,f107r9,f107r10,f107c10_eq,f107c9_eq,f107c8_eq,f107c7_eq,f107c11_eq,f107c6_eq,f107c5_eq,f107c4_eq,f107c14_eq,f107c15_eq,f107c13_eq,f107c12_eq,f107c3_eq,f107c2_eq,f107c1_eq,f107c0_eq,ha,row_ver hrow]
  refine ⟨by omega,by omega,?_⟩
  refine wL_newN ?_; rintro b4 h4 e4 s4 hb4 B4
  refine wL_stN rfl rfl rfl B4 (by decide) (eVer_one v) ?_; intro h5 u5 (B5 : Blk _ _ _ (eVer v))
  have e5 := u5.ext e4 (by omega)
  replace B2 := B2.ext e5
  simp (disch:=first|exact Lb rfl|omega) only [AXR,AXB,J.dst,reduceIte,Z1,Z2,Z3,Z4,Z5,f107r0,f107r1,f107r2,f107r3,f107r4,f107r5,f107r6,f107r7,f107r8,f107r9,f107r10,f107c10_eq,f107c9_eq,f107c8_eq,f107c7_eq,f107c11_eq,f107c6_eq,f107c5_eq,f107c4_eq,f107c14_eq,f107c15_eq,f107c13_eq,f107c12_eq,f107c3_eq,f107c2_eq,f107c1_eq,f107c0_eq,B2.rd,B5.rd,eVer,eStamp]
  refine rless_ok t v.at_ _ ?_
  intro h6 e6
  replace B5 := B5.ext e6
  simp (disch:=first|exact Lb rfl|omega) only [AXR,AXB,J.dst,reduceIte,Z1,Z2,Z3,Z4,Z5,f107r0,f107r1,f107r2,f107r3,f107r4,f107r5,f107r6,f107r7,f107r8,f107r9,f107r10,f107c10_eq,f107c9_eq,f107c8_eq,f107c7_eq,f107c11_eq,f107c6_eq,f107c5_eq,f107c4_eq,f107c14_eq,f107c15_eq,f107c13_eq,f107c12_eq,f107c3_eq,f107c2_eq,f107c1_eq,f107c0_eq]
  have hok : ofK c.vers t (k + 1) = if Stamp.lt t v.at_ then ofK c.vers t k else (v.data, !v.drop) := by simp [ofK,List.getD_eq_getElem?_getD,hv]
  have hw : IntKind.i64.wrap ((k : Int) + 1) = ((k + 1 : Nat) : Int) := i64_wrap (by omega) (by omega)
  refine ⟨fun h7 => ?_,fun h7 => ?_⟩
  ·refine drw_lt ?_
   simp (disch:=first|exact Lb rfl|omega) only [AXR,AXB,J.dst,reduceIte,Z1,Z2,Z3,Z4,Z5,f107r0,f107r1,f107r2,f107r3,f107r4,f107r5,f107r6,f107r7,f107r8,f107r9,f107r10,f107c10_eq,f107c9_eq,f107c8_eq,f107c7_eq,f107c11_eq,f107c6_eq,f107c5_eq,f107c4_eq,f107c14_eq,f107c15_eq,f107c13_eq,f107c12_eq,f107c3_eq,f107c2_eq,f107c1_eq,f107c0_eq,B5.cel,eVer,hw]
   have h7' : Stamp.lt t v.at_ = false := by simpa using h7
   refine ⟨by have := B5.lt; omega,by have := B5.lt; omega,hnx (n - 1) _ _ (by omega) ⟨e3.trans (e5.trans e6),k + 1,by omega,?_⟩⟩
   rw [hok,h7']; rfl
  ·have h7' : Stamp.lt t v.at_ = true := by simpa using h7
   rw [hw]
   refine hnx (n - 1) _ _ (by omega) ⟨e3.trans (e5.trans e6),k + 1,by omega,?_⟩
   rw [hok,h7']; rfl
 ·have hkl : k = c.vers.length := by have := of_decide_eq_false h2; omega
  refine hex _ _ ?_
  simp (disch:=first|exact Lb rfl|omega) only [AXR,AXB,J.dst,reduceIte,Z1,Z2,Z3,Z4,Z5,f107r0,f107r1,f107r2,f107r3,f107r4,f107r5,f107r6,f107r7,f107r8,f107r9,f107r10,f107c10_eq,f107c9_eq,f107c8_eq,f107c7_eq,f107c11_eq,f107c6_eq,f107c5_eq,f107c4_eq,f107c14_eq,f107c15_eq,f107c13_eq,f107c12_eq,f107c3_eq,f107c2_eq,f107c1_eq,f107c0_eq]
  have hR := hR _ (e1.trans (e2.trans e3))
  rw [← ofV_eq] at hR
  rw [hkl]
  refine ⟨fun h3 => ?_,fun h3 => ?_⟩
  ·have h3' : (ofK c.vers t c.vers.length).2 = false := by simpa using h3
   simpa [ofV,h3',noB] using hR
  ·have h3' : (ofK c.vers t c.vers.length).2 = true := by simpa using h3
   simpa [ofV,h3'] using hR
/-- The first place from k on whose key is the key. -/
theorem findK_eq (cs : List Cell) (key : ByteArray) (k : Nat) (hk : ∀ j c,j < k → cs[j]? = some c → c.key ≠ key) : (∀ c,cs[k]? = some c → c.key = key → findK cs key = k) ∧ (k = cs.length → findK cs key = -1) := by
 refine ⟨fun c hc he => ?_,fun he => ?_⟩
 ·have : cs.findIdx? (fun c => decide (c.key = key)) = some k := by
   rw [List.findIdx?_eq_some_iff_getElem]
   have hl : k < cs.length := by
    rcases Nat.lt_or_ge k cs.length with h | h
    ·exact h
    ·rw [List.getElem?_eq_none h] at hc; cases hc
   rw [List.getElem?_eq_getElem hl] at hc
   cases hc
   refine ⟨hl,by simpa using he,fun j hj => ?_⟩
   simpa using hk j _ hj (List.getElem?_eq_getElem (by omega))
  simp [findK,this]
 ·have : cs.findIdx? (fun c => decide (c.key = key)) = none := by
   rw [List.findIdx?_eq_none_iff]
   intro x hx
   obtain ⟨j,hj,rfl⟩ := List.mem_iff_getElem.1 hx
   simpa using hk j _ (by omega) (List.getElem?_eq_getElem hj)
  simp [findK,this]
theorem rfind_ok {B : Nat → Prop} {a : Option Addr} {cap : Nat} (cs : List Cell) (key : ByteArray) (h : Heap) (S : SlC B h a cs) (hn : cs.length ≤ maxLen) {R : Value → Heap → Prop}
  (hR : R (vi (findK cs key)) h) : CallsH Try.prog 108 [.slice a cs.length cap,.string key] h R := by
 refine f108ok (by simp) ?_
 simp (disch:=first|exact Lb rfl|omega) only [AXR,AXB,J.dst,reduceIte,Z1,Z2,Z3,Z4,Z5,f108r0,f108r1,f108r2,f108r3,f108r4,f108r5,f108r6,f108c8_eq,f108c7_eq,f108c6_eq,f108c9_eq,f108c5_eq,f108c4_eq,f108c3_eq,f108c10_eq,f108c2_eq,f108c1_eq,f108c0_eq]
 unfold maxLen at hn
 refine loop_in (fun n σ h' => h' = h ∧ ∃ k : Nat,k + n = cs.length ∧ σ = [(0,.slice a cs.length cap),(1,.string key),(5,vi k)] ∧ ∀ j c,j < k → cs[j]? = some c → c.key ≠ key)
  cs.length ⟨rfl,0,by omega,rfl,by intros; omega⟩ ?_
 rintro n σ h' ⟨rfl,k,hk,rfl,hnk⟩ Q' hnx hex hrt _
 simp (disch:=first|exact Lb rfl|omega) only [AXR,AXB,J.dst,reduceIte,Z1,Z2,Z3,Z4,Z5,f108r0,f108r1,f108r2,f108r3,f108r4,f108r5,f108r6,f108c8_eq,f108c7_eq,f108c6_eq,f108c9_eq,f108c5_eq,f108c4_eq,f108c3_eq,f108c10_eq,f108c2_eq,f108c1_eq,f108c0_eq]
 have hfk := findK_eq cs key k hnk
 refine ⟨fun h2 => ?_,fun h2 => ?_⟩
 ·have hkl : k < cs.length := by have := of_decide_eq_true h2; omega
  obtain ⟨c,hc⟩ := get_ex hkl
  obtain ⟨b,o,v,rfl,_,hrow,hcr⟩ := S.elem hc
  simp (disch:=first|exact Lb rfl|omega) only [AXR,AXB,J.dst,reduceIte,Z1,Z2,Z3,Z4,Z5,f108r0,f108r1,f108r2,f108r3,f108r4,f108r5,f108r6,f108c8_eq,f108c7_eq,f108c6_eq,f108c9_eq,f108c5_eq,f108c4_eq,f108c3_eq,f108c10_eq,f108c2_eq,f108c1_eq,f108c0_eq,row_cv hrow,keq_iff,hcr.key]
  refine ⟨by omega,by omega,fun h3 => ?_,fun h3 => ?_⟩
  ·refine hrt _ _ ?_
   simp (disch:=first|exact Lb rfl|omega) only [AXR,AXB,J.dst,reduceIte,Z1,Z2,Z3,Z4,Z5]
   rw [hfk.1 c hc (by simpa using h3)] at hR
   exact hR
  ·rw [i64_wrap (by omega) (by omega)]
   refine hnx (n - 1) _ _ (by omega) ⟨rfl,k + 1,by omega,rfl,?_⟩
   intro j c' hj hc'
   rcases Nat.lt_or_ge j k with hlt | hge
   ·exact hnk j c' hlt hc'
   ·have : j = k := by omega
    subst this
    rw [hc] at hc'; cases hc'
    simpa using h3
 ·have hkl : k = cs.length := by have := of_decide_eq_false h2; omega
  refine hex _ _ ?_
  try simp (disch:=first|exact Lb rfl|omega) only [AXR,AXB,J.dst,reduceIte,Z1,Z2,Z3,Z4,Z5,f108r0,f108r1,f108r2,f108r3,f108r4,f108r5,f108r6,f108c8_eq,f108c7_eq,f108c6_eq,f108c9_eq,f108c5_eq,f108c4_eq,f108c3_eq,f108c10_eq,f108c2_eq,f108c1_eq,f108c0_eq]
  rw [hfk.2 hkl] at hR
  exact hR
end Go.Proofs.Ytefghfgmkndikaa
namespace Go.AX
open Go
theorem raw_shr {P : Program} {o : Oper} {σ : Env} {h : Heap} {K : Value → Heap → Prop} {t yt : TypeId} {x y : Operand} {k yk : IntKind} {a b : Int} (ho : o.op = .binOp .shr t x y yt)
  (hx : evO σ x = some (.int k a)) (hy : evO σ y = some (.int yk b)) (h0 : 0 ≤ b) (h1 : b ≤ k.bits) (hK : K (.int k (a / 2 ^ b.toNat)) h) : RawW P o σ h K := by
 refine ⟨?_,?_,?_⟩
 ·rw [ho]; intro u hu
  simp only [Op.operands,List.mem_toArray,List.mem_cons,List.not_mem_nil,or_false] at hu
  rcases hu with rfl | rfl
  ·rw [hx]; rfl
  ·rw [hy]; rfl
 ·rw [ho]; intro cs b hh; cases hh
 ·intro w hw
  refine ⟨.value (.int k (a / 2 ^ b.toNat)),_,w,?_,rfl,Same.refl w,by rw [hw]; exact hK⟩
  simp [execOp,ho,hx,hy,eqGuard,binOp,shift_shr k yk a b h0 h1]
end Go.AX
namespace Go.Proofs.Ytefghfgmkndikaa
open Go Go.AX
theorem cmpStr_ok (a b : ByteArray) (h : Heap) {R : Value → Heap → Prop} (hR : R (vi (kcmp a b)) h) : CallsH Try.prog 139 [.string a,.string b] h R := by
 refine f139ok (by simp) ?_
 simp (disch:=first|exact Lb rfl|omega) only [AXR,AXB,J.dst,reduceIte,Z1,Z2,Z3,Z4,Z5,f139r0,f139r1,f139c1_eq,f139c0_eq]
 rw [wL_raw]
 refine raw_ext (f := 153) (e := Extern.BytealgCompare.compare) (vs := [.string a,.string b]) (v := vi (kcmp a b)) rfl Try.func153 (by kernel_rfl) (by kernel_rfl) (by kernel_rfl) (by kernel_rfl) (by rfl) (fun w _ => ?_) ?_
 ·have := Lib.run_compareString (P := Try.prog) a b w
  rw [← ByteArray.toList_eq,← ByteArray.toList_eq,cmp_kcmp] at this
  exact this
 refine ⟨trivial,?_⟩
 simp (disch:=first|exact Lb rfl|omega) only [AXR,AXB,J.dst,reduceIte,Z1,Z2,Z3,Z4,Z5,f139r0,f139r1,f139c1_eq,f139c0_eq]
 exact hR
theorem strCmp_ok (a b : ByteArray) (h : Heap) {R : Value → Heap → Prop} (hR : R (vi (kcmp a b)) h) : CallsH Try.prog 118 [.string a,.string b] h R := by
 refine f118ok (by simp) ?_
 simp (disch:=first|exact Lb rfl|omega) only [AXR,AXB,J.dst,reduceIte,Z1,Z2,Z3,Z4,Z5,f118r0,f118r1,f118c1_eq,f118c0_eq]
 refine cmpStr_ok a b h ?_
 exact hR
theorem key_ok (x : CV) (key : ByteArray) (h : Heap) {R : Value → Heap → Prop} (hR : ∀ h',Ext h h' → R (vi (kcmp x.key key)) h') : CallsH Try.prog 117 [.agg (eCV x).toArray,.string key] h R := by
 refine f117ok (by simp) ?_
 simp (disch:=first|exact Lb rfl|omega) only [AXR,AXB,J.dst,reduceIte,Z1,Z2,Z3,Z4,Z5,f117r0,f117r1,f117c1_eq,f117c0_eq]
 refine wL_boxN rfl ?_; rintro b1 h1 e1 s1 hb1 (B1 : Blk _ _ _ (eCV x))
 simp (disch:=first|exact Lb rfl|omega) only [AXR,AXB,J.dst,reduceIte,Z1,Z2,Z3,Z4,Z5,f117r0,f117r1,f117c1_eq,f117c0_eq,B1.cel,eCV]
 refine strCmp_ok _ _ _ ?_
 exact hR _ e1
/-- Where the keys rise: what is ahead of one that is ahead is ahead. -/
theorem sorted_get {cs : List Cell} (S : Sorted cs) {p q : Nat} {c d : Cell} (hp : cs[p]? = some c) (hq : cs[q]? = some d) (hpq : p < q) : klt c.key d.key = true := by
 obtain ⟨h1,rfl⟩ := List.getElem?_eq_some_iff.1 hp
 obtain ⟨h2,rfl⟩ := List.getElem?_eq_some_iff.1 hq
 exact List.pairwise_iff_getElem.1 S p q h1 h2 hpq
theorem sorted_lt_key {cs : List Cell} (S : Sorted cs) {p q : Nat} {c d : Cell} {key : ByteArray} (hp : cs[p]? = some c) (hq : cs[q]? = some d) (hpq : p ≤ q) (hd : klt d.key key = true) : klt c.key key = true := by
 rcases Nat.lt_or_ge p q with h | h
 ·exact klt_trans (sorted_get S hp hq h) hd
 ·have : p = q := by omega
  subst this; rw [hp] at hq; cases hq; exact hd
theorem lbK_eq (key : ByteArray) : ∀ (cs : List Cell) (i : Nat),i ≤ cs.length → (∀ p c,p < i → cs[p]? = some c → klt c.key key = true) → (∀ c,cs[i]? = some c → klt c.key key = false) → lbK cs key = i
 | [], i, h, _, _ => by have : i = 0 := by simpa using h
                        subst this; rfl
 | c :: cs,0,_,_,h => by
  have := h c rfl
  simp [lbK,List.takeWhile,this]
 | c :: cs,i + 1,hl,h,h' => by
  have h0 := h 0 c (by omega) rfl
  have := lbK_eq key cs i (by simpa using hl) (fun p d hp hd => h (p + 1) d (by omega) (by simpa using hd)) (fun d hd => h' d (by simpa using hd))
  unfold lbK at this ⊢
  simp [List.takeWhile,h0,this]
theorem lbK_le (cs : List Cell) (key : ByteArray) : lbK cs key ≤ cs.length := by unfold lbK; exact List.Sublist.length_le (List.takeWhile_sublist _)
theorem kcmp_lt (a b : ByteArray) : kcmp a b < 0 ↔ klt a b = true := by
 unfold kcmp; split
 ·simp_all
 ·split <;> simp_all
theorem kcmp_eq (a b : ByteArray) : kcmp a b = 0 ↔ a = b := by
 unfold kcmp
 rcases klt_total a b with h | h | h
 ·simp [h,klt_ne h]
 ·subst h; simp [klt_irrefl]
 ·simp [h,klt_asymm h,(klt_ne h).symm]
theorem search_ok {B : Nat → Prop} {a : Option Addr} {cap : Nat} (cs : List Cell) (key : ByteArray) (h : Heap) (S : SlC B h a cs) (hs : Sorted cs) (hn : cs.length ≤ maxLen) {R : Value → Heap → Prop}
  (hR : ∀ h',Ext h h' → R (.tuple #[vi (lbK cs key),.bool (hasK cs key)]) h') : CallsH Try.prog 116 [.slice a cs.length cap,.string key,.func (.func 117) #[] #[]] h R := by
 refine f116ok (by simp) ?_
 simp (disch:=first|exact Lb rfl|omega) only [AXR,AXB,J.dst,reduceIte,Z1,Z2,Z3,Z4,Z5,f116r0,f116r1,f116r2,f116r3,f116r4,f116r5,f116r6,f116r7,f116r8,f116c10_eq,f116c11_eq,f116c9_eq,f116c8_eq,f116c7_eq,f116c6_eq,f116c5_eq,f116c4_eq,f116c12_eq,f116c3_eq,f116c2_eq,f116c1_eq,f116c0_eq]
 unfold maxLen at hn
 refine loop_in (fun n σ h' => Ext h h' ∧ ∃ i j : Nat,j = i + n ∧ j ≤ cs.length ∧ σ = [(0,.slice a cs.length cap),(1,.string key),(2,.func (.func 117) #[] #[]),(8,vi cs.length),(9,vi i),(10,vi j)] ∧
   (∀ p c,p < i → cs[p]? = some c → klt c.key key = true) ∧ (∀ c,cs[j]? = some c → klt c.key key = false))
  cs.length ⟨Ext.refl _,0,cs.length,by omega,by omega,rfl,by intros; omega,by simp⟩ ?_
 rintro n σ h' ⟨e1,i,j,hj,hjl,rfl,hlo,hhi⟩ Q' hnx hex hrt _
 simp (disch:=first|exact Lb rfl|omega) only [AXR,AXB,J.dst,reduceIte,Z1,Z2,Z3,Z4,Z5,f116r0,f116r1,f116r2,f116r3,f116r4,f116r5,f116r6,f116r7,f116r8,f116c10_eq,f116c11_eq,f116c9_eq,f116c8_eq,f116c7_eq,f116c6_eq,f116c5_eq,f116c4_eq,f116c12_eq,f116c3_eq,f116c2_eq,f116c1_eq,f116c0_eq]
 refine ⟨fun h2 => ?_,fun h2 => ?_⟩
 ·have hij : i < j := by have := of_decide_eq_true h2; omega
  rw [wL_raw]
  refine raw_shr rfl rfl rfl (by decide) (by decide) ?_
  refine ⟨trivial,?_⟩
  have hmid : IntKind.i64.wrap (IntKind.u64.wrap (IntKind.i64.wrap ((i : Int) + j)) / 2 ^ (1 : Int).toNat) = (((i + j) / 2 : Nat) : Int) := by
   have : IntKind.u64.wrap (IntKind.i64.wrap ((i : Int) + j)) = (i : Int) + j := by unfold IntKind.wrap IntKind.bits IntKind.signed; simp; omega
   rw [this]
   have e2 : ((i : Int) + j) / 2 ^ (1 : Int).toNat = (((i + j) / 2 : Nat) : Int) := by
    show ((i : Int) + j) / 2 = _
    omega
   rw [e2]
   exact i64_wrap (by omega) (by omega)
  simp (disch:=first|exact Lb rfl|omega) only [AXR,AXB,J.dst,reduceIte,Z1,Z2,Z3,Z4,Z5,f116r0,f116r1,f116r2,f116r3,f116r4,f116r5,f116r6,f116r7,f116r8,f116c10_eq,f116c11_eq,f116c9_eq,f116c8_eq,f116c7_eq,f116c6_eq,f116c5_eq,f116c4_eq,f116c12_eq,f116c3_eq,f116c2_eq,f116c1_eq,f116c0_eq,hmid]
  obtain ⟨m,hm⟩ : ∃ m,m = (i + j) / 2 := ⟨_,rfl⟩
  rw [← hm]
  obtain ⟨c,hc⟩ := get_ex (show m < cs.length by omega)
  obtain ⟨b,o,v,rfl,_,hrow,hcr⟩ := (S.ext e1).elem hc
  simp (disch:=first|exact Lb rfl|omega) only [AXR,AXB,J.dst,reduceIte,Z1,Z2,Z3,Z4,Z5,f116r0,f116r1,f116r2,f116r3,f116r4,f116r5,f116r6,f116r7,f116r8,f116c10_eq,f116c11_eq,f116c9_eq,f116c8_eq,f116c7_eq,f116c6_eq,f116c5_eq,f116c4_eq,f116c12_eq,f116c3_eq,f116c2_eq,f116c1_eq,f116c0_eq,row_cv hrow]
  refine ⟨by omega,by omega,?_⟩
  refine wL_cav _ _ _ _ _ _ _ rfl rfl f117cal ?_
  refine key_ok v key _ ?_
  intro h3 e3
  refine ⟨trivial,?_⟩
  simp (disch:=first|exact Lb rfl|omega) only [AXR,AXB,J.dst,reduceIte,Z1,Z2,Z3,Z4,Z5,f116r0,f116r1,f116r2,f116r3,f116r4,f116r5,f116r6,f116r7,f116r8,f116c10_eq,f116c11_eq,f116c9_eq,f116c8_eq,f116c7_eq,f116c6_eq,f116c5_eq,f116c4_eq,f116c12_eq,f116c3_eq,f116c2_eq,f116c1_eq,f116c0_eq,hcr.key]
  have hk := kcmp_lt c.key key
  refine ⟨fun h4 => ?_,fun h4 => ?_⟩
  ·have h4 : klt c.key key = true := by simpa [hk] using h4
   rw [i64_wrap (by omega) (by omega)]
   exact hnx (j - (m + 1)) _ _ (by omega) ⟨e1.trans e3,m + 1,j,by omega,hjl,rfl,fun p d hp hd => sorted_lt_key hs hd hc (by omega) h4,hhi⟩
  ·have h4 : klt c.key key = false := by
    have := of_decide_eq_false h4
    rw [hk] at this; simpa using this
   refine hnx (m - i) _ _ (by omega) ⟨e1.trans e3,i,m,by omega,by omega,rfl,hlo,?_⟩
   intro d hd; rw [hc] at hd; cases hd; exact h4
 ·have hij : i = j := by have := of_decide_eq_false h2; omega
  subst hij
  refine hex _ _ ?_
  simp (disch:=first|exact Lb rfl|omega) only [AXR,AXB,J.dst,reduceIte,Z1,Z2,Z3,Z4,Z5,f116r0,f116r1,f116r2,f116r3,f116r4,f116r5,f116r6,f116r7,f116r8,f116c10_eq,f116c11_eq,f116c9_eq,f116c8_eq,f116c7_eq,f116c6_eq,f116c5_eq,f116c4_eq,f116c12_eq,f116c3_eq,f116c2_eq,f116c1_eq,f116c0_eq]
  have hlb := lbK_eq key cs i hjl hlo hhi
  refine ⟨fun h3 => ?_,fun h3 => ?_⟩
  ·obtain ⟨c,hc⟩ := get_ex (show i < cs.length by have := of_decide_eq_true h3; omega)
   obtain ⟨b,o,v,rfl,_,hrow,hcr⟩ := (S.ext e1).elem hc
   simp (disch:=first|exact Lb rfl|omega) only [AXR,AXB,J.dst,reduceIte,Z1,Z2,Z3,Z4,Z5,f116r0,f116r1,f116r2,f116r3,f116r4,f116r5,f116r6,f116r7,f116r8,f116c10_eq,f116c11_eq,f116c9_eq,f116c8_eq,f116c7_eq,f116c6_eq,f116c5_eq,f116c4_eq,f116c12_eq,f116c3_eq,f116c2_eq,f116c1_eq,f116c0_eq,row_cv hrow]
   refine ⟨by omega,by have := of_decide_eq_true h3; omega,?_⟩
   refine wL_cav _ _ _ _ _ _ _ rfl rfl f117cal ?_
   refine key_ok v key _ ?_
   intro h4 e4
   refine ⟨trivial,?_⟩
   simp (disch:=first|exact Lb rfl|omega) only [AXR,AXB,J.dst,reduceIte,Z1,Z2,Z3,Z4,Z5,f116r0,f116r1,f116r2,f116r3,f116r4,f116r5,f116r6,f116r7,f116r8,f116c10_eq,f116c11_eq,f116c9_eq,f116c8_eq,f116c7_eq,f116c6_eq,f116c5_eq,f116c4_eq,f116c12_eq,f116c3_eq,f116c2_eq,f116c1_eq,f116c0_eq,hcr.key]
   have hh : hasK cs key = (kcmp c.key key == 0) := by
    have := kcmp_eq c.key key
    rw [Bool.eq_iff_iff]
    simp [hasK,hlb,hc,this]
   have := hR _ (e1.trans e4)
   rw [hlb,hh] at this
   exact this
  ·have hh : hasK cs key = false := by
    have : cs[i]? = none := List.getElem?_eq_none (by have := of_decide_eq_false h3; omega)
    simp [hasK,hlb,this]
   have := hR _ e1
   rw [hlb,hh] at this
   exact this
theorem find_ok {B : Nat → Prop} {a : Option Addr} {cap : Nat} (cs : List Cell) (key : ByteArray) (h : Heap) (S : SlC B h a cs) (hs : Sorted cs) (hn : cs.length ≤ maxLen) {R : Value → Heap → Prop}
  (hR : ∀ h',Ext h h' → R (.tuple #[vi (lbK cs key),.bool (hasK cs key)]) h') : CallsH Try.prog 87 [.slice a cs.length cap,.string key] h R := by
 refine f87ok (by simp) ?_
 simp (disch:=first|exact Lb rfl|omega) only [AXR,AXB,J.dst,reduceIte,Z1,Z2,Z3,Z4,Z5,f87r0,f87r1,f87c1_eq,f87c0_eq]
 refine search_ok cs key h S hs hn ?_
 intro h1 e1
 try simp (disch:=first|exact Lb rfl|omega) only [AXR,AXB,J.dst,reduceIte,Z1,Z2,Z3,Z4,Z5,f87r0,f87r1,f87c1_eq,f87c0_eq]
 exact hR _ e1
end Go.Proofs.Ytefghfgmkndikaa
namespace Go.Proofs.Ytefghfgmkndikaa
open Go Go.AX
/-- All rows of versions may be counted. -/
def Fit (cs : List Cell) : Prop := ∀ c ∈ cs,c.vers.length ≤ maxLen
theorem findK_lt (cs : List Cell) (key : ByteArray) : findK cs key < cs.length := by
 unfold findK
 split
 ·rename_i i hi
  obtain ⟨h,_⟩ := List.findIdx?_eq_some_iff_getElem.1 hi
  omega
 ·omega
end Go.Proofs.Ytefghfgmkndikaa
namespace Go.AX
open Go
theorem Own.room {lo : Nat} {h : Heap} {e s : Nat} {a : Option Addr} {n c : Nat} {xs : List Value} (O : Own lo h e s a n c xs) : n ≤ c ∧ c ≤ maxLen := by
 rcases O.2 with ⟨_,h1,h2⟩ | ⟨g,cur,_,_,_,h1,h2,_⟩
 ·subst h1; subst h2; exact ⟨Nat.le_refl _,Nat.zero_le _⟩
 ·exact ⟨h1,h2⟩
theorem Own.blk {lo : Nat} {h : Heap} {e s : Nat} {a : Option Addr} {n c : Nat} {xs : List Value} (O : Own lo h e s a n c xs) (hn : 0 < c) : ∃ g cur,a = some ⟨g,0,none⟩ ∧ lo ≤ g ∧ Blk h g e cur ∧ cur.length = c * s ∧ cur.take (n * s) = xs := by
 rcases O.2 with ⟨_,_,h2⟩ | ⟨g,cur,rfl,h1,h2,h3,h4,h5,h6⟩
 ·omega
 ·exact ⟨g,cur.toList,rfl,h1,by unfold Blk; simpa using h2,by simpa using h5,h6⟩
theorem Own.of_blk {lo : Nat} {h : Heap} {e s g n c : Nat} {xs cur : List Value} (hg : lo ≤ g) (B : Blk h g e cur) (hc : cur.length = c * s) (hn : n ≤ c) (hm : c ≤ maxLen) (hx : cur.take (n * s) = xs) : Own lo h e s (some ⟨g,0,none⟩) n c xs := by
 have hle : n * s ≤ c * s := Nat.mul_le_mul_right _ hn
 refine ⟨by rw [← hx,List.length_take]; omega,.inr ⟨g,cur.toArray,rfl,hg,B,hn,hm,by simpa using hc,by simpa using hx⟩⟩
/-- The new element in its place: shifted in place. -/
theorem ins_shift {cur xs news : List Value} {i n c s : Nat} (hi : i < n) (hc : n + 1 ≤ c) (hl : cur.length = c * s) (hx : cur.take (n * s) = xs) (hn : news.length = s) :
  (((cur.take ((i + 1) * s) ++ (xs.drop (i * s)) ++ cur.drop ((i + 1) * s + (xs.drop (i * s)).length)).take (i * s) ++ news ++
   (cur.take ((i + 1) * s) ++ (xs.drop (i * s)) ++ cur.drop ((i + 1) * s + (xs.drop (i * s)).length)).drop (i * s + news.length)).take ((n + 1) * s)) = xs.take (i * s) ++ news ++ xs.drop (i * s) := by
 have h1 : i * s ≤ n * s := Nat.mul_le_mul_right _ (by omega)
 have h2 : (n + 1) * s ≤ c * s := Nat.mul_le_mul_right _ hc
 have e1 : (i + 1) * s = i * s + s := by rw [Nat.add_mul]; omega
 have e2 : (n + 1) * s = n * s + s := by rw [Nat.add_mul]; omega
 have e3 : (i + 1) * s ≤ n * s := Nat.mul_le_mul_right _ hi
 have hxl : xs.length = n * s := by rw [← hx,List.length_take]; omega
 have hd : (xs.drop (i * s)).length = n * s - i * s := by rw [List.length_drop,hxl]
 apply List.ext_getElem?
 intro j
 rw [hd,hn]
 simp only [List.getElem?_take,List.getElem?_append,List.getElem?_drop,List.length_take,List.length_append,List.length_drop,hl,hxl,hn,← hx]
 generalize i * s = p at *
 generalize n * s = q at *
 generalize c * s = r at *
 simp only [e1,e2] at *
 repeat' split
 all_goals first | omega | rfl | (congr 1; omega) | skip
 all_goals try (exfalso; omega)
theorem ins_grow {xs news zs : List Value} {i n s : Nat} (hi : i ≤ n) (hxl : xs.length = n * s) (hn : news.length = s) (hz : (n + 1) * s ≤ i * s + zs.length) :
  ((((xs.take (i * s) ++ zs).take (i * s) ++ news ++ (xs.take (i * s) ++ zs).drop (i * s + news.length)).take ((i + 1) * s) ++ xs.drop (i * s) ++
   ((xs.take (i * s) ++ zs).take (i * s) ++ news ++ (xs.take (i * s) ++ zs).drop (i * s + news.length)).drop ((i + 1) * s + (xs.drop (i * s)).length)).take ((n + 1) * s)) = xs.take (i * s) ++ news ++ xs.drop (i * s) := by
 have h1 : i * s ≤ n * s := Nat.mul_le_mul_right _ hi
 have e1 : (i + 1) * s = i * s + s := by rw [Nat.add_mul]; omega
 have e2 : (n + 1) * s = n * s + s := by rw [Nat.add_mul]; omega
 apply List.ext_getElem?
 intro j
 simp only [List.getElem?_take,List.getElem?_append,List.getElem?_drop,List.length_take,List.length_append,List.length_drop,hxl,hn]
 generalize i * s = p at *
 generalize n * s = q at *
 simp only [e1,e2] at *
 repeat' split
 all_goals first | omega | rfl | (congr 1; omega) | skip
 all_goals first | (exfalso; omega) | (rw [List.getElem?_eq_none (by omega)])
end Go.AX
namespace Go.Proofs.Ytefghfgmkndikaa
open Go Go.AX
theorem slT101 : slT Try.prog 101 108 4 40 = true := by kernel_rfl
theorem slT74 : slT Try.prog 74 103 12 128 = true := by kernel_rfl
theorem slT45 : slT Try.prog 45 99 2 32 = true := by kernel_rfl
/-- slices.Insert of one element. -/
theorem insV_ok {lo : Nat} {a : Option Addr} {n c i vb : Nat} {xs news : List Value} (h : Heap) (O : Own lo h 108 4 a n c xs) (hlo : lo ≤ h.size) (hi : i ≤ n) (hb : (n + 1) * 40 ≤ 140737488355328) (V : Blk h vb 108 news) (hnl : news.length = 4)
  (h1x : ∀ v ∈ xs,v.oneCell' = true) (h1n : ∀ v ∈ news,v.oneCell' = true) (hvb : a = none ∨ some vb ≠ ob a) (hlt : n < maxLen) {R : Value → Heap → Prop}
  (hR : ∀ a' c' h',Own lo h' 108 4 a' (n + 1) c' (xs.take (i * 4) ++ news ++ xs.drop (i * 4)) → Gr (ob a) h h' → (ob a' = ob a ∨ ∃ k,ob a' = some k ∧ h.size ≤ k) → R (.slice a' (n + 1) c') h') :
  CallsH Try.prog 115 [.slice a n c,vi i,sl vb 0 1 1] h R := by
 obtain ⟨hr1,hr2⟩ := O.room
 have hxl := O.1
 unfold maxLen at *
 refine f115ok (by simp) ?_
 (try simp (disch:=first|exact Lb rfl|omega) only [AXR,AXB,J.dst,reduceIte,Z1,Z2,Z3,Z4,Z5]); rw [f115c0_eq]; (try simp (disch:=first|exact Lb rfl|omega) only [AXR,AXB,J.dst,reduceIte,Z1,Z2,Z3,Z4,Z5,f115r0]); rw [f115c1_eq]; (try simp (disch:=first|exact Lb rfl|omega) only [AXR,AXB,J.dst,reduceIte,Z1,Z2,Z3,Z4,Z5,f115r1])
 refine slc_lo' (l := i) hi hr1 ?_
 intro a0 _
 (try simp (disch:=first|exact Lb rfl|omega) only [AXR,AXB,J.dst,reduceIte,Z1,Z2,Z3,Z4,Z5]); rw [f115c2_eq]; (try simp (disch:=first|exact Lb rfl|omega) only [AXR,AXB,J.dst,reduceIte,Z1,Z2,Z3,Z4,Z5,f115r2]); rw [f115c3_eq]; (try simp (disch:=first|exact Lb rfl|omega) only [AXR,AXB,J.dst,reduceIte,Z1,Z2,Z3,Z4,Z5,f115r3]); rw [f115c4_eq]; (try simp (disch:=first|exact Lb rfl|omega) only [AXR,AXB,J.dst,reduceIte,Z1,Z2,Z3,Z4,Z5])
 rw [show (((1 : Nat) : Int) == 0) = false from rfl,br_false]
 (try simp (disch:=first|exact Lb rfl|omega) only [AXR,AXB,J.dst,reduceIte,Z1,Z2,Z3,Z4,Z5]); rw [f115c6_eq]; (try simp (disch:=first|exact Lb rfl|omega) only [AXR,AXB,J.dst,reduceIte,Z1,Z2,Z3,Z4,Z5,f115r5]); rw [f115c7_eq]; (try simp (disch:=first|exact Lb rfl|omega) only [AXR,AXB,J.dst,reduceIte,Z1,Z2,Z3,Z4,Z5,f115r6]); rw [f115c8_eq]; (try simp (disch:=first|exact Lb rfl|omega) only [AXR,AXB,J.dst,reduceIte,Z1,Z2,Z3,Z4,Z5])
 refine ⟨fun h1 => ?_,fun h1 => ?_⟩
 ·have hin : i = n := by have := eq_of_beq h1; omega
  subst hin
  (try simp (disch:=first|exact Lb rfl|omega) only [AXR,AXB,J.dst,reduceIte,Z1,Z2,Z3,Z4,Z5]); rw [f115c9_eq]; (try simp (disch:=first|exact Lb rfl|omega) only [AXR,AXB,J.dst,reduceIte,Z1,Z2,Z3,Z4,Z5,f115r7])
  rw [wL_raw]
  refine raw_append slT101 rfl rfl rfl O (by omega) (.inr ⟨vb,0,rfl,V.row⟩) h1n (by unfold maxLen; omega) hb hlo ?_
  intro a' c' h' O' G' A'
  refine ⟨trivial,?_⟩
  try simp (disch:=first|exact Lb rfl|omega) only [AXR,AXB,J.dst,reduceIte,Z1,Z2,Z3,Z4,Z5]
  refine hR _ _ _ ?_ G' A'
  have e1 : xs.take (i * 4) = xs := List.take_of_length_le (by omega)
  have e2 : xs.drop (i * 4) = [] := List.drop_of_length_le (by omega)
  rw [e1,e2,List.append_nil] at *
  exact O'
 have hin : i < n := by
  have : (i : Int) ≠ n := by simpa using h1
  omega
 obtain ⟨g,cur,rfl,hg,G,hcl,hct⟩ := O.blk (by omega)
 have hvb : vb ≠ g := by
  rcases hvb with hv | hv
  ·cases hv
  ·exact fun e => hv (by rw [e]; rfl)
 have hw : IntKind.i64.wrap ((n : Int) + ((1 : Nat) : Int)) = ((n + 1 : Nat) : Int) := i64_wrap (by omega) (by omega)
 have hwi : IntKind.i64.wrap ((i : Int) + ((1 : Nat) : Int)) = ((i + 1 : Nat) : Int) := i64_wrap (by omega) (by omega)
 have hwd : IntKind.i64.wrap (((n + 1 : Nat) : Int) - (i : Int)) = ((n + 1 - i : Nat) : Int) := by rw [i64_wrap (by omega) (by omega)]; omega
 (try simp (disch:=first|exact Lb rfl|omega) only [AXR,AXB,J.dst,reduceIte,Z1,Z2,Z3,Z4,Z5]); rw [f115c10_eq]; (try simp (disch:=first|exact Lb rfl|omega) only [AXR,AXB,J.dst,reduceIte,Z1,Z2,Z3,Z4,Z5,f115r8,hw]); rw [f115c11_eq]; (try simp (disch:=first|exact Lb rfl|omega) only [AXR,AXB,J.dst,reduceIte,Z1,Z2,Z3,Z4,Z5,hw])
 refine ⟨fun h2 => ?_,fun h2 => ?_⟩
 ·have hroom : c < n + 1 := by have := of_decide_eq_true h2; omega
  (try simp (disch:=first|exact Lb rfl|omega) only [AXR,AXB,J.dst,reduceIte,Z1,Z2,Z3,Z4,Z5]); rw [f115c12_eq]; (try simp (disch:=first|exact Lb rfl|omega) only [AXR,AXB,J.dst,reduceIte,Z1,Z2,Z3,Z4,Z5,f115r9])
  refine slc_hi (u := i) (by omega) ?_
  simp (disch:=first|exact Lb rfl|omega) only [AXR,AXB,J.dst,reduceIte,Z1,Z2,Z3,Z4,Z5,hw,hwd]
  rw [wL_raw]
  have hrow : Row h g 0 (xs.take (i * 4)) := by
   obtain ⟨g',e,_,hr⟩ := O.row (by omega)
   cases e
   have := hr.sub 0 (i * 4)
   simpa using this
  have hsum : i + (n + 1 - i) = n + 1 := by omega
  refine raw_zeros (kn := .i64) slT101 (by kernel_rfl) rfl (k := n + 1 - i) (n := i) rfl rfl hrow (by rw [List.length_take]; omega) (by omega) (by omega) (by unfold maxLen; omega) (by rw [hsum]; exact hb) ?_
  intro h3 c3 zs e3 s3 hc3 hm3 hz3 B3
  rw [hsum] at hc3 ⊢
  unfold maxLen at hm3
  refine ⟨trivial,?_⟩
  try simp (disch:=first|exact Lb rfl|omega) only [AXR,AXB,J.dst,reduceIte,Z1,Z2,Z3,Z4,Z5]
  (try simp (disch:=first|exact Lb rfl|omega) only [AXR,AXB,J.dst,reduceIte,Z1,Z2,Z3,Z4,Z5]); rw [f115c13_eq]; (try simp (disch:=first|exact Lb rfl|omega) only [AXR,AXB,J.dst,reduceIte,Z1,Z2,Z3,Z4,Z5,f115r10])
  refine slc_lo (l := i) (by omega) (by omega) (by omega) ?_
  try simp (disch:=first|exact Lb rfl|omega) only [AXR,AXB,J.dst,reduceIte,Z1,Z2,Z3,Z4,Z5]
  rw [wL_raw]
  have V3 := V.ext e3
  have hgs := G.lt
  have hvs := V.lt
  have hl3 : (xs.take (i * 4) ++ zs).length = c3 * 4 := by
   rw [List.length_append,List.length_take,hz3]
   omega
  refine raw_copy slT101 rfl rfl rfl B3 (cs := news) (by rw [hnl,Nat.min_eq_left (by omega)]) V3.row (by rw [hl3,hnl]; omega) h1n ?_
  intro h4 u4 B4
  refine ⟨trivial,?_⟩
  try simp (disch:=first|exact Lb rfl|omega) only [AXR,AXB,J.dst,reduceIte,Z1,Z2,Z3,Z4,Z5]
  (try simp (disch:=first|exact Lb rfl|omega) only [AXR,AXB,J.dst,reduceIte,Z1,Z2,Z3,Z4,Z5]); rw [f115c14_eq]; (try simp (disch:=first|exact Lb rfl|omega) only [AXR,AXB,J.dst,reduceIte,Z1,Z2,Z3,Z4,Z5,f115r11])
  refine ⟨fun _ => False,fun b hb => hb.elim,?_⟩
  simp (disch:=first|exact Lb rfl|omega) only [AXR,AXB,J.dst,reduceIte,Z1,Z2,Z3,Z4,Z5,f115r11,hwi]
  refine slc_lo (l := i + 1) (by omega) (by omega) (by omega) ?_
  try simp (disch:=first|exact Lb rfl|omega) only [AXR,AXB,J.dst,reduceIte,Z1,Z2,Z3,Z4,Z5]
  refine slc_lo (l := i) (by omega) (by omega) (by omega) ?_
  try simp (disch:=first|exact Lb rfl|omega) only [AXR,AXB,J.dst,reduceIte,Z1,Z2,Z3,Z4,Z5]
  rw [wL_raw]
  have hrow4 : Row h4 g (0 + i * 4) (xs.drop (i * 4)) := by
   obtain ⟨g',e,_,hr⟩ := O.row (by omega)
   cases e
   have := (hr.ext e3).sub (i * 4) (n * 4 - i * 4)
   rw [List.take_of_length_le (by rw [List.length_drop]; omega)] at this
   exact this.at_ (u4.ne g (by omega))
  have hdl : (xs.drop (i * 4)).length = n * 4 - i * 4 := by rw [List.length_drop]; omega
  refine raw_copy slT101 rfl rfl rfl B4 (cs := xs.drop (i * 4)) (by rw [hdl,Nat.min_eq_left (by omega)]; omega) hrow4 ?_ (fun v hv => h1x v (List.mem_of_mem_drop hv)) ?_
  ·rw [hdl]
   simp only [List.length_append,List.length_take,List.length_drop,hnl] at hl3 ⊢
   omega
  intro h5 u5 B5
  refine ⟨fun b hb => hb.elim,?_⟩
  try simp (disch:=first|exact Lb rfl|omega) only [AXR,AXB,J.dst,reduceIte,Z1,Z2,Z3,Z4,Z5]
  (try simp (disch:=first|exact Lb rfl|omega) only [AXR,AXB,J.dst,reduceIte,Z1,Z2,Z3,Z4,Z5]); rw [f115c15_eq]; (try simp (disch:=first|exact Lb rfl|omega) only [AXR,AXB,J.dst,reduceIte,Z1,Z2,Z3,Z4,Z5,f115r12])
  simp only [Nat.zero_add] at B5
  have hcl5 : ∀ {l m : List Value} {p : Nat},p + m.length ≤ l.length → (l.take p ++ m ++ l.drop (p + m.length)).length = l.length := fun h => by simp; omega
  have hl4 := hcl5 (l := xs.take (i * 4) ++ zs) (m := news) (p := i * 4) (by rw [hl3,hnl]; omega)
  refine hR _ _ _ (Own.of_blk hlo B5 ?_ hc3 (by unfold maxLen; omega) (ins_grow (by omega) hxl hnl ?_)) ((u5.ext (u4.ext e3 (Nat.le_refl _)) (Nat.le_refl _)).gr _) (.inr ⟨_,rfl,Nat.le_refl _⟩)
  ·rw [hcl5 (by rw [hl4,hl3,hdl]; omega),hl4,hl3]
  ·rw [hz3]; omega
 ·have hroom : n + 1 ≤ c := by have := of_decide_eq_false h2; omega
  (try simp (disch:=first|exact Lb rfl|omega) only [AXR,AXB,J.dst,reduceIte,Z1,Z2,Z3,Z4,Z5]); rw [f115c16_eq]; (try simp (disch:=first|exact Lb rfl|omega) only [AXR,AXB,J.dst,reduceIte,Z1,Z2,Z3,Z4,Z5,f115r13,hw])
  refine slc_hi (u := n + 1) (by omega) ?_
  try simp (disch:=first|exact Lb rfl|omega) only [AXR,AXB,J.dst,reduceIte,Z1,Z2,Z3,Z4,Z5]
  (try simp (disch:=first|exact Lb rfl|omega) only [AXR,AXB,J.dst,reduceIte,Z1,Z2,Z3,Z4,Z5]); rw [f115c17_eq]; (try simp (disch:=first|exact Lb rfl|omega) only [AXR,AXB,J.dst,reduceIte,Z1,Z2,Z3,Z4,Z5,f115r14,hwi])
  refine slc_lo (l := i + 1) (by omega) (by omega) (by omega) ?_
  try simp (disch:=first|exact Lb rfl|omega) only [AXR,AXB,J.dst,reduceIte,Z1,Z2,Z3,Z4,Z5]
  rw [wL_raw]
  refine raw_overlaps slT101 rfl Try.func137 (by kernel_rfl) (by kernel_rfl) (by kernel_rfl) (tR := 4) (by kernel_rfl) rfl rfl V G hvb (by omega) ?_
  refine ⟨trivial,?_⟩
  try simp (disch:=first|exact Lb rfl|omega) only [AXR,AXB,J.dst,reduceIte,Z1,Z2,Z3,Z4,Z5]
  (try simp (disch:=first|exact Lb rfl|omega) only [AXR,AXB,J.dst,reduceIte,Z1,Z2,Z3,Z4,Z5]); rw [f115c18_eq]; (try simp (disch:=first|exact Lb rfl|omega) only [AXR,AXB,J.dst,reduceIte,Z1,Z2,Z3,Z4,Z5])
  (try simp (disch:=first|exact Lb rfl|omega) only [AXR,AXB,J.dst,reduceIte,Z1,Z2,Z3,Z4,Z5]); rw [f115c19_eq]; (try simp (disch:=first|exact Lb rfl|omega) only [AXR,AXB,J.dst,reduceIte,Z1,Z2,Z3,Z4,Z5,f115r15])
  refine ⟨fun _ => False,fun b hb => hb.elim,?_⟩
  simp (disch:=first|exact Lb rfl|omega) only [AXR,AXB,J.dst,reduceIte,Z1,Z2,Z3,Z4,Z5,f115r15,hwi]
  refine slc_lo (l := i + 1) (by omega) (by omega) (by omega) ?_
  try simp (disch:=first|exact Lb rfl|omega) only [AXR,AXB,J.dst,reduceIte,Z1,Z2,Z3,Z4,Z5]
  refine slc_lo (l := i) (by omega) (by omega) (by omega) ?_
  try simp (disch:=first|exact Lb rfl|omega) only [AXR,AXB,J.dst,reduceIte,Z1,Z2,Z3,Z4,Z5]
  rw [wL_raw]
  have hcx : (cur.take (n * 4)).length = n * 4 := by rw [hct,hxl]
  have hcn : n * 4 ≤ cur.length := by rw [hcl]; omega
  have hrow : Row h g (0 + i * 4) (xs.drop (i * 4)) := by
   obtain ⟨g',e,_,hr⟩ := O.row (by omega)
   cases e
   have := hr.sub (i * 4) (n * 4 - i * 4)
   rw [List.take_of_length_le (by rw [List.length_drop]; omega)] at this
   exact this
  have hdl : (xs.drop (i * 4)).length = n * 4 - i * 4 := by rw [List.length_drop]; omega
  refine raw_copy slT101 rfl rfl rfl G (cs := xs.drop (i * 4)) (by rw [hdl,Nat.min_eq_right (by omega)]; omega) hrow (by rw [hdl,hcl]; omega) (fun v hv => h1x v (List.mem_of_mem_drop hv)) ?_
  intro h3 u3 B3
  refine ⟨fun b hb => hb.elim,?_⟩
  try simp (disch:=first|exact Lb rfl|omega) only [AXR,AXB,J.dst,reduceIte,Z1,Z2,Z3,Z4,Z5]
  have hcl5 : ∀ {l m : List Value} {p : Nat},p + m.length ≤ l.length → (l.take p ++ m ++ l.drop (p + m.length)).length = l.length := fun h => by simp; omega
  (try simp (disch:=first|exact Lb rfl|omega) only [AXR,AXB,J.dst,reduceIte,Z1,Z2,Z3,Z4,Z5]); rw [f115c20_eq]; (try simp (disch:=first|exact Lb rfl|omega) only [AXR,AXB,J.dst,reduceIte,Z1,Z2,Z3,Z4,Z5,f115r16])
  refine slc_lo (l := i) (by omega) (by omega) (by omega) ?_
  try simp (disch:=first|exact Lb rfl|omega) only [AXR,AXB,J.dst,reduceIte,Z1,Z2,Z3,Z4,Z5]
  rw [wL_raw]
  have V3 := u3.blk V hvb
  simp only [Nat.zero_add] at B3 ⊢
  have hl3 := hcl5 (l := cur) (m := xs.drop (i * 4)) (p := (i + 1) * 4) (by rw [hdl,hcl]; omega)
  refine raw_copy slT101 rfl rfl rfl B3 (cs := news) (by rw [hnl,Nat.min_eq_left (by omega)]) V3.row (by rw [hl3,hnl,hcl]; omega) h1n ?_
  intro h4 u4 B4
  refine ⟨trivial,?_⟩
  try simp (disch:=first|exact Lb rfl|omega) only [AXR,AXB,J.dst,reduceIte,Z1,Z2,Z3,Z4,Z5]
  (try simp (disch:=first|exact Lb rfl|omega) only [AXR,AXB,J.dst,reduceIte,Z1,Z2,Z3,Z4,Z5]); rw [f115c21_eq]; (try simp (disch:=first|exact Lb rfl|omega) only [AXR,AXB,J.dst,reduceIte,Z1,Z2,Z3,Z4,Z5,f115r17])
  refine hR _ _ _ (Own.of_blk hg B4 ?_ hroom (by unfold maxLen; omega) (ins_shift hin hroom hcl hct hnl)) (u3.gr.trans u4.gr) (.inl rfl)
  rw [hcl5 (by rw [hl3,hnl,hcl]; omega),hl3,hcl]
end Go.Proofs.Ytefghfgmkndikaa
namespace Go.Proofs.Ytefghfgmkndikaa
open Go Go.AX
/-- slices.Insert of one element. -/
theorem insC_ok {lo : Nat} {a : Option Addr} {n c i vb : Nat} {xs news : List Value} (h : Heap) (O : Own lo h 103 12 a n c xs) (hlo : lo ≤ h.size) (hi : i ≤ n) (hb : (n + 1) * 128 ≤ 140737488355328) (V : Blk h vb 103 news) (hnl : news.length = 12)
  (h1x : ∀ v ∈ xs,v.oneCell' = true) (h1n : ∀ v ∈ news,v.oneCell' = true) (hvb : a = none ∨ some vb ≠ ob a) (hlt : n < maxLen) {R : Value → Heap → Prop}
  (hR : ∀ a' c' h',Own lo h' 103 12 a' (n + 1) c' (xs.take (i * 12) ++ news ++ xs.drop (i * 12)) → Gr (ob a) h h' → (ob a' = ob a ∨ ∃ k,ob a' = some k ∧ h.size ≤ k) → R (.slice a' (n + 1) c') h') :
  CallsH Try.prog 88 [.slice a n c,vi i,sl vb 0 1 1] h R := by
 obtain ⟨hr1,hr2⟩ := O.room
 have hxl := O.1
 unfold maxLen at *
 refine f88ok (by simp) ?_
 (try simp (disch:=first|exact Lb rfl|omega) only [AXR,AXB,J.dst,reduceIte,Z1,Z2,Z3,Z4,Z5]); rw [f88c0_eq]; (try simp (disch:=first|exact Lb rfl|omega) only [AXR,AXB,J.dst,reduceIte,Z1,Z2,Z3,Z4,Z5,f88r0]); rw [f88c1_eq]; (try simp (disch:=first|exact Lb rfl|omega) only [AXR,AXB,J.dst,reduceIte,Z1,Z2,Z3,Z4,Z5,f88r1])
 refine slc_lo' (l := i) hi hr1 ?_
 intro a0 _
 (try simp (disch:=first|exact Lb rfl|omega) only [AXR,AXB,J.dst,reduceIte,Z1,Z2,Z3,Z4,Z5]); rw [f88c2_eq]; (try simp (disch:=first|exact Lb rfl|omega) only [AXR,AXB,J.dst,reduceIte,Z1,Z2,Z3,Z4,Z5,f88r2]); rw [f88c3_eq]; (try simp (disch:=first|exact Lb rfl|omega) only [AXR,AXB,J.dst,reduceIte,Z1,Z2,Z3,Z4,Z5,f88r3]); rw [f88c4_eq]; (try simp (disch:=first|exact Lb rfl|omega) only [AXR,AXB,J.dst,reduceIte,Z1,Z2,Z3,Z4,Z5])
 rw [show (((1 : Nat) : Int) == 0) = false from rfl,br_false]
 (try simp (disch:=first|exact Lb rfl|omega) only [AXR,AXB,J.dst,reduceIte,Z1,Z2,Z3,Z4,Z5]); rw [f88c6_eq]; (try simp (disch:=first|exact Lb rfl|omega) only [AXR,AXB,J.dst,reduceIte,Z1,Z2,Z3,Z4,Z5,f88r5]); rw [f88c7_eq]; (try simp (disch:=first|exact Lb rfl|omega) only [AXR,AXB,J.dst,reduceIte,Z1,Z2,Z3,Z4,Z5,f88r6]); rw [f88c8_eq]; (try simp (disch:=first|exact Lb rfl|omega) only [AXR,AXB,J.dst,reduceIte,Z1,Z2,Z3,Z4,Z5])
 refine ⟨fun h1 => ?_,fun h1 => ?_⟩
 ·have hin : i = n := by have := eq_of_beq h1; omega
  subst hin
  (try simp (disch:=first|exact Lb rfl|omega) only [AXR,AXB,J.dst,reduceIte,Z1,Z2,Z3,Z4,Z5]); rw [f88c9_eq]; (try simp (disch:=first|exact Lb rfl|omega) only [AXR,AXB,J.dst,reduceIte,Z1,Z2,Z3,Z4,Z5,f88r7])
  rw [wL_raw]
  refine raw_append slT74 rfl rfl rfl O (by omega) (.inr ⟨vb,0,rfl,V.row⟩) h1n (by unfold maxLen; omega) hb hlo ?_
  intro a' c' h' O' G' A'
  refine ⟨trivial,?_⟩
  try simp (disch:=first|exact Lb rfl|omega) only [AXR,AXB,J.dst,reduceIte,Z1,Z2,Z3,Z4,Z5]
  refine hR _ _ _ ?_ G' A'
  have e1 : xs.take (i * 12) = xs := List.take_of_length_le (by omega)
  have e2 : xs.drop (i * 12) = [] := List.drop_of_length_le (by omega)
  rw [e1,e2,List.append_nil] at *
  exact O'
 have hin : i < n := by
  have : (i : Int) ≠ n := by simpa using h1
  omega
 obtain ⟨g,cur,rfl,hg,G,hcl,hct⟩ := O.blk (by omega)
 have hvb : vb ≠ g := by
  rcases hvb with hv | hv
  ·cases hv
  ·exact fun e => hv (by rw [e]; rfl)
 have hw : IntKind.i64.wrap ((n : Int) + ((1 : Nat) : Int)) = ((n + 1 : Nat) : Int) := i64_wrap (by omega) (by omega)
 have hwi : IntKind.i64.wrap ((i : Int) + ((1 : Nat) : Int)) = ((i + 1 : Nat) : Int) := i64_wrap (by omega) (by omega)
 have hwd : IntKind.i64.wrap (((n + 1 : Nat) : Int) - (i : Int)) = ((n + 1 - i : Nat) : Int) := by rw [i64_wrap (by omega) (by omega)]; omega
 (try simp (disch:=first|exact Lb rfl|omega) only [AXR,AXB,J.dst,reduceIte,Z1,Z2,Z3,Z4,Z5]); rw [f88c10_eq]; (try simp (disch:=first|exact Lb rfl|omega) only [AXR,AXB,J.dst,reduceIte,Z1,Z2,Z3,Z4,Z5,f88r8,hw]); rw [f88c11_eq]; (try simp (disch:=first|exact Lb rfl|omega) only [AXR,AXB,J.dst,reduceIte,Z1,Z2,Z3,Z4,Z5,hw])
 refine ⟨fun h2 => ?_,fun h2 => ?_⟩
 ·have hroom : c < n + 1 := by have := of_decide_eq_true h2; omega
  (try simp (disch:=first|exact Lb rfl|omega) only [AXR,AXB,J.dst,reduceIte,Z1,Z2,Z3,Z4,Z5]); rw [f88c12_eq]; (try simp (disch:=first|exact Lb rfl|omega) only [AXR,AXB,J.dst,reduceIte,Z1,Z2,Z3,Z4,Z5,f88r9])
  refine slc_hi (u := i) (by omega) ?_
  simp (disch:=first|exact Lb rfl|omega) only [AXR,AXB,J.dst,reduceIte,Z1,Z2,Z3,Z4,Z5,hw,hwd]
  rw [wL_raw]
  have hrow : Row h g 0 (xs.take (i * 12)) := by
   obtain ⟨g',e,_,hr⟩ := O.row (by omega)
   cases e
   have := hr.sub 0 (i * 12)
   simpa using this
  have hsum : i + (n + 1 - i) = n + 1 := by omega
  refine raw_zeros (kn := .i64) slT74 (by kernel_rfl) rfl (k := n + 1 - i) (n := i) rfl rfl hrow (by rw [List.length_take]; omega) (by omega) (by omega) (by unfold maxLen; omega) (by rw [hsum]; exact hb) ?_
  intro h3 c3 zs e3 s3 hc3 hm3 hz3 B3
  rw [hsum] at hc3 ⊢
  unfold maxLen at hm3
  refine ⟨trivial,?_⟩
  try simp (disch:=first|exact Lb rfl|omega) only [AXR,AXB,J.dst,reduceIte,Z1,Z2,Z3,Z4,Z5]
  (try simp (disch:=first|exact Lb rfl|omega) only [AXR,AXB,J.dst,reduceIte,Z1,Z2,Z3,Z4,Z5]); rw [f88c13_eq]; (try simp (disch:=first|exact Lb rfl|omega) only [AXR,AXB,J.dst,reduceIte,Z1,Z2,Z3,Z4,Z5,f88r10])
  refine slc_lo (l := i) (by omega) (by omega) (by omega) ?_
  try simp (disch:=first|exact Lb rfl|omega) only [AXR,AXB,J.dst,reduceIte,Z1,Z2,Z3,Z4,Z5]
  rw [wL_raw]
  have V3 := V.ext e3
  have hgs := G.lt
  have hvs := V.lt
  have hl3 : (xs.take (i * 12) ++ zs).length = c3 * 12 := by
   rw [List.length_append,List.length_take,hz3]
   omega
  refine raw_copy slT74 rfl rfl rfl B3 (cs := news) (by rw [hnl,Nat.min_eq_left (by omega)]) V3.row (by rw [hl3,hnl]; omega) h1n ?_
  intro h4 u4 B4
  refine ⟨trivial,?_⟩
  try simp (disch:=first|exact Lb rfl|omega) only [AXR,AXB,J.dst,reduceIte,Z1,Z2,Z3,Z4,Z5]
  (try simp (disch:=first|exact Lb rfl|omega) only [AXR,AXB,J.dst,reduceIte,Z1,Z2,Z3,Z4,Z5]); rw [f88c14_eq]; (try simp (disch:=first|exact Lb rfl|omega) only [AXR,AXB,J.dst,reduceIte,Z1,Z2,Z3,Z4,Z5,f88r11])
  refine ⟨fun _ => False,fun b hb => hb.elim,?_⟩
  simp (disch:=first|exact Lb rfl|omega) only [AXR,AXB,J.dst,reduceIte,Z1,Z2,Z3,Z4,Z5,f88r11,hwi]
  refine slc_lo (l := i + 1) (by omega) (by omega) (by omega) ?_
  try simp (disch:=first|exact Lb rfl|omega) only [AXR,AXB,J.dst,reduceIte,Z1,Z2,Z3,Z4,Z5]
  refine slc_lo (l := i) (by omega) (by omega) (by omega) ?_
  try simp (disch:=first|exact Lb rfl|omega) only [AXR,AXB,J.dst,reduceIte,Z1,Z2,Z3,Z4,Z5]
  rw [wL_raw]
  have hrow4 : Row h4 g (0 + i * 12) (xs.drop (i * 12)) := by
   obtain ⟨g',e,_,hr⟩ := O.row (by omega)
   cases e
   have := (hr.ext e3).sub (i * 12) (n * 12 - i * 12)
   rw [List.take_of_length_le (by rw [List.length_drop]; omega)] at this
   exact this.at_ (u4.ne g (by omega))
  have hdl : (xs.drop (i * 12)).length = n * 12 - i * 12 := by rw [List.length_drop]; omega
  refine raw_copy slT74 rfl rfl rfl B4 (cs := xs.drop (i * 12)) (by rw [hdl,Nat.min_eq_left (by omega)]; omega) hrow4 ?_ (fun v hv => h1x v (List.mem_of_mem_drop hv)) ?_
  ·rw [hdl]
   simp only [List.length_append,List.length_take,List.length_drop,hnl] at hl3 ⊢
   omega
  intro h5 u5 B5
  refine ⟨fun b hb => hb.elim,?_⟩
  try simp (disch:=first|exact Lb rfl|omega) only [AXR,AXB,J.dst,reduceIte,Z1,Z2,Z3,Z4,Z5]
  (try simp (disch:=first|exact Lb rfl|omega) only [AXR,AXB,J.dst,reduceIte,Z1,Z2,Z3,Z4,Z5]); rw [f88c15_eq]; (try simp (disch:=first|exact Lb rfl|omega) only [AXR,AXB,J.dst,reduceIte,Z1,Z2,Z3,Z4,Z5,f88r12])
  simp only [Nat.zero_add] at B5
  have hcl5 : ∀ {l m : List Value} {p : Nat},p + m.length ≤ l.length → (l.take p ++ m ++ l.drop (p + m.length)).length = l.length := fun h => by simp; omega
  have hl4 := hcl5 (l := xs.take (i * 12) ++ zs) (m := news) (p := i * 12) (by rw [hl3,hnl]; omega)
  refine hR _ _ _ (Own.of_blk hlo B5 ?_ hc3 (by unfold maxLen; omega) (ins_grow (by omega) hxl hnl ?_)) ((u5.ext (u4.ext e3 (Nat.le_refl _)) (Nat.le_refl _)).gr _) (.inr ⟨_,rfl,Nat.le_refl _⟩)
  ·rw [hcl5 (by rw [hl4,hl3,hdl]; omega),hl4,hl3]
  ·rw [hz3]; omega
 ·have hroom : n + 1 ≤ c := by have := of_decide_eq_false h2; omega
  (try simp (disch:=first|exact Lb rfl|omega) only [AXR,AXB,J.dst,reduceIte,Z1,Z2,Z3,Z4,Z5]); rw [f88c16_eq]; (try simp (disch:=first|exact Lb rfl|omega) only [AXR,AXB,J.dst,reduceIte,Z1,Z2,Z3,Z4,Z5,f88r13,hw])
  refine slc_hi (u := n + 1) (by omega) ?_
  try simp (disch:=first|exact Lb rfl|omega) only [AXR,AXB,J.dst,reduceIte,Z1,Z2,Z3,Z4,Z5]
  (try simp (disch:=first|exact Lb rfl|omega) only [AXR,AXB,J.dst,reduceIte,Z1,Z2,Z3,Z4,Z5]); rw [f88c17_eq]; (try simp (disch:=first|exact Lb rfl|omega) only [AXR,AXB,J.dst,reduceIte,Z1,Z2,Z3,Z4,Z5,f88r14,hwi])
  refine slc_lo (l := i + 1) (by omega) (by omega) (by omega) ?_
  try simp (disch:=first|exact Lb rfl|omega) only [AXR,AXB,J.dst,reduceIte,Z1,Z2,Z3,Z4,Z5]
  rw [wL_raw]
  refine raw_overlaps slT74 rfl Try.func119 (by kernel_rfl) (by kernel_rfl) (by kernel_rfl) (tR := 4) (by kernel_rfl) rfl rfl V G hvb (by omega) ?_
  refine ⟨trivial,?_⟩
  try simp (disch:=first|exact Lb rfl|omega) only [AXR,AXB,J.dst,reduceIte,Z1,Z2,Z3,Z4,Z5]
  (try simp (disch:=first|exact Lb rfl|omega) only [AXR,AXB,J.dst,reduceIte,Z1,Z2,Z3,Z4,Z5]); rw [f88c18_eq]; (try simp (disch:=first|exact Lb rfl|omega) only [AXR,AXB,J.dst,reduceIte,Z1,Z2,Z3,Z4,Z5])
  (try simp (disch:=first|exact Lb rfl|omega) only [AXR,AXB,J.dst,reduceIte,Z1,Z2,Z3,Z4,Z5]); rw [f88c19_eq]; (try simp (disch:=first|exact Lb rfl|omega) only [AXR,AXB,J.dst,reduceIte,Z1,Z2,Z3,Z4,Z5,f88r15])
  refine ⟨fun _ => False,fun b hb => hb.elim,?_⟩
  simp (disch:=first|exact Lb rfl|omega) only [AXR,AXB,J.dst,reduceIte,Z1,Z2,Z3,Z4,Z5,f88r15,hwi]
  refine slc_lo (l := i + 1) (by omega) (by omega) (by omega) ?_
  try simp (disch:=first|exact Lb rfl|omega) only [AXR,AXB,J.dst,reduceIte,Z1,Z2,Z3,Z4,Z5]
  refine slc_lo (l := i) (by omega) (by omega) (by omega) ?_
  try simp (disch:=first|exact Lb rfl|omega) only [AXR,AXB,J.dst,reduceIte,Z1,Z2,Z3,Z4,Z5]
  rw [wL_raw]
  have hcx : (cur.take (n * 12)).length = n * 12 := by rw [hct,hxl]
  have hcn : n * 12 ≤ cur.length := by rw [hcl]; omega
  have hrow : Row h g (0 + i * 12) (xs.drop (i * 12)) := by
   obtain ⟨g',e,_,hr⟩ := O.row (by omega)
   cases e
   have := hr.sub (i * 12) (n * 12 - i * 12)
   rw [List.take_of_length_le (by rw [List.length_drop]; omega)] at this
   exact this
  have hdl : (xs.drop (i * 12)).length = n * 12 - i * 12 := by rw [List.length_drop]; omega
  refine raw_copy slT74 rfl rfl rfl G (cs := xs.drop (i * 12)) (by rw [hdl,Nat.min_eq_right (by omega)]; omega) hrow (by rw [hdl,hcl]; omega) (fun v hv => h1x v (List.mem_of_mem_drop hv)) ?_
  intro h3 u3 B3
  refine ⟨fun b hb => hb.elim,?_⟩
  try simp (disch:=first|exact Lb rfl|omega) only [AXR,AXB,J.dst,reduceIte,Z1,Z2,Z3,Z4,Z5]
  have hcl5 : ∀ {l m : List Value} {p : Nat},p + m.length ≤ l.length → (l.take p ++ m ++ l.drop (p + m.length)).length = l.length := fun h => by simp; omega
  (try simp (disch:=first|exact Lb rfl|omega) only [AXR,AXB,J.dst,reduceIte,Z1,Z2,Z3,Z4,Z5]); rw [f88c20_eq]; (try simp (disch:=first|exact Lb rfl|omega) only [AXR,AXB,J.dst,reduceIte,Z1,Z2,Z3,Z4,Z5,f88r16])
  refine slc_lo (l := i) (by omega) (by omega) (by omega) ?_
  try simp (disch:=first|exact Lb rfl|omega) only [AXR,AXB,J.dst,reduceIte,Z1,Z2,Z3,Z4,Z5]
  rw [wL_raw]
  have V3 := u3.blk V hvb
  simp only [Nat.zero_add] at B3 ⊢
  have hl3 := hcl5 (l := cur) (m := xs.drop (i * 12)) (p := (i + 1) * 12) (by rw [hdl,hcl]; omega)
  refine raw_copy slT74 rfl rfl rfl B3 (cs := news) (by rw [hnl,Nat.min_eq_left (by omega)]) V3.row (by rw [hl3,hnl,hcl]; omega) h1n ?_
  intro h4 u4 B4
  refine ⟨trivial,?_⟩
  try simp (disch:=first|exact Lb rfl|omega) only [AXR,AXB,J.dst,reduceIte,Z1,Z2,Z3,Z4,Z5]
  (try simp (disch:=first|exact Lb rfl|omega) only [AXR,AXB,J.dst,reduceIte,Z1,Z2,Z3,Z4,Z5]); rw [f88c21_eq]; (try simp (disch:=first|exact Lb rfl|omega) only [AXR,AXB,J.dst,reduceIte,Z1,Z2,Z3,Z4,Z5,f88r17])
  refine hR _ _ _ (Own.of_blk hg B4 ?_ hroom (by unfold maxLen; omega) (ins_shift hin hroom hcl hct hnl)) (u3.gr.trans u4.gr) (.inl rfl)
  rw [hcl5 (by rw [hl3,hnl,hcl]; omega),hl3,hcl]
end Go.Proofs.Ytefghfgmkndikaa
